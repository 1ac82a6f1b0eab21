/- Plain lemmas (reachany): no program, no memory. -/
import Derived.Test.YtiejmnnnjmmifaaC0
import Derived.Test.YtiejmnnnjmmifaaC7
import Derived.Test.YtiejmnnnjmmifaaBissg
import Derived.Test.YtiejmnnnjmmifaaBelems
import Derived.Test.YtiejmnnnjmmifaaBreach0
import Derived.Test.YtiejmnnnjmmifaaBbase
namespace Go.Proofs.Ytiejmnnnjmmifaa.Pure
open Go.RowKit Go.Proofs.Ytiejmnnnjmmifaa.C Go.Proofs.YtiejmnnnjmmifaaW.PrintWords Go.Proofs.YtiejmnnnjmmifaaW.PrintLast Go.Proofs.YtiejmnnnjmmifaaW.PrintMore
set_option linter.unusedVariables false
set_option linter.unusedSimpArgs false
/-! reachany: impl.reach, whatever the list -/
theorem reach_any (g : List Int) (hlen : g.length ≤ 1048576) : ∃ p : Int → Option Bool, (SG g → ∀ d, p d = some (elB g d)) ∧ Ev (fun k => impl_reach.f k g) p := by
  obtain ⟨b, b1, b2⟩ := impl_IsSemigroup_ev g hlen
  cases b with
  | true => exact ⟨impl_reach.p (tblL g 201), fun hS d => reach_at g hS d, reach_ev g hlen (b1.1 rfl)⟩
  | false =>
    refine ⟨fun _ => some false, (fun hS => by have := b1.2 hS; cases this), ?_⟩
    unfold impl_reach.f
    exact Ev.bnd b2 (Ev.neg (by decide) (Ev.now _))
end Go.Proofs.Ytiejmnnnjmmifaa.Pure
