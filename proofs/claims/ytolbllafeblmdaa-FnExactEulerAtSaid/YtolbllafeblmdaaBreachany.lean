/- Plain lemmas (reachany): no program, no memory. -/
import Derived.Test.YtolbllafeblmdaaC0
import Derived.Test.YtolbllafeblmdaaC6
import Derived.Test.YtolbllafeblmdaaBissg
import Derived.Test.YtolbllafeblmdaaBelems
import Derived.Test.YtolbllafeblmdaaBreach0
import Derived.Test.YtolbllafeblmdaaBbase
namespace Go.Proofs.Ytolbllafeblmdaa.Pure
open Go.RowKit Go.Proofs.Ytolbllafeblmdaa.C Go.Proofs.YtolbllafeblmdaaW.PrintWords Go.Proofs.YtolbllafeblmdaaW.PrintLast Go.Proofs.YtolbllafeblmdaaW.PrintMore
set_option linter.unusedVariables false
set_option linter.unusedSimpArgs false
/-! reachany: impl.reach, whatever the list -/
theorem reach_any (g : List Int) (hlen : g.length ≤ 1048576) : ∃ p : Int → Option Bool, (SG g → ∀ d, p d = some (elB g d)) ∧ Ev (fun k => impl_reach.f k g) p := by
  obtain ⟨b, b1, b2⟩ := impl_IsSemigroup_ev g hlen
  cases b with
  | true => exact ⟨impl_reach.p (tblL g 201), fun hS d => reach_at g hS d, reach_ev g hlen (b1.1 rfl)⟩
  | false =>
    refine ⟨fun _ => some false, (fun hS => by have := b1.2 hS; cases this), ?_⟩
    unfold impl_reach.f
    exact Ev.bnd b2 (Ev.neg (by decide) (Ev.now _))
end Go.Proofs.Ytolbllafeblmdaa.Pure
