/- Plain lemmas (maximal): no program, no memory. -/
import Derived.Test.YtiejmnnnjmmifaaC0
import Derived.Test.YtiejmnnnjmmifaaC8
import Derived.Test.YtiejmnnnjmmifaaBasc
import Derived.Test.YtiejmnnnjmmifaaBissg
import Derived.Test.YtiejmnnnjmmifaaBextreme
import Derived.Test.YtiejmnnnjmmifaaBbase
namespace Go.Proofs.Ytiejmnnnjmmifaa.Pure
open Go.RowKit Go.Proofs.Ytiejmnnnjmmifaa.C Go.Proofs.YtiejmnnnjmmifaaW.PrintWords Go.Proofs.YtiejmnnnjmmifaaW.PrintLast Go.Proofs.YtiejmnnnjmmifaaW.PrintMore
set_option linter.unusedVariables false
set_option linter.unusedSimpArgs false
/-! maximal: MaximalOf of both sides -/
theorem maximal_both (g l : List Int) (hlen : g.length ≤ 1048576) (hl : l.length ≤ 1048576) : ∃ r, (asc r ∧ (∀ y ∈ r, y ∈ l) ∧ r.length ≤ l.length ∧ (¬ SG g → r = [])) ∧ Ev (fun k => spec_MaximalOf.f k g l) r ∧ Ev (fun k => impl_MaximalOf.f k g l) r := by
  obtain ⟨p, p1, p2⟩ := reach_any g hlen
  obtain ⟨r, r1, r2, r3⟩ := top_both g hlen false l hl (impl_MaximalOf.p p) (fun hS x y hx hy => by
    unfold impl_MaximalOf.p
    rw [p1 hS, w64_of (by omega) (by omega), if_neg (by decide)])
  refine ⟨r, r1, ?_, ?_⟩
  · unfold spec_MaximalOf.f
    exact Ev.bnd r2 (Ev.now _)
  · unfold impl_MaximalOf.f
    exact Ev.bnd p2 r3
end Go.Proofs.Ytiejmnnnjmmifaa.Pure
