/- Plain lemmas (mini): no program, no memory. -/
import Derived.Test.YtiejmnnnjmmifaaC0
import Derived.Test.YtiejmnnnjmmifaaC9
import Derived.Test.YtiejmnnnjmmifaaBasc
import Derived.Test.YtiejmnnnjmmifaaBissg
import Derived.Test.YtiejmnnnjmmifaaBreachany
import Derived.Test.YtiejmnnnjmmifaaBexi
import Derived.Test.YtiejmnnnjmmifaaBbase
namespace Go.Proofs.Ytiejmnnnjmmifaa.Pure
open Go.RowKit Go.Proofs.Ytiejmnnnjmmifaa.C Go.Proofs.YtiejmnnnjmmifaaW.PrintWords Go.Proofs.YtiejmnnnjmmifaaW.PrintLast Go.Proofs.YtiejmnnnjmmifaaW.PrintMore
set_option linter.unusedVariables false
set_option linter.unusedSimpArgs false
/-! mini: impl.MinimalIn -/
theorem impl_minimal_ev (g l : List Int) (hlen : g.length ≤ 1048576) (hl : l.length ≤ 1048576) : ∃ r, (asc r ∧ r.length ≤ l.length ∧ (SG g → (∀ x ∈ l, -1000000 ≤ x ∧ x ≤ 1000000) → ∀ y, y ∈ r ↔ y ∈ exL g true l)) ∧ Ev (fun k => impl_MinimalIn.f k g l) r := by
  obtain ⟨p, p1, p2⟩ := reach_any g hlen
  obtain ⟨r, r1, r3⟩ := impl_ex_ev g hlen true l hl (impl_MinimalIn.p p) (fun hS x y hx hy => by
    unfold impl_MinimalIn.p
    rw [p1 hS, w64_of (by omega) (by omega), if_pos rfl])
  refine ⟨r, ⟨r1.1, r1.2.2.1, r1.2.2.2.2.1⟩, ?_⟩
  unfold impl_MinimalIn.f
  exact Ev.bnd p2 r3
end Go.Proofs.Ytiejmnnnjmmifaa.Pure
