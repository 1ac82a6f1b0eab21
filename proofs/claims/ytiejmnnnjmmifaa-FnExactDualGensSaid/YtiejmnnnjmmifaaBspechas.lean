/- Plain lemmas (spechas): no program, no memory. -/
import Derived.Test.YtiejmnnnjmmifaaC0
import Derived.Test.YtiejmnnnjmmifaaC4
import Derived.Test.YtiejmnnnjmmifaaBsums
import Derived.Test.YtiejmnnnjmmifaaBtable
import Derived.Test.YtiejmnnnjmmifaaBissg
import Derived.Test.YtiejmnnnjmmifaaBbase
namespace Go.Proofs.Ytiejmnnnjmmifaa.Pure
open Go.RowKit Go.Proofs.Ytiejmnnnjmmifaa.C Go.Proofs.YtiejmnnnjmmifaaW.PrintWords Go.Proofs.YtiejmnnnjmmifaaW.PrintLast Go.Proofs.YtiejmnnnjmmifaaW.PrintMore
set_option linter.unusedVariables false
set_option linter.unusedSimpArgs false
/-! spechas: spec.l3Has -/
theorem spec_l3Has_ev (g : List Int) (h : SG g) (n : Int) : ∃ b, (b = true ↔ Sums g n ∧ (n ≠ 0 ∨ n = 0)) ∧ Ev (fun k => spec_l3Has.f k g n) b := by
  have hp : ∀ x ∈ g, 1 ≤ x := fun x hx => (h.rng x hx).1
  have := h.len2
  unfold spec_l3Has.f
  by_cases h1 : n < 0
  · exact ⟨decide (n > 0), ⟨fun e => by simp at e; omega, fun e => by have := e.1.nonneg hp; omega⟩, Ev.pos h1 (Ev.now _)⟩
  · by_cases h2 : n ≥ 200
    · exact ⟨decide (n > 0), ⟨fun _ => ⟨h.ends n h2, by omega⟩, fun _ => by simp; omega⟩, Ev.neg h1 (Ev.pos h2 (Ev.now _))⟩
    · obtain ⟨q, rfl⟩ : ∃ q : Nat, n = (q : Int) := ⟨n.toNat, by omega⟩
      obtain ⟨t, t1, t2, t3⟩ := spec_l3Table_ev g q hp (by omega) (by omega)
      refine ⟨t.getD q false, ?_, ?_⟩
      · rw [t2 q (Nat.le_refl _)]
        exact ⟨fun e => ⟨e, by omega⟩, fun e => e.1⟩
      · refine Ev.neg h1 (Ev.neg h2 (Ev.bnd t3 (Ev.pos (by omega) (Ev.pos (by omega) ?_))))
        rw [rdOf_at]
        exact Ev.now _
end Go.Proofs.Ytiejmnnnjmmifaa.Pure
