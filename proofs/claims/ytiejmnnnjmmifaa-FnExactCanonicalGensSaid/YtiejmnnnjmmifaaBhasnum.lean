/- Plain lemmas (hasnum): no program, no memory. -/
import Derived.Test.YtiejmnnnjmmifaaC0
import Derived.Test.YtiejmnnnjmmifaaC5
import Derived.Test.YtiejmnnnjmmifaaBbase
namespace Go.Proofs.Ytiejmnnnjmmifaa.Pure
open Go.RowKit Go.Proofs.Ytiejmnnnjmmifaa.C Go.Proofs.YtiejmnnnjmmifaaW.PrintWords Go.Proofs.YtiejmnnnjmmifaaW.PrintLast Go.Proofs.YtiejmnnnjmmifaaW.PrintMore
set_option linter.unusedVariables false
set_option linter.unusedSimpArgs false
/-! hasnum: spec.HasNumber -/
theorem spec_HasNumber_l0 (l : List Int) (x : Int) (hl : l.length ≤ 100000000000) : ∀ (d i : Nat), i + d = l.length → ∃ b, (b = true ↔ x ∈ l.drop i) ∧ Ev (fun k => spec_HasNumber.l0 k l x (i : Int)) b := by
  intro d
  induction d with
  | zero =>
    intro i hi
    rw [List.drop_eq_nil_of_le (by omega)]
    refine ⟨false, by simp, Ev.one (fun k => by rw [spec_HasNumber.l0]) ?_⟩
    exact Ev.neg (by omega) (Ev.now _)
  | succ d ih =>
    intro i hi
    rw [List.drop_eq_getElem_cons (show i < l.length by omega)]
    by_cases h : l[i] = x
    · refine ⟨true, ⟨fun _ => by rw [h]; exact List.mem_cons_self .., fun _ => rfl⟩, Ev.one (fun k => by rw [spec_HasNumber.l0]) ?_⟩
      rw [rd_at l i (by omega)]
      exact Ev.pos (by omega) (Ev.pos (by omega) (Ev.pos h (Ev.now _)))
    · obtain ⟨b, b1, b2⟩ := ih (i + 1) (by omega)
      refine ⟨b, ?_, Ev.one (fun k => by rw [spec_HasNumber.l0]) ?_⟩
      · rw [b1, List.mem_cons]
        exact ⟨fun e => .inr e, fun e => e.resolve_left (fun e2 => h e2.symm)⟩
      · rw [rd_at l i (by omega), w64_succ i (by omega)]
        exact Ev.pos (by omega) (Ev.pos (by omega) (Ev.neg h b2))
theorem spec_HasNumber_ev (l : List Int) (x : Int) (hl : l.length ≤ 100000000000) : ∃ b, (b = true ↔ x ∈ l) ∧ Ev (fun k => spec_HasNumber.f k l x) b := by
  unfold spec_HasNumber.f
  exact spec_HasNumber_l0 l x hl l.length 0 (by omega)
end Go.Proofs.Ytiejmnnnjmmifaa.Pure
