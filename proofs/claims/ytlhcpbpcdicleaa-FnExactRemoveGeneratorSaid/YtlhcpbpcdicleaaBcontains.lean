/- Plain lemmas (contains): no program, no memory. -/
import Derived.Test.YtlhcpbpcdicleaaC0
import Derived.Test.YtlhcpbpcdicleaaC5
import Derived.Test.YtlhcpbpcdicleaaBbase
namespace Go.Proofs.Ytlhcpbpcdicleaa.Pure
open Go.RowKit Go.Proofs.Ytlhcpbpcdicleaa.C Go.Proofs.YtlhcpbpcdicleaaW.PrintWords Go.Proofs.YtlhcpbpcdicleaaW.PrintLast Go.Proofs.YtlhcpbpcdicleaaW.PrintMore
set_option linter.unusedVariables false
set_option linter.unusedSimpArgs false
/-! contains: slices.Contains of whole numbers -/
theorem slices_Index_l0 (l : List Int) (x : Int) (hl : l.length ≤ 100000000000) : ∀ d i, i + d = l.length → ∃ r : Int, (0 ≤ r ↔ x ∈ l.drop i) ∧ Ev (fun k => slices_Index_int_int.l0 k l x (l.length : Int) (i : Int)) r := by
  intro d
  induction d with
  | zero =>
    intro i hi
    rw [List.drop_eq_nil_of_le (by omega)]
    refine ⟨-1, by simp, Ev.one (fun k => by rw [slices_Index_int_int.l0]) ?_⟩
    exact Ev.neg (by omega) (Ev.now _)
  | succ d ih =>
    intro i hi
    rw [List.drop_eq_getElem_cons (show i < l.length by omega)]
    by_cases h : x = l[i]
    · refine ⟨(i : Int), ⟨fun _ => by rw [h]; exact List.mem_cons_self .., fun _ => by omega⟩, Ev.one (fun k => by rw [slices_Index_int_int.l0]) ?_⟩
      rw [rd_at l i (by omega)]
      exact Ev.pos (by omega) (Ev.pos (by omega) (Ev.pos (by omega) (Ev.pos h (Ev.now _))))
    · obtain ⟨r, r1, r2⟩ := ih (i + 1) (by omega)
      refine ⟨r, ?_, Ev.one (fun k => by rw [slices_Index_int_int.l0]) ?_⟩
      · rw [r1, List.mem_cons]
        exact ⟨fun e => .inr e, fun e => e.resolve_left h⟩
      · rw [rd_at l i (by omega), w64_succ i (by omega)]
        exact Ev.pos (by omega) (Ev.pos (by omega) (Ev.pos (by omega) (Ev.neg h r2)))
theorem slices_Contains_ev (l : List Int) (x : Int) (hl : l.length ≤ 100000000000) : ∃ b, (b = true ↔ x ∈ l) ∧ Ev (fun k => slices_Contains_int_int.f k l x) b := by
  obtain ⟨r, r1, r2⟩ := slices_Index_l0 l x hl l.length 0 (by omega)
  rw [List.drop_zero] at r1
  refine ⟨decide (r ≥ 0), by rw [decide_eq_true_eq]; exact r1, ?_⟩
  unfold slices_Contains_int_int.f slices_Index_int_int.f
  exact Ev.bnd r2 (Ev.now _)
end Go.Proofs.Ytlhcpbpcdicleaa.Pure
