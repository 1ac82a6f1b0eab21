/- Plain lemmas (without): no program, no memory. -/
import Derived.Test.YtlfdipnhlmjiaaaC0
import Derived.Test.YtlfdipnhlmjiaaaC10
import Derived.Test.YtlfdipnhlmjiaaaBbase
namespace Go.Proofs.Ytlfdipnhlmjiaaa.Pure
open Go.RowKit Go.Proofs.Ytlfdipnhlmjiaaa.C Go.Proofs.YtlfdipnhlmjiaaaW.PrintWords Go.Proofs.YtlfdipnhlmjiaaaW.PrintLast Go.Proofs.YtlfdipnhlmjiaaaW.PrintMore
set_option linter.unusedVariables false
set_option linter.unusedSimpArgs false
/-! without: spec.l19Without -/
theorem spec_l19Without_l0 (l : List Int) (x : Int) (hl : l.length ≤ 1048576) : ∀ (d i : Nat), i + d = l.length → Ev (fun k => spec_l19Without.l0 k l x ((l.take i).filter fun y => decide (y ≠ x)) (i : Int)) (l.filter fun y => decide (y ≠ x)) := by
  intro d
  induction d with
  | zero =>
    intro i hi
    rw [List.take_of_length_le (by omega)]
    refine Ev.one (fun k => by rw [spec_l19Without.l0]) ?_
    exact Ev.neg (by omega) (Ev.now _)
  | succ d ih =>
    intro i hi
    have hil : i < l.length := by omega
    have ih := ih (i + 1) (by omega)
    have hf := List.length_filter_le (fun y => decide (y ≠ x)) (l.take i)
    rw [List.length_take] at hf
    rw [List.take_succ_eq_append_getElem hil, List.filter_append] at ih
    refine Ev.one (fun k => by rw [spec_l19Without.l0]) ?_
    rw [rd_at l i hil, w64_succ i (by omega)]
    refine Ev.pos (by omega) (Ev.pos (by omega) ?_)
    by_cases h : l[i] = x
    · rw [List.filter_cons_of_neg (by rw [decide_eq_false (by simpa using h)]; decide), List.filter_nil, List.append_nil] at ih
      exact Ev.pos h ih
    · rw [List.filter_cons_of_pos (p := fun y => decide (y ≠ x)) (decide_eq_true h), List.filter_nil] at ih
      exact Ev.neg h (Ev.pos (by omega) ih)
theorem spec_l19Without_ev (l : List Int) (x : Int) (hl : l.length ≤ 1048576) : Ev (fun k => spec_l19Without.f k l x) (l.filter fun y => decide (y ≠ x)) := by
  unfold spec_l19Without.f
  exact spec_l19Without_l0 l x hl l.length 0 (by omega)
end Go.Proofs.Ytlfdipnhlmjiaaa.Pure
