/- Plain lemmas (allwithin): no program, no memory. -/
import Derived.Test.YtiejmnnnjmmifaaC0
import Derived.Test.YtiejmnnnjmmifaaC6
import Derived.Test.YtiejmnnnjmmifaaBwithin
import Derived.Test.YtiejmnnnjmmifaaBbase
namespace Go.Proofs.Ytiejmnnnjmmifaa.Pure
open Go.RowKit Go.Proofs.Ytiejmnnnjmmifaa.C Go.Proofs.YtiejmnnnjmmifaaW.PrintWords Go.Proofs.YtiejmnnnjmmifaaW.PrintLast Go.Proofs.YtiejmnnnjmmifaaW.PrintMore
set_option linter.unusedVariables false
set_option linter.unusedSimpArgs false
/-! allWithin -/
def allIn (l : List Int) (a b : Int) : Bool := l.all fun x => decide (a ≤ x ∧ x ≤ b)
theorem allIn_iff (l : List Int) (a b : Int) : allIn l a b = true ↔ ∀ x ∈ l, a ≤ x ∧ x ≤ b := by
  unfold allIn
  rw [List.all_eq_true]
  exact ⟨fun h x hx => by simpa using h x hx, fun h x hx => by simpa using h x hx⟩
theorem allIn_cons (x : Int) (l : List Int) (a b : Int) (h : a ≤ x ∧ x ≤ b) : allIn (x :: l) a b = allIn l a b := by
  simp only [allIn, List.all_cons, decide_eq_true h, Bool.true_and]
theorem allIn_cons_not (x : Int) (l : List Int) (a b : Int) (h : ¬ (a ≤ x ∧ x ≤ b)) : allIn (x :: l) a b = false := by
  simp only [allIn, List.all_cons, decide_eq_false h, Bool.false_and]
theorem impl_allWithin_l0 (l : List Int) (a b : Int) (hl : l.length ≤ 35184372088832) : ∀ (d i : Nat), i + d = l.length → Ev (fun k => impl_allWithin.l0 k a b l (l.length : Int) (i : Int)) (allIn (l.drop i) a b) := by
  intro d
  induction d with
  | zero =>
    intro i hi
    rw [List.drop_eq_nil_of_le (by omega)]
    refine Ev.one (fun k => by rw [impl_allWithin.l0]) ?_
    exact Ev.neg (by omega) (Ev.now _)
  | succ d ih =>
    intro i hi
    rw [List.drop_eq_getElem_cons (show i < l.length by omega)]
    refine Ev.one (fun k => by rw [impl_allWithin.l0]) ?_
    refine Ev.pos (by omega) (Ev.pos (by omega) (Ev.pos (by omega) ?_))
    rw [rd_at l i (by omega), impl_within_eq]
    simp only [Option.bind_some]
    by_cases h : a ≤ l[i] ∧ l[i] ≤ b
    · refine Ev.pos (decide_eq_true h) ?_
      rw [w64_succ i (by omega)]
      rw [allIn_cons _ _ _ _ h]
      exact ih (i + 1) (by omega)
    · refine Ev.neg (by rw [decide_eq_false h]; decide) ?_
      rw [allIn_cons_not _ _ _ _ h]
      exact Ev.now _
theorem impl_allWithin_ev (l : List Int) (a b : Int) (hl : l.length ≤ 35184372088832) : Ev (fun k => impl_allWithin.f k l a b) (allIn l a b) := by
  unfold impl_allWithin.f
  exact impl_allWithin_l0 l a b hl l.length 0 (by omega)
end Go.Proofs.Ytiejmnnnjmmifaa.Pure
