/- Plain lemmas (ideal): no program, no memory. -/
import Derived.Test.YtiejmnnnjmmifaaC0
import Derived.Test.YtiejmnnnjmmifaaC5
import Derived.Test.YtiejmnnnjmmifaaC7
import Derived.Test.YtiejmnnnjmmifaaBwithin
import Derived.Test.YtiejmnnnjmmifaaBallwithin
import Derived.Test.YtiejmnnnjmmifaaBbase
namespace Go.Proofs.Ytiejmnnnjmmifaa.Pure
open Go.RowKit Go.Proofs.Ytiejmnnnjmmifaa.C Go.Proofs.YtiejmnnnjmmifaaW.PrintWords Go.Proofs.YtiejmnnnjmmifaaW.PrintLast Go.Proofs.YtiejmnnnjmmifaaW.PrintMore
set_option linter.unusedVariables false
set_option linter.unusedSimpArgs false
/-! ideal: lists of ideals of both sides -/
noncomputable def idealB (l : List Int) : Bool := allIn l (-200) 200 && decide ((1 : Int) ≤ (l.length : Int) ∧ (l.length : Int) ≤ 20)
theorem spec_valid_l0 (l : List Int) (hl : l.length ≤ 1048576) : ∀ d i, i + d = l.length → Ev (fun k => spec_l16Valid.l0 k l (i : Int)) (allIn (l.drop i) (-200) 200 && decide ((1 : Int) ≤ (l.length : Int) ∧ (l.length : Int) ≤ 20)) := by
  intro d
  induction d with
  | zero =>
    intro i hi
    rw [List.drop_eq_nil_of_le (by omega)]
    refine Ev.one (fun k => by rw [spec_l16Valid.l0]) ?_
    exact Ev.neg (by omega) (Ev.bnd (spec_l1In_ev _ _ _) (Ev.now _))
  | succ d ih =>
    intro i hi
    have hil : i < l.length := by omega
    have ih := ih (i + 1) (by omega)
    rw [List.drop_eq_getElem_cons hil]
    refine Ev.one (fun k => by rw [spec_l16Valid.l0]) ?_
    rw [rd_at l i hil, w64_succ i (by omega)]
    refine Ev.pos (by omega) (Ev.pos (by omega) (Ev.bnd (spec_l1In_ev _ _ _) ?_))
    by_cases h : -200 ≤ l[i] ∧ l[i] ≤ 200
    · rw [allIn_cons _ _ _ _ h]
      exact Ev.pos (decide_eq_true h) ih
    · rw [allIn_cons_not _ _ _ _ h]
      exact Ev.neg (by rw [decide_eq_false h]; decide) (Ev.now _)
theorem spec_valid_ev (l : List Int) (hl : l.length ≤ 1048576) : Ev (fun k => spec_l16Valid.f k l) (idealB l) := spec_valid_l0 l hl l.length 0 (by omega)
theorem impl_ideal_ev (l : List Int) (hl : l.length ≤ 1048576) : Ev (fun k => impl_idealList.f k l) (idealB l) := by
  unfold impl_idealList.f idealB
  refine Ev.bnd (impl_within_ev _ _ _) ?_
  by_cases h : (1 : Int) ≤ (l.length : Int) ∧ (l.length : Int) ≤ 20
  · rw [decide_eq_true h, Bool.and_true]
    exact Ev.pos rfl (Ev.bnd (impl_allWithin_ev l _ _ (by omega)) (Ev.now _))
  · rw [decide_eq_false h, Bool.and_false]
    exact Ev.neg (by decide) (Ev.now _)
theorem idealB_of (l : List Int) (h : idealB l = true) : (∀ x ∈ l, -200 ≤ x ∧ x ≤ 200) ∧ 1 ≤ l.length ∧ l.length ≤ 20 := by
  unfold idealB at h
  rw [Bool.and_eq_true, decide_eq_true_eq] at h
  exact ⟨(allIn_iff l _ _).1 h.1, by omega, by omega⟩
end Go.Proofs.Ytiejmnnnjmmifaa.Pure
