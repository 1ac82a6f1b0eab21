/- Plain lemmas (laws1): no program, no memory. -/
import Derived.Test.YtiejmnnnjmmifaaC0
import Derived.Test.YtiejmnnnjmmifaaC1
import Derived.Test.YtiejmnnnjmmifaaBbase
namespace Go.Proofs.Ytiejmnnnjmmifaa.Pure
open Go.RowKit Go.Proofs.Ytiejmnnnjmmifaa.C Go.Proofs.YtiejmnnnjmmifaaW.PrintWords Go.Proofs.YtiejmnnnjmmifaaW.PrintLast Go.Proofs.YtiejmnnnjmmifaaW.PrintMore
set_option linter.unusedVariables false
set_option linter.unusedSimpArgs false
/-! laws1: markIntS, heldIntS -/
def marks (l : List Int) (a : Int) : List Int := (List.range l.length).map fun j : Nat => a + (j : Int)
theorem marks_length (l : List Int) (a : Int) : (marks l a).length = l.length := by simp [marks]
theorem marks_at (l : List Int) (a : Int) (j : Nat) (h : j < l.length) : (marks l a)[j]? = some (a + (j : Int)) := by simp [marks, h]
theorem markIntS_l0 (l : List Int) (a : Int) (hl : l.length ≤ 35184372088832) (h0 : -1 ≤ a) (h1 : a ≤ 4611686018427387904) : ∀ (d i : Nat) (xs : List Int), i + d = l.length → xs.length = l.length → (∀ j, j < i → xs[j]? = some (a + (j : Int))) →
    Ev (fun k => laws_markIntS.l0 k xs (a + (i : Int)) (i : Int)) (a + (l.length : Int), marks l a) := by
  intro d
  induction d with
  | zero =>
    intro i xs hi hx hj
    have e : xs = marks l a := by
      apply List.ext_getElem? ; intro j
      by_cases h : j < i
      · rw [hj j h, marks_at l a j (by omega)]
      · rw [List.getElem?_eq_none (by omega), List.getElem?_eq_none (by rw [marks_length]; omega)]
    subst e
    obtain rfl : i = l.length := by omega
    refine Ev.one (fun k => by rw [laws_markIntS.l0]) ?_
    exact Ev.neg (by rw [marks_length]; omega) (Ev.now _)
  | succ d ih =>
    intro i xs hi hx hj
    refine Ev.one (fun k => by rw [laws_markIntS.l0]) ?_
    refine Ev.pos (by omega) (Ev.pos (by omega) ?_)
    rw [w64_succ i (by omega), Int.toNat_natCast, w64_of (by omega) (by omega), show a + (i : Int) + 1 = a + ((i + 1 : Nat) : Int) from by omega]
    refine ih (i + 1) _ (by omega) (by rw [List.length_set]; exact hx) (fun j hj' => ?_)
    by_cases e : j = i
    · subst e
      rw [List.getElem?_set_self (by omega)]
    · rw [List.getElem?_set_ne (by omega)]
      exact hj j (by omega)
theorem markIntS_ev (l : List Int) (a : Int) (hl : l.length ≤ 35184372088832) (h0 : -1 ≤ a) (h1 : a ≤ 4611686018427387904) : Ev (fun k => laws_markIntS.f k l a) (a + (l.length : Int), marks l a) := by
  unfold laws_markIntS.f
  have h := markIntS_l0 l a hl h0 h1 l.length 0 l (by omega) rfl (fun j h => by omega)
  rw [show a + ((0 : Nat) : Int) = a from by omega] at h
  exact h
theorem heldIntS_l0 (l : List Int) (a : Int) (hl : l.length ≤ 35184372088832) (h0 : -1 ≤ a) (h1 : a ≤ 4611686018427387904) : ∀ (d i : Nat), i + d = l.length →
    Ev (fun k => laws_heldIntS.l0 k (marks l a) (a + (i : Int)) (i : Int)) (a + (l.length : Int)) := by
  intro d
  induction d with
  | zero =>
    intro i hi
    obtain rfl : i = l.length := by omega
    refine Ev.one (fun k => by rw [laws_heldIntS.l0]) ?_
    exact Ev.neg (by rw [marks_length]; omega) (Ev.now _)
  | succ d ih =>
    intro i hi
    refine Ev.one (fun k => by rw [laws_heldIntS.l0]) ?_
    have e : rd (marks l a) (i : Int) = a + (i : Int) := by
      rw [rd_at _ i (by rw [marks_length]; omega)]
      have := marks_at l a i (by omega)
      rw [List.getElem?_eq_getElem (by rw [marks_length]; omega)] at this
      exact Option.some.inj this
    refine Ev.pos (by rw [marks_length]; omega) (Ev.pos (by omega) (Ev.pos e ?_))
    rw [w64_succ i (by omega), w64_of (by omega) (by omega), show a + (i : Int) + 1 = a + ((i + 1 : Nat) : Int) from by omega]
    exact ih (i + 1) (by omega)
theorem heldIntS_ev (l : List Int) (a : Int) (hl : l.length ≤ 35184372088832) (h0 : -1 ≤ a) (h1 : a ≤ 4611686018427387904) : Ev (fun k => laws_heldIntS.f k (marks l a) a) (a + (l.length : Int)) := by
  unfold laws_heldIntS.f
  have h := heldIntS_l0 l a hl h0 h1 l.length 0 (by omega)
  rw [show a + ((0 : Nat) : Int) = a from by omega] at h
  exact h
end Go.Proofs.Ytiejmnnnjmmifaa.Pure
