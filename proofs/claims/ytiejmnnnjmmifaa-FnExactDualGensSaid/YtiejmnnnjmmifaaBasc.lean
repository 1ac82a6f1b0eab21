/- Plain lemmas (asc): no program, no memory. -/
import Derived.Test.YtiejmnnnjmmifaaC0
import Derived.Test.YtiejmnnnjmmifaaC2
import Derived.Test.YtiejmnnnjmmifaaC6
import Derived.Test.YtiejmnnnjmmifaaBbase
namespace Go.Proofs.Ytiejmnnnjmmifaa.Pure
open Go.RowKit Go.Proofs.Ytiejmnnnjmmifaa.C Go.Proofs.YtiejmnnnjmmifaaW.PrintWords Go.Proofs.YtiejmnnnjmmifaaW.PrintLast Go.Proofs.YtiejmnnnjmmifaaW.PrintMore
set_option linter.unusedVariables false
set_option linter.unusedSimpArgs false
/-! asc: IsAscending -/
def asc (l : List Int) : Prop := l.Pairwise (· < ·)
theorem asc_iff (l : List Int) : asc l ↔ ∀ i (h : i + 1 < l.length), l[i] < l[i + 1] := by
  unfold asc
  rw [List.pairwise_iff_getElem]
  constructor
  · intro h i hi
    exact h i (i + 1) (by omega) hi (by omega)
  · intro h i j hi hj hij
    obtain ⟨d, rfl⟩ : ∃ d, j = i + 1 + d := ⟨j - i - 1, by omega⟩
    induction d with
    | zero => exact h i hj
    | succ d ih => exact Int.lt_trans (ih (by omega) (by omega)) (h (i + 1 + d) (by omega))
theorem spec_IsAscending_l0 (l : List Int) (hl : l.length ≤ 1048576) : ∀ (d i : Nat), i + d = l.length → 1 ≤ i → (∀ j (h : j + 1 < l.length), j + 1 < i → l[j] < l[j + 1]) →
    ∃ b, (b = true ↔ asc l) ∧ Ev (fun k => spec_IsAscending.l0 k l (i : Int)) b := by
  intro d
  induction d with
  | zero =>
    intro i hi h1 hs
    exact ⟨true, ⟨fun _ => (asc_iff l).2 (fun j hj => hs j hj (by omega)), fun _ => rfl⟩, Ev.one (fun k => by rw [spec_IsAscending.l0]) (Ev.neg (by omega) (Ev.now _))⟩
  | succ d ih =>
    intro i hi h1 hs
    have e1 : wrap64 ((i : Int) - 1) = ((i - 1 : Nat) : Int) := by rw [w64_of (by omega) (by omega)]; omega
    obtain ⟨j, rfl⟩ : ∃ j, i = j + 1 := ⟨i - 1, by omega⟩
    by_cases h : l[j] < l[j + 1]
    · obtain ⟨b, b1, b2⟩ := ih (j + 1 + 1) (by omega) (by omega) (fun q hq hq' => by
        by_cases e : q = j
        · subst e; exact h
        · exact hs q hq (by omega))
      refine ⟨b, b1, Ev.one (fun k => by rw [spec_IsAscending.l0]) ?_⟩
      rw [e1, w64_succ (j + 1) (by omega), Nat.add_sub_cancel, rd_at l j (by omega), rd_at l (j + 1) (by omega)]
      exact Ev.pos (by omega) (Ev.pos (by omega) (Ev.pos (by omega) (Ev.pos (by omega) (Ev.neg (by omega) b2))))
    · refine ⟨false, ⟨(fun g => by cases g), fun g => absurd ((asc_iff l).1 g j (by omega)) h⟩, Ev.one (fun k => by rw [spec_IsAscending.l0]) ?_⟩
      rw [e1, Nat.add_sub_cancel, rd_at l j (by omega), rd_at l (j + 1) (by omega)]
      exact Ev.pos (by omega) (Ev.pos (by omega) (Ev.pos (by omega) (Ev.pos (by omega) (Ev.pos (by omega) (Ev.now _)))))
theorem asc_short (l : List Int) (h : l.length = 0) : asc l := by
  rw [List.length_eq_zero_iff] at h
  subst h
  exact List.Pairwise.nil
theorem spec_IsAscending_ev (l : List Int) (hl : l.length ≤ 1048576) : ∃ b, (b = true ↔ asc l) ∧ Ev (fun k => spec_IsAscending.f k l) b := by
  unfold spec_IsAscending.f
  by_cases h : l.length = 0
  · exact ⟨true, ⟨fun _ => asc_short l h, fun _ => rfl⟩, Ev.one (fun k => by rw [spec_IsAscending.l0]) (Ev.neg (by omega) (Ev.now _))⟩
  · exact spec_IsAscending_l0 l hl (l.length - 1) 1 (by omega) (by omega) (fun j _ hj => by omega)
theorem impl_IsAscending_l0 (l : List Int) (hl : l.length ≤ 1048576) : ∀ (d i : Nat), i + d = l.length → 1 ≤ i → (∀ j (h : j + 1 < l.length), j + 1 < i → l[j] < l[j + 1]) →
    ∃ b, (b = true ↔ asc l) ∧ Ev (fun k => impl_IsAscending.l0 k l (i : Int)) b := by
  intro d
  induction d with
  | zero =>
    intro i hi h1 hs
    exact ⟨true, ⟨fun _ => (asc_iff l).2 (fun j hj => hs j hj (by omega)), fun _ => rfl⟩, Ev.one (fun k => by rw [impl_IsAscending.l0]) (Ev.neg (by omega) (Ev.now _))⟩
  | succ d ih =>
    intro i hi h1 hs
    have e1 : wrap64 ((i : Int) - 1) = ((i - 1 : Nat) : Int) := by rw [w64_of (by omega) (by omega)]; omega
    obtain ⟨j, rfl⟩ : ∃ j, i = j + 1 := ⟨i - 1, by omega⟩
    by_cases h : l[j] < l[j + 1]
    · obtain ⟨b, b1, b2⟩ := ih (j + 1 + 1) (by omega) (by omega) (fun q hq hq' => by
        by_cases e : q = j
        · subst e; exact h
        · exact hs q hq (by omega))
      refine ⟨b, b1, Ev.one (fun k => by rw [impl_IsAscending.l0]) ?_⟩
      rw [e1, w64_succ (j + 1) (by omega), Nat.add_sub_cancel, rd_at l j (by omega), rd_at l (j + 1) (by omega)]
      exact Ev.pos (by omega) (Ev.pos (by omega) (Ev.pos (by omega) (Ev.pos (by omega) (Ev.neg (by omega) b2))))
    · refine ⟨false, ⟨(fun g => by cases g), fun g => absurd ((asc_iff l).1 g j (by omega)) h⟩, Ev.one (fun k => by rw [impl_IsAscending.l0]) ?_⟩
      rw [e1, Nat.add_sub_cancel, rd_at l j (by omega), rd_at l (j + 1) (by omega)]
      exact Ev.pos (by omega) (Ev.pos (by omega) (Ev.pos (by omega) (Ev.pos (by omega) (Ev.pos (by omega) (Ev.now _)))))
theorem impl_IsAscending_ev (l : List Int) (hl : l.length ≤ 1048576) : ∃ b, (b = true ↔ asc l) ∧ Ev (fun k => impl_IsAscending.f k l) b := by
  unfold impl_IsAscending.f
  by_cases h : l.length = 0
  · exact ⟨true, ⟨fun _ => asc_short l h, fun _ => rfl⟩, Ev.one (fun k => by rw [impl_IsAscending.l0]) (Ev.neg (by omega) (Ev.now _))⟩
  · exact impl_IsAscending_l0 l hl (l.length - 1) 1 (by omega) (by omega) (fun j _ hj => by omega)
end Go.Proofs.Ytiejmnnnjmmifaa.Pure
