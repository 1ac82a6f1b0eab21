/- For every list the program's IsPalindrome returns what the reference's returns and leaves its argument as it was; no condition besides the row's own. -/
import Derived.Test.YtfpjjjdiieplkaaPFnExactIsPalindromex1
namespace Go.Proofs.Ytfpjjjdiieplkaa.Pure
open Go.RowKit Go.Proofs.Ytfpjjjdiieplkaa.PFnExactIsPalindrome Go.Proofs.YtfpjjjdiieplkaaW.PrintWords Go.Proofs.YtfpjjjdiieplkaaW.PrintLast Go.Proofs.YtfpjjjdiieplkaaW.PrintMore
set_option linter.unusedVariables false
set_option linter.unusedSimpArgs false

/-! base: words on rounds and on lists of numbers -/
theorem Ev.pos {α : Type} {c : Prop} [Decidable c] {a b : Nat → Option α} {r : α} (h : c) (e : Ev a r) : Ev (fun k => if c then a k else b k) r :=
  Ev.congr (fun _ => if_pos h) e
theorem Ev.neg {α : Type} {c : Prop} [Decidable c] {a b : Nat → Option α} {r : α} (h : ¬ c) (e : Ev b r) : Ev (fun k => if c then a k else b k) r :=
  Ev.congr (fun _ => if_neg h) e
theorem Ev.some {α β : Type} {x : α} {f : Nat → α → Option β} {r : β} (k : Ev (fun n => f n x) r) : Ev (fun n => (some x).bind (f n)) r := k
theorem Ev.bnd {α β : Type} {g : Nat → Option α} {f : Nat → α → Option β} {a : α} {r : β} (h : Ev g a) (k : Ev (fun n => f n a) r) : Ev (fun n => (g n).bind fun t => f n t) r := Ev.bind h k
/-- One round of a loop. -/
theorem Ev.one {α : Type} {g f : Nat → Option α} {r : α} (h : ∀ k, g (k + 1) = f k) (k : Ev f r) : Ev g r := Ev.step h k
theorem Ev.const {α : Type} {x : Option α} {a : α} (h : x = Option.some a) : Ev (fun _ => x) a := Ev.congr (fun _ => h) (Ev.now a)
theorem Ev.uniq {α : Type} {g : Nat → Option α} {a b : α} (h : Ev g a) (k : Ev g b) : a = b := by
  obtain ⟨K, h⟩ := h
  obtain ⟨K', k⟩ := k
  have h1 := h (max K K') (by omega)
  have h2 := k (max K K') (by omega)
  exact Option.some.inj (h1.symm.trans h2)
theorem rd_at (xs : List Int) (i : Nat) (h : i < xs.length) : rd xs (i : Int) = xs[i] := by
  unfold rd
  rw [Int.toNat_natCast, List.getD_eq_getElem?_getD, List.getElem?_eq_getElem h, Option.getD_some]
theorem w64_of {x : Int} (h0 : -9223372036854775808 ≤ x) (h1 : x < 9223372036854775808) : wrap64 x = x := by
  unfold wrap64
  omega
theorem w64_succ (i : Nat) (h : i < 4611686018427387904) : wrap64 ((i : Int) + 1) = ((i + 1 : Nat) : Int) := by
  rw [w64_of (by omega) (by omega)]
  omega
theorem wf64 {x : Int} (h : (Lit.int .i64 x).wf = true) : -9223372036854775808 ≤ x ∧ x ≤ 9223372036854775807 := by
  simp only [Lit.wf, IntKind.min, IntKind.max, IntKind.signed, IntKind.bits, Bool.and_eq_true, decide_eq_true_eq, if_true] at h
  omega

/-! laws0: toIntS, eqIntS, markIntS, heldIntS -/
theorem toIntS_l0 (l : List Int) (hl : l.length ≤ 35184372088832) : ∀ (d i : Nat) (xs : List Int), i + d = l.length → xs.length = l.length → (∀ j, j < i → xs[j]? = l[j]?) →
    Ev (fun k => laws_toIntS.l0 k l xs (i : Int)) l := by
  intro d
  induction d with
  | zero =>
    intro i xs hi hx hj
    have e : xs = l := by
      apply List.ext_getElem? ; intro j
      by_cases h : j < i
      · exact hj j h
      · rw [List.getElem?_eq_none (by omega), List.getElem?_eq_none (by omega)]
    subst e
    refine Ev.one (fun k => by rw [laws_toIntS.l0]) ?_
    exact Ev.neg (by omega) (Ev.now _)
  | succ d ih =>
    intro i xs hi hx hj
    refine Ev.one (fun k => by rw [laws_toIntS.l0]) ?_
    refine Ev.pos (by omega) (Ev.pos (by omega) (Ev.pos (by omega) ?_))
    rw [w64_succ i (by omega), rd_at l i (by omega), Int.toNat_natCast]
    refine ih (i + 1) _ (by omega) (by rw [List.length_set]; exact hx) (fun j hj' => ?_)
    by_cases e : j = i
    · subst e
      rw [List.getElem?_set_self (by omega), List.getElem?_eq_getElem (by omega)]
    · rw [List.getElem?_set_ne (by omega)]
      exact hj j (by omega)
theorem toIntS_ev (l : List Int) (hl : l.length ≤ 35184372088832) : Ev (fun k => laws_toIntS.f k l) l := by
  unfold laws_toIntS.f
  refine Ev.pos (by omega) (Ev.pos (by omega) ?_)
  exact toIntS_l0 l hl l.length 0 _ (by omega) (by rw [List.length_replicate]; omega) (fun j h => by omega)
theorem eqIntS_l0 (l : List Int) (hl : l.length ≤ 35184372088832) : ∀ (d i : Nat), i + d = l.length → Ev (fun k => laws_eqIntS.l0 k l l (i : Int)) true := by
  intro d
  induction d with
  | zero =>
    intro i hi
    refine Ev.one (fun k => by rw [laws_eqIntS.l0]) ?_
    exact Ev.neg (by omega) (Ev.now _)
  | succ d ih =>
    intro i hi
    refine Ev.one (fun k => by rw [laws_eqIntS.l0]) ?_
    refine Ev.pos (by omega) (Ev.pos (by omega) (Ev.pos (by omega) (Ev.pos rfl ?_)))
    rw [w64_succ i (by omega)]
    exact ih (i + 1) (by omega)
theorem eqIntS_ev (l : List Int) (hl : l.length ≤ 35184372088832) : Ev (fun k => laws_eqIntS.f k l l) true := by
  unfold laws_eqIntS.f
  exact Ev.pos rfl (eqIntS_l0 l hl l.length 0 (by omega))

theorem pal_both (l : List Int) (hl : l.length ≤ 1048576) : ∀ (d i : Nat), i + d = l.length →
    ∃ b, Ev (fun k => spec_IsPalindrome.l0 k l (i : Int)) b ∧ Ev (fun k => impl_IsPalindrome.l0 k l (l.length : Int) (i : Int)) b := by
  intro d
  induction d with
  | zero =>
    intro i hi
    refine ⟨true, Ev.one (fun k => by rw [spec_IsPalindrome.l0]) ?_, Ev.one (fun k => by rw [impl_IsPalindrome.l0]) ?_⟩
    · exact Ev.neg (by omega) (Ev.now _)
    · exact Ev.neg (by omega) (Ev.now _)
  | succ d ih =>
    intro i hi
    have e1 : wrap64 ((l.length : Int) - 1) = (l.length : Int) - 1 := w64_of (by omega) (by omega)
    have e2 : wrap64 ((l.length : Int) - 1 - (i : Int)) = (l.length : Int) - 1 - (i : Int) := w64_of (by omega) (by omega)
    by_cases h : rd l (i : Int) = rd l ((l.length : Int) - 1 - (i : Int))
    · obtain ⟨b, h1, h2⟩ := ih (i + 1) (by omega)
      refine ⟨b, Ev.one (fun k => by rw [spec_IsPalindrome.l0]) ?_, Ev.one (fun k => by rw [impl_IsPalindrome.l0]) ?_⟩
      · rw [e1, e2, w64_succ i (by omega)]
        exact Ev.pos (by omega) (Ev.pos (by omega) (Ev.pos (by omega) (Ev.pos (by omega) (Ev.pos h h1))))
      · rw [e1, e2, w64_succ i (by omega)]
        exact Ev.pos (by omega) (Ev.pos (by omega) (Ev.pos (by omega) (Ev.pos (by omega) (Ev.pos (by omega) (Ev.pos h h2)))))
    · refine ⟨false, Ev.one (fun k => by rw [spec_IsPalindrome.l0]) ?_, Ev.one (fun k => by rw [impl_IsPalindrome.l0]) ?_⟩
      · rw [e1, e2]
        exact Ev.pos (by omega) (Ev.pos (by omega) (Ev.pos (by omega) (Ev.pos (by omega) (Ev.neg h (Ev.now _)))))
      · rw [e1, e2]
        exact Ev.pos (by omega) (Ev.pos (by omega) (Ev.pos (by omega) (Ev.pos (by omega) (Ev.pos (by omega) (Ev.neg h (Ev.now _))))))
theorem FnExactIsPalindrome (l0 : List Int) (hm : l0.length ≤ maxLen) (hw : ∀ x ∈ l0, (Lit.int .i64 x).wf = true) : ∃ k, laws_FnExactIsPalindrome.f k l0 = some true := by
  apply Ev.rounds
  unfold laws_FnExactIsPalindrome.f
  by_cases hl : (l0.length : Int) > 1048576
  · exact Ev.pos hl (Ev.now _)
  obtain ⟨b, h1, h2⟩ := pal_both l0 (by omega) l0.length 0 (by omega)
  have ht := toIntS_ev l0 (by omega)
  have he := eqIntS_ev l0 (by omega)
  have h1' : Ev (fun k => spec_IsPalindrome.f k l0) b := by unfold spec_IsPalindrome.f; exact h1
  have h2' : Ev (fun k => impl_IsPalindrome.f k l0) b := by unfold impl_IsPalindrome.f; exact h2
  refine Ev.neg hl (Ev.bnd ht (Ev.bnd h1' (Ev.bnd ht (Ev.bnd h2' (Ev.neg (by simp) (Ev.bnd ht (Ev.bnd he (Ev.pos rfl (Ev.now _)))))))))

end Go.Proofs.Ytfpjjjdiieplkaa.Pure
