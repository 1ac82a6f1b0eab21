/- For all lists the program's MultiplyLists returns what the reference's returns, in memory of its own; no condition besides the row's own. -/
import Derived.Test.YtfpjjjdiieplkaaPFnExactMultiplyListsx3
namespace Go.Proofs.Ytfpjjjdiieplkaa.Pure
open Go.RowKit Go.Proofs.Ytfpjjjdiieplkaa.PFnExactMultiplyLists Go.Proofs.YtfpjjjdiieplkaaW.PrintWords Go.Proofs.YtfpjjjdiieplkaaW.PrintLast Go.Proofs.YtfpjjjdiieplkaaW.PrintMore
set_option linter.unusedVariables false
set_option linter.unusedSimpArgs false

/-! base: words on rounds and on lists of numbers -/
theorem Ev.pos {α : Type} {c : Prop} [Decidable c] {a b : Nat → Option α} {r : α} (h : c) (e : Ev a r) : Ev (fun k => if c then a k else b k) r :=
  Ev.congr (fun _ => if_pos h) e
theorem Ev.neg {α : Type} {c : Prop} [Decidable c] {a b : Nat → Option α} {r : α} (h : ¬ c) (e : Ev b r) : Ev (fun k => if c then a k else b k) r :=
  Ev.congr (fun _ => if_neg h) e
theorem Ev.some {α β : Type} {x : α} {f : Nat → α → Option β} {r : β} (k : Ev (fun n => f n x) r) : Ev (fun n => (some x).bind (f n)) r := k
theorem Ev.bnd {α β : Type} {g : Nat → Option α} {f : Nat → α → Option β} {a : α} {r : β} (h : Ev g a) (k : Ev (fun n => f n a) r) : Ev (fun n => (g n).bind fun t => f n t) r := Ev.bind h k
/-- One round of a loop. -/
theorem Ev.one {α : Type} {g f : Nat → Option α} {r : α} (h : ∀ k, g (k + 1) = f k) (k : Ev f r) : Ev g r := Ev.step h k
theorem Ev.const {α : Type} {x : Option α} {a : α} (h : x = Option.some a) : Ev (fun _ => x) a := Ev.congr (fun _ => h) (Ev.now a)
theorem Ev.uniq {α : Type} {g : Nat → Option α} {a b : α} (h : Ev g a) (k : Ev g b) : a = b := by
  obtain ⟨K, h⟩ := h
  obtain ⟨K', k⟩ := k
  have h1 := h (max K K') (by omega)
  have h2 := k (max K K') (by omega)
  exact Option.some.inj (h1.symm.trans h2)
theorem rd_at (xs : List Int) (i : Nat) (h : i < xs.length) : rd xs (i : Int) = xs[i] := by
  unfold rd
  rw [Int.toNat_natCast, List.getD_eq_getElem?_getD, List.getElem?_eq_getElem h, Option.getD_some]
theorem w64_of {x : Int} (h0 : -9223372036854775808 ≤ x) (h1 : x < 9223372036854775808) : wrap64 x = x := by
  unfold wrap64
  omega
theorem w64_succ (i : Nat) (h : i < 4611686018427387904) : wrap64 ((i : Int) + 1) = ((i + 1 : Nat) : Int) := by
  rw [w64_of (by omega) (by omega)]
  omega
theorem wf64 {x : Int} (h : (Lit.int .i64 x).wf = true) : -9223372036854775808 ≤ x ∧ x ≤ 9223372036854775807 := by
  simp only [Lit.wf, IntKind.min, IntKind.max, IntKind.signed, IntKind.bits, Bool.and_eq_true, decide_eq_true_eq, if_true] at h
  omega

/-! laws0: toIntS, eqIntS, markIntS, heldIntS -/
theorem toIntS_l0 (l : List Int) (hl : l.length ≤ 35184372088832) : ∀ (d i : Nat) (xs : List Int), i + d = l.length → xs.length = l.length → (∀ j, j < i → xs[j]? = l[j]?) →
    Ev (fun k => laws_toIntS.l0 k l xs (i : Int)) l := by
  intro d
  induction d with
  | zero =>
    intro i xs hi hx hj
    have e : xs = l := by
      apply List.ext_getElem? ; intro j
      by_cases h : j < i
      · exact hj j h
      · rw [List.getElem?_eq_none (by omega), List.getElem?_eq_none (by omega)]
    subst e
    refine Ev.one (fun k => by rw [laws_toIntS.l0]) ?_
    exact Ev.neg (by omega) (Ev.now _)
  | succ d ih =>
    intro i xs hi hx hj
    refine Ev.one (fun k => by rw [laws_toIntS.l0]) ?_
    refine Ev.pos (by omega) (Ev.pos (by omega) (Ev.pos (by omega) ?_))
    rw [w64_succ i (by omega), rd_at l i (by omega), Int.toNat_natCast]
    refine ih (i + 1) _ (by omega) (by rw [List.length_set]; exact hx) (fun j hj' => ?_)
    by_cases e : j = i
    · subst e
      rw [List.getElem?_set_self (by omega), List.getElem?_eq_getElem (by omega)]
    · rw [List.getElem?_set_ne (by omega)]
      exact hj j (by omega)
theorem toIntS_ev (l : List Int) (hl : l.length ≤ 35184372088832) : Ev (fun k => laws_toIntS.f k l) l := by
  unfold laws_toIntS.f
  refine Ev.pos (by omega) (Ev.pos (by omega) ?_)
  exact toIntS_l0 l hl l.length 0 _ (by omega) (by rw [List.length_replicate]; omega) (fun j h => by omega)
theorem eqIntS_l0 (l : List Int) (hl : l.length ≤ 35184372088832) : ∀ (d i : Nat), i + d = l.length → Ev (fun k => laws_eqIntS.l0 k l l (i : Int)) true := by
  intro d
  induction d with
  | zero =>
    intro i hi
    refine Ev.one (fun k => by rw [laws_eqIntS.l0]) ?_
    exact Ev.neg (by omega) (Ev.now _)
  | succ d ih =>
    intro i hi
    refine Ev.one (fun k => by rw [laws_eqIntS.l0]) ?_
    refine Ev.pos (by omega) (Ev.pos (by omega) (Ev.pos (by omega) (Ev.pos rfl ?_)))
    rw [w64_succ i (by omega)]
    exact ih (i + 1) (by omega)
theorem eqIntS_ev (l : List Int) (hl : l.length ≤ 35184372088832) : Ev (fun k => laws_eqIntS.f k l l) true := by
  unfold laws_eqIntS.f
  exact Ev.pos rfl (eqIntS_l0 l hl l.length 0 (by omega))

/-! laws1: markIntS, heldIntS -/
def marks (l : List Int) (a : Int) : List Int := (List.range l.length).map fun j : Nat => a + (j : Int)
theorem marks_length (l : List Int) (a : Int) : (marks l a).length = l.length := by simp [marks]
theorem marks_at (l : List Int) (a : Int) (j : Nat) (h : j < l.length) : (marks l a)[j]? = some (a + (j : Int)) := by simp [marks, h]
theorem markIntS_l0 (l : List Int) (a : Int) (hl : l.length ≤ 35184372088832) (h0 : -1 ≤ a) (h1 : a ≤ 4611686018427387904) : ∀ (d i : Nat) (xs : List Int), i + d = l.length → xs.length = l.length → (∀ j, j < i → xs[j]? = some (a + (j : Int))) →
    Ev (fun k => laws_markIntS.l0 k xs (a + (i : Int)) (i : Int)) (a + (l.length : Int), marks l a) := by
  intro d
  induction d with
  | zero =>
    intro i xs hi hx hj
    have e : xs = marks l a := by
      apply List.ext_getElem? ; intro j
      by_cases h : j < i
      · rw [hj j h, marks_at l a j (by omega)]
      · rw [List.getElem?_eq_none (by omega), List.getElem?_eq_none (by rw [marks_length]; omega)]
    subst e
    obtain rfl : i = l.length := by omega
    refine Ev.one (fun k => by rw [laws_markIntS.l0]) ?_
    exact Ev.neg (by rw [marks_length]; omega) (Ev.now _)
  | succ d ih =>
    intro i xs hi hx hj
    refine Ev.one (fun k => by rw [laws_markIntS.l0]) ?_
    refine Ev.pos (by omega) (Ev.pos (by omega) ?_)
    rw [w64_succ i (by omega), Int.toNat_natCast, w64_of (by omega) (by omega), show a + (i : Int) + 1 = a + ((i + 1 : Nat) : Int) from by omega]
    refine ih (i + 1) _ (by omega) (by rw [List.length_set]; exact hx) (fun j hj' => ?_)
    by_cases e : j = i
    · subst e
      rw [List.getElem?_set_self (by omega)]
    · rw [List.getElem?_set_ne (by omega)]
      exact hj j (by omega)
theorem markIntS_ev (l : List Int) (a : Int) (hl : l.length ≤ 35184372088832) (h0 : -1 ≤ a) (h1 : a ≤ 4611686018427387904) : Ev (fun k => laws_markIntS.f k l a) (a + (l.length : Int), marks l a) := by
  unfold laws_markIntS.f
  have h := markIntS_l0 l a hl h0 h1 l.length 0 l (by omega) rfl (fun j h => by omega)
  rw [show a + ((0 : Nat) : Int) = a from by omega] at h
  exact h
theorem heldIntS_l0 (l : List Int) (a : Int) (hl : l.length ≤ 35184372088832) (h0 : -1 ≤ a) (h1 : a ≤ 4611686018427387904) : ∀ (d i : Nat), i + d = l.length →
    Ev (fun k => laws_heldIntS.l0 k (marks l a) (a + (i : Int)) (i : Int)) (a + (l.length : Int)) := by
  intro d
  induction d with
  | zero =>
    intro i hi
    obtain rfl : i = l.length := by omega
    refine Ev.one (fun k => by rw [laws_heldIntS.l0]) ?_
    exact Ev.neg (by rw [marks_length]; omega) (Ev.now _)
  | succ d ih =>
    intro i hi
    refine Ev.one (fun k => by rw [laws_heldIntS.l0]) ?_
    have e : rd (marks l a) (i : Int) = a + (i : Int) := by
      rw [rd_at _ i (by rw [marks_length]; omega)]
      have := marks_at l a i (by omega)
      rw [List.getElem?_eq_getElem (by rw [marks_length]; omega)] at this
      exact Option.some.inj this
    refine Ev.pos (by rw [marks_length]; omega) (Ev.pos (by omega) (Ev.pos e ?_))
    rw [w64_succ i (by omega), w64_of (by omega) (by omega), show a + (i : Int) + 1 = a + ((i + 1 : Nat) : Int) from by omega]
    exact ih (i + 1) (by omega)
theorem heldIntS_ev (l : List Int) (a : Int) (hl : l.length ≤ 35184372088832) (h0 : -1 ≤ a) (h1 : a ≤ 4611686018427387904) : Ev (fun k => laws_heldIntS.f k (marks l a) a) (a + (l.length : Int)) := by
  unfold laws_heldIntS.f
  have h := heldIntS_l0 l a hl h0 h1 l.length 0 (by omega)
  rw [show a + ((0 : Nat) : Int) = a from by omega] at h
  exact h

/-! within: l1In, within, allWithin -/
theorem spec_l1In_eq (a b c : Int) : spec_l1In.f a b c = some (decide (b ≤ a ∧ a ≤ c)) := by
  unfold spec_l1In.f
  by_cases h : a ≥ b
  · rw [if_pos h]
    by_cases h2 : a ≤ c
    · rw [decide_eq_true h2, decide_eq_true ⟨h, h2⟩]
    · rw [decide_eq_false h2, decide_eq_false (fun h3 => h2 h3.2)]
  · rw [if_neg h, decide_eq_false (fun h3 => h h3.1)]
theorem impl_within_eq (a b c : Int) : impl_within.f a b c = some (decide (b ≤ a ∧ a ≤ c)) := by
  unfold impl_within.f
  by_cases h : a ≥ b
  · rw [if_pos h]
    by_cases h2 : a ≤ c
    · rw [decide_eq_true h2, decide_eq_true ⟨h, h2⟩]
    · rw [decide_eq_false h2, decide_eq_false (fun h3 => h2 h3.2)]
  · rw [if_neg h, decide_eq_false (fun h3 => h h3.1)]
theorem spec_l1In_ev (a b c : Int) : Ev (fun _ => spec_l1In.f a b c) (decide (b ≤ a ∧ a ≤ c)) := Ev.const (spec_l1In_eq a b c)
theorem impl_within_ev (a b c : Int) : Ev (fun _ => impl_within.f a b c) (decide (b ≤ a ∧ a ≤ c)) := Ev.const (impl_within_eq a b c)

theorem prod_both (a b : List Int) (ha : a.length ≤ 500) (hb : b.length ≤ 500) : ∀ (d i : Nat) (xs : List Int), i + d = a.length → xs.length + 1 = a.length + b.length →
    ∃ r : List Int, r.length = xs.length ∧ Ev (fun k => spec_MultiplyLists.l0 k a b xs (i : Int)) r ∧ Ev (fun k => impl_product.l0 k b xs a (a.length : Int) (i : Int)) r := by
  intro d
  induction d with
  | zero =>
    intro i xs hi hx
    refine ⟨xs, rfl, Ev.one (fun k => by rw [spec_MultiplyLists.l0]) ?_, Ev.one (fun k => by rw [impl_product.l0]) ?_⟩
    · exact Ev.neg (by omega) (Ev.now _)
    · exact Ev.neg (by omega) (Ev.now _)
  | succ d ih =>
    intro i xs hi hx
    have inner : ∀ (e j : Nat) (xs : List Int), j + e = b.length → xs.length + 1 = a.length + b.length →
        ∃ r : List Int, r.length = xs.length ∧ Ev (fun k => spec_MultiplyLists.l1 k a b xs (i : Int) (j : Int)) r ∧ Ev (fun k => impl_product.l1 k b xs (i : Int) (rd a (i : Int)) a (a.length : Int) (i : Int) b (b.length : Int) (j : Int)) r := by
      intro e
      induction e with
      | zero =>
        intro j xs hj hx
        obtain ⟨r, h0, h1, h2⟩ := ih (i + 1) xs (by omega) hx
        refine ⟨r, h0, Ev.one (fun k => by rw [spec_MultiplyLists.l1]) ?_, Ev.one (fun k => by rw [impl_product.l1]) ?_⟩
        · rw [w64_succ i (by omega)]; exact Ev.neg (by omega) h1
        · rw [w64_succ i (by omega)]; exact Ev.neg (by omega) h2
      | succ e ihe =>
        intro j xs hj hx
        have e1 : wrap64 ((i : Int) + (j : Int)) = (i : Int) + (j : Int) := w64_of (by omega) (by omega)
        obtain ⟨r, h0, h1, h2⟩ := ihe (j + 1) (xs.set ((i : Int) + (j : Int)).toNat (wrap64 (rd xs ((i : Int) + (j : Int)) + wrap64 (rd a (i : Int) * rd b (j : Int))))) (by omega) (by rw [List.length_set]; exact hx)
        rw [List.length_set] at h0
        refine ⟨r, h0, Ev.one (fun k => by rw [spec_MultiplyLists.l1]) ?_, Ev.one (fun k => by rw [impl_product.l1]) ?_⟩
        · rw [e1, w64_succ j (by omega)]
          exact Ev.pos (by omega) (Ev.pos (by omega) (Ev.pos (by omega) (Ev.pos (by omega) (Ev.pos (by omega) (Ev.pos (by omega) h1)))))
        · rw [e1, w64_succ j (by omega)]
          exact Ev.pos (by omega) (Ev.pos (by omega) (Ev.pos (by omega) (Ev.pos (by omega) (Ev.pos (by omega) h2))))
    obtain ⟨r, h0, h1, h2⟩ := inner b.length 0 xs (by omega) hx
    refine ⟨r, h0, Ev.one (fun k => by rw [spec_MultiplyLists.l0]) ?_, Ev.one (fun k => by rw [impl_product.l0]) ?_⟩
    · exact Ev.pos (by omega) h1
    · exact Ev.pos (by omega) (Ev.pos (by omega) (Ev.pos (by omega) h2))
theorem mult_f (a b : List Int) : ∃ r : List Int, r.length ≤ 1000 ∧ Ev (fun k => spec_MultiplyLists.f k a b) r ∧ Ev (fun k => impl_MultiplyLists.f k a b) r := by
  by_cases h1 : (1 : Int) ≤ (a.length : Int) ∧ (a.length : Int) ≤ 500
  · by_cases h2 : (1 : Int) ≤ (b.length : Int) ∧ (b.length : Int) ≤ 500
    · have e1 : wrap64 ((a.length : Int) + (b.length : Int)) = (a.length : Int) + (b.length : Int) := w64_of (by omega) (by omega)
      have e2 : wrap64 ((a.length : Int) + (b.length : Int) - 1) = (a.length : Int) + (b.length : Int) - 1 := w64_of (by omega) (by omega)
      obtain ⟨r, h0, g1, g2⟩ := prod_both a b (by omega) (by omega) a.length 0 (List.replicate ((a.length : Int) + (b.length : Int) - 1).toNat 0) (by omega) (by rw [List.length_replicate]; omega)
      rw [List.length_replicate] at h0
      refine ⟨r, by omega, ?_, ?_⟩
      · unfold spec_MultiplyLists.f
        refine Ev.bnd (spec_l1In_ev _ _ _) (Ev.pos (decide_eq_true h1) (Ev.bnd (spec_l1In_ev _ _ _) ?_))
        refine Ev.one (fun k => by rw [spec_MultiplyLists.j0]) ?_
        rw [e1, e2]
        exact Ev.neg (by rw [decide_eq_true h2]; simp) (Ev.pos (by omega) (Ev.pos (by omega) g1))
      · have g3 : Ev (fun k => impl_product.f k a b) r := by
          unfold impl_product.f
          rw [e1, e2]
          exact Ev.pos (by omega) (Ev.pos (by omega) g2)
        unfold impl_MultiplyLists.f
        exact Ev.bnd (impl_within_ev _ _ _) (Ev.pos (decide_eq_true h1) (Ev.bnd (impl_within_ev _ _ _) (Ev.pos (decide_eq_true h2) (Ev.bnd g3 (Ev.now _)))))
    · refine ⟨[], by simp, ?_, ?_⟩
      · unfold spec_MultiplyLists.f
        refine Ev.bnd (spec_l1In_ev _ _ _) (Ev.pos (decide_eq_true h1) (Ev.bnd (spec_l1In_ev _ _ _) ?_))
        refine Ev.one (fun k => by rw [spec_MultiplyLists.j0]) ?_
        exact Ev.pos (by rw [decide_eq_false h2]; simp) (Ev.now _)
      · unfold impl_MultiplyLists.f
        exact Ev.bnd (impl_within_ev _ _ _) (Ev.pos (decide_eq_true h1) (Ev.bnd (impl_within_ev _ _ _) (Ev.neg (by rw [decide_eq_false h2]; simp) (Ev.now _))))
  · refine ⟨[], by simp, ?_, ?_⟩
    · unfold spec_MultiplyLists.f
      refine Ev.bnd (spec_l1In_ev _ _ _) (Ev.neg (by rw [decide_eq_false h1]; simp) (Ev.one (fun k => by rw [spec_MultiplyLists.j0]) ?_))
      exact Ev.pos (by simp) (Ev.now _)
    · unfold impl_MultiplyLists.f
      exact Ev.bnd (impl_within_ev _ _ _) (Ev.neg (by rw [decide_eq_false h1]; simp) (Ev.now _))
theorem FnExactMultiplyLists (a b : List Int) (hm : a.length ≤ maxLen) (hw : ∀ x ∈ a, (Lit.int .i64 x).wf = true) (hm' : b.length ≤ maxLen) (hw' : ∀ x ∈ b, (Lit.int .i64 x).wf = true) : ∃ k, laws_FnExactMultiplyLists.f k a b = some true := by
  apply Ev.rounds
  unfold laws_FnExactMultiplyLists.f
  by_cases hl : (a.length : Int) > 1048576
  · exact Ev.pos hl (Ev.now _)
  by_cases hl' : (b.length : Int) > 1048576
  · exact Ev.neg hl (Ev.pos hl' (Ev.now _))
  obtain ⟨r, hr, h1, h2⟩ := mult_f a b
  have ht := toIntS_ev a (by omega)
  have he := eqIntS_ev a (by omega)
  have ht' := toIntS_ev b (by omega)
  have he' := eqIntS_ev b (by omega)
  have her := eqIntS_ev r (by omega)
  have hm0 := markIntS_ev a 1 (by omega) (by omega) (by omega)
  have hm1 := markIntS_ev b (1 + (a.length : Int)) (by omega) (by omega) (by omega)
  have hmr := markIntS_ev r 1 (by omega) (by omega) (by omega)
  have hhr := heldIntS_ev r 1 (by omega) (by omega) (by omega)
  refine Ev.neg hl (Ev.neg hl' (Ev.bnd ht (Ev.bnd ht' (Ev.bnd h1 (Ev.bnd ht (Ev.bnd ht' (Ev.bnd h2 (Ev.bnd her (Ev.pos rfl (Ev.bnd ht (Ev.bnd he (Ev.pos rfl (Ev.bnd ht' (Ev.bnd he' (Ev.pos rfl (Ev.bnd hm0 ?_))))))))))))))))
  dsimp only
  refine Ev.bnd hm1 ?_
  dsimp only
  refine Ev.neg (by omega) (Ev.bnd her ?_)
  refine Ev.one (fun k => by rw [laws_FnExactMultiplyLists.j0]) ?_
  exact Ev.neg (by simp) (Ev.bnd hmr (Ev.bnd hhr (Ev.neg (by omega) (Ev.pos rfl (Ev.bnd ht (Ev.bnd ht' (Ev.bnd h2 (Ev.bnd her (Ev.pos rfl (Ev.bnd hhr (Ev.neg (by omega) (Ev.pos rfl (Ev.now _)))))))))))))

end Go.Proofs.Ytfpjjjdiieplkaa.Pure
