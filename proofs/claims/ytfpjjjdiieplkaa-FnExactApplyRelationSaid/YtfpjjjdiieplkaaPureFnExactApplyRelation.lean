/- For all lists and relations the program's ApplyRelation returns what the reference's returns, in memory of its own; no condition besides the row's own. -/
import Derived.Test.YtfpjjjdiieplkaaPFnExactApplyRelationx4
namespace Go.Proofs.Ytfpjjjdiieplkaa.Pure
open Go.RowKit Go.Proofs.Ytfpjjjdiieplkaa.PFnExactApplyRelation Go.Proofs.YtfpjjjdiieplkaaW.PrintWords Go.Proofs.YtfpjjjdiieplkaaW.PrintLast Go.Proofs.YtfpjjjdiieplkaaW.PrintMore
set_option linter.unusedVariables false
set_option linter.unusedSimpArgs false

/-! base: words on rounds and on lists of numbers -/
theorem Ev.pos {α : Type} {c : Prop} [Decidable c] {a b : Nat → Option α} {r : α} (h : c) (e : Ev a r) : Ev (fun k => if c then a k else b k) r :=
  Ev.congr (fun _ => if_pos h) e
theorem Ev.neg {α : Type} {c : Prop} [Decidable c] {a b : Nat → Option α} {r : α} (h : ¬ c) (e : Ev b r) : Ev (fun k => if c then a k else b k) r :=
  Ev.congr (fun _ => if_neg h) e
theorem Ev.some {α β : Type} {x : α} {f : Nat → α → Option β} {r : β} (k : Ev (fun n => f n x) r) : Ev (fun n => (some x).bind (f n)) r := k
theorem Ev.bnd {α β : Type} {g : Nat → Option α} {f : Nat → α → Option β} {a : α} {r : β} (h : Ev g a) (k : Ev (fun n => f n a) r) : Ev (fun n => (g n).bind fun t => f n t) r := Ev.bind h k
/-- One round of a loop. -/
theorem Ev.one {α : Type} {g f : Nat → Option α} {r : α} (h : ∀ k, g (k + 1) = f k) (k : Ev f r) : Ev g r := Ev.step h k
theorem Ev.const {α : Type} {x : Option α} {a : α} (h : x = Option.some a) : Ev (fun _ => x) a := Ev.congr (fun _ => h) (Ev.now a)
theorem Ev.uniq {α : Type} {g : Nat → Option α} {a b : α} (h : Ev g a) (k : Ev g b) : a = b := by
  obtain ⟨K, h⟩ := h
  obtain ⟨K', k⟩ := k
  have h1 := h (max K K') (by omega)
  have h2 := k (max K K') (by omega)
  exact Option.some.inj (h1.symm.trans h2)
theorem rd_at (xs : List Int) (i : Nat) (h : i < xs.length) : rd xs (i : Int) = xs[i] := by
  unfold rd
  rw [Int.toNat_natCast, List.getD_eq_getElem?_getD, List.getElem?_eq_getElem h, Option.getD_some]
theorem w64_of {x : Int} (h0 : -9223372036854775808 ≤ x) (h1 : x < 9223372036854775808) : wrap64 x = x := by
  unfold wrap64
  omega
theorem w64_succ (i : Nat) (h : i < 4611686018427387904) : wrap64 ((i : Int) + 1) = ((i + 1 : Nat) : Int) := by
  rw [w64_of (by omega) (by omega)]
  omega
theorem wf64 {x : Int} (h : (Lit.int .i64 x).wf = true) : -9223372036854775808 ≤ x ∧ x ≤ 9223372036854775807 := by
  simp only [Lit.wf, IntKind.min, IntKind.max, IntKind.signed, IntKind.bits, Bool.and_eq_true, decide_eq_true_eq, if_true] at h
  omega

/-! laws0: toIntS, eqIntS, markIntS, heldIntS -/
theorem toIntS_l0 (l : List Int) (hl : l.length ≤ 35184372088832) : ∀ (d i : Nat) (xs : List Int), i + d = l.length → xs.length = l.length → (∀ j, j < i → xs[j]? = l[j]?) →
    Ev (fun k => laws_toIntS.l0 k l xs (i : Int)) l := by
  intro d
  induction d with
  | zero =>
    intro i xs hi hx hj
    have e : xs = l := by
      apply List.ext_getElem? ; intro j
      by_cases h : j < i
      · exact hj j h
      · rw [List.getElem?_eq_none (by omega), List.getElem?_eq_none (by omega)]
    subst e
    refine Ev.one (fun k => by rw [laws_toIntS.l0]) ?_
    exact Ev.neg (by omega) (Ev.now _)
  | succ d ih =>
    intro i xs hi hx hj
    refine Ev.one (fun k => by rw [laws_toIntS.l0]) ?_
    refine Ev.pos (by omega) (Ev.pos (by omega) (Ev.pos (by omega) ?_))
    rw [w64_succ i (by omega), rd_at l i (by omega), Int.toNat_natCast]
    refine ih (i + 1) _ (by omega) (by rw [List.length_set]; exact hx) (fun j hj' => ?_)
    by_cases e : j = i
    · subst e
      rw [List.getElem?_set_self (by omega), List.getElem?_eq_getElem (by omega)]
    · rw [List.getElem?_set_ne (by omega)]
      exact hj j (by omega)
theorem toIntS_ev (l : List Int) (hl : l.length ≤ 35184372088832) : Ev (fun k => laws_toIntS.f k l) l := by
  unfold laws_toIntS.f
  refine Ev.pos (by omega) (Ev.pos (by omega) ?_)
  exact toIntS_l0 l hl l.length 0 _ (by omega) (by rw [List.length_replicate]; omega) (fun j h => by omega)
theorem eqIntS_l0 (l : List Int) (hl : l.length ≤ 35184372088832) : ∀ (d i : Nat), i + d = l.length → Ev (fun k => laws_eqIntS.l0 k l l (i : Int)) true := by
  intro d
  induction d with
  | zero =>
    intro i hi
    refine Ev.one (fun k => by rw [laws_eqIntS.l0]) ?_
    exact Ev.neg (by omega) (Ev.now _)
  | succ d ih =>
    intro i hi
    refine Ev.one (fun k => by rw [laws_eqIntS.l0]) ?_
    refine Ev.pos (by omega) (Ev.pos (by omega) (Ev.pos (by omega) (Ev.pos rfl ?_)))
    rw [w64_succ i (by omega)]
    exact ih (i + 1) (by omega)
theorem eqIntS_ev (l : List Int) (hl : l.length ≤ 35184372088832) : Ev (fun k => laws_eqIntS.f k l l) true := by
  unfold laws_eqIntS.f
  exact Ev.pos rfl (eqIntS_l0 l hl l.length 0 (by omega))

/-! laws1: markIntS, heldIntS -/
def marks (l : List Int) (a : Int) : List Int := (List.range l.length).map fun j : Nat => a + (j : Int)
theorem marks_length (l : List Int) (a : Int) : (marks l a).length = l.length := by simp [marks]
theorem marks_at (l : List Int) (a : Int) (j : Nat) (h : j < l.length) : (marks l a)[j]? = some (a + (j : Int)) := by simp [marks, h]
theorem markIntS_l0 (l : List Int) (a : Int) (hl : l.length ≤ 35184372088832) (h0 : -1 ≤ a) (h1 : a ≤ 4611686018427387904) : ∀ (d i : Nat) (xs : List Int), i + d = l.length → xs.length = l.length → (∀ j, j < i → xs[j]? = some (a + (j : Int))) →
    Ev (fun k => laws_markIntS.l0 k xs (a + (i : Int)) (i : Int)) (a + (l.length : Int), marks l a) := by
  intro d
  induction d with
  | zero =>
    intro i xs hi hx hj
    have e : xs = marks l a := by
      apply List.ext_getElem? ; intro j
      by_cases h : j < i
      · rw [hj j h, marks_at l a j (by omega)]
      · rw [List.getElem?_eq_none (by omega), List.getElem?_eq_none (by rw [marks_length]; omega)]
    subst e
    obtain rfl : i = l.length := by omega
    refine Ev.one (fun k => by rw [laws_markIntS.l0]) ?_
    exact Ev.neg (by rw [marks_length]; omega) (Ev.now _)
  | succ d ih =>
    intro i xs hi hx hj
    refine Ev.one (fun k => by rw [laws_markIntS.l0]) ?_
    refine Ev.pos (by omega) (Ev.pos (by omega) ?_)
    rw [w64_succ i (by omega), Int.toNat_natCast, w64_of (by omega) (by omega), show a + (i : Int) + 1 = a + ((i + 1 : Nat) : Int) from by omega]
    refine ih (i + 1) _ (by omega) (by rw [List.length_set]; exact hx) (fun j hj' => ?_)
    by_cases e : j = i
    · subst e
      rw [List.getElem?_set_self (by omega)]
    · rw [List.getElem?_set_ne (by omega)]
      exact hj j (by omega)
theorem markIntS_ev (l : List Int) (a : Int) (hl : l.length ≤ 35184372088832) (h0 : -1 ≤ a) (h1 : a ≤ 4611686018427387904) : Ev (fun k => laws_markIntS.f k l a) (a + (l.length : Int), marks l a) := by
  unfold laws_markIntS.f
  have h := markIntS_l0 l a hl h0 h1 l.length 0 l (by omega) rfl (fun j h => by omega)
  rw [show a + ((0 : Nat) : Int) = a from by omega] at h
  exact h
theorem heldIntS_l0 (l : List Int) (a : Int) (hl : l.length ≤ 35184372088832) (h0 : -1 ≤ a) (h1 : a ≤ 4611686018427387904) : ∀ (d i : Nat), i + d = l.length →
    Ev (fun k => laws_heldIntS.l0 k (marks l a) (a + (i : Int)) (i : Int)) (a + (l.length : Int)) := by
  intro d
  induction d with
  | zero =>
    intro i hi
    obtain rfl : i = l.length := by omega
    refine Ev.one (fun k => by rw [laws_heldIntS.l0]) ?_
    exact Ev.neg (by rw [marks_length]; omega) (Ev.now _)
  | succ d ih =>
    intro i hi
    refine Ev.one (fun k => by rw [laws_heldIntS.l0]) ?_
    have e : rd (marks l a) (i : Int) = a + (i : Int) := by
      rw [rd_at _ i (by rw [marks_length]; omega)]
      have := marks_at l a i (by omega)
      rw [List.getElem?_eq_getElem (by rw [marks_length]; omega)] at this
      exact Option.some.inj this
    refine Ev.pos (by rw [marks_length]; omega) (Ev.pos (by omega) (Ev.pos e ?_))
    rw [w64_succ i (by omega), w64_of (by omega) (by omega), show a + (i : Int) + 1 = a + ((i + 1 : Nat) : Int) from by omega]
    exact ih (i + 1) (by omega)
theorem heldIntS_ev (l : List Int) (a : Int) (hl : l.length ≤ 35184372088832) (h0 : -1 ≤ a) (h1 : a ≤ 4611686018427387904) : Ev (fun k => laws_heldIntS.f k (marks l a) a) (a + (l.length : Int)) := by
  unfold laws_heldIntS.f
  have h := heldIntS_l0 l a hl h0 h1 l.length 0 (by omega)
  rw [show a + ((0 : Nat) : Int) = a from by omega] at h
  exact h

/-! sz: how much is left of 1 << 20 -/
theorem szIntS_eq (l : List Int) (a : Int) (h0 : 0 ≤ a) (h1 : a ≤ 1048576) (hl : l.length ≤ maxLen) : laws_szIntS.f l a = some (if (l.length : Int) ≤ a then a - (l.length : Int) else -1) := by
  unfold maxLen at hl
  unfold laws_szIntS.f
  rw [w64_of (by omega) (by omega)]
  by_cases h : (l.length : Int) ≤ a
  · rw [if_neg (by omega), if_pos h]
  · rw [if_pos (by omega), if_neg h]
theorem szIntS_in (l : List Int) (a : Int) (h0 : 0 ≤ a) (h1 : a ≤ 1048576) (hl : l.length ≤ maxLen) (h : (l.length : Int) ≤ a) : Ev (fun _ => laws_szIntS.f l a) (a - (l.length : Int)) := by
  refine Ev.const ?_
  rw [szIntS_eq l a h0 h1 hl, if_pos h]
theorem szIntS_out (l : List Int) (a : Int) (h0 : 0 ≤ a) (h1 : a ≤ 1048576) (hl : l.length ≤ maxLen) (h : ¬ (l.length : Int) ≤ a) : Ev (fun _ => laws_szIntS.f l a) (-1) := by
  refine Ev.const ?_
  rw [szIntS_eq l a h0 h1 hl, if_neg h]

/-! relation: sz, to, eq, mark of a relation -/
theorem szRelation_in (a b : List Int) (ha : a.length ≤ maxLen) (hb : b.length ≤ maxLen) (h : (a.length : Int) + (b.length : Int) ≤ 1048576) : Ev (fun _ => laws_szRelation.f a b 1048576) (1048576 - (a.length : Int) - (b.length : Int)) := by
  unfold laws_szRelation.f
  exact Ev.bnd (szIntS_in a _ (by omega) (by omega) ha (by omega)) (Ev.neg (by omega) (Ev.bnd (szIntS_in b _ (by omega) (by omega) hb (by omega)) (Ev.neg (by omega) (Ev.now _))))
theorem szRelation_out (a b : List Int) (ha : a.length ≤ maxLen) (hb : b.length ≤ maxLen) (h : ¬ (a.length : Int) + (b.length : Int) ≤ 1048576) : Ev (fun _ => laws_szRelation.f a b 1048576) (-1) := by
  unfold laws_szRelation.f
  by_cases h1 : (a.length : Int) ≤ 1048576
  · exact Ev.bnd (szIntS_in a _ (by omega) (by omega) ha (by omega)) (Ev.neg (by omega) (Ev.bnd (szIntS_out b _ (by omega) (by omega) hb (by omega)) (Ev.pos (by omega) (Ev.now _))))
  · exact Ev.bnd (szIntS_out a _ (by omega) (by omega) ha (by omega)) (Ev.pos (by omega) (Ev.now _))
theorem toRelation_ev (a b : List Int) (ha : a.length ≤ 35184372088832) (hb : b.length ≤ 35184372088832) : Ev (fun k => laws_toRelation.f k a b) (a, b) := by
  unfold laws_toRelation.f
  exact Ev.bnd (toIntS_ev a ha) (Ev.bnd (toIntS_ev b hb) (Ev.now _))
theorem eqRelation_ev (a b : List Int) (ha : a.length ≤ 35184372088832) (hb : b.length ≤ 35184372088832) : Ev (fun k => laws_eqRelation.f k a b a b) true := by
  unfold laws_eqRelation.f
  exact Ev.bnd (eqIntS_ev a ha) (Ev.pos rfl (Ev.bnd (eqIntS_ev b hb) (Ev.pos rfl (Ev.now _))))
theorem markRelation_ev (a b : List Int) (x : Int) (ha : a.length ≤ 1048576) (hb : b.length ≤ 1048576) (h0 : -1 ≤ x) (h1 : x ≤ 1099511627776) : Ev (fun k => laws_markRelation.f k a b x) (x + (a.length : Int) + (b.length : Int), marks a x, marks b (x + (a.length : Int))) := by
  unfold laws_markRelation.f
  refine Ev.bnd (markIntS_ev a x (by omega) h0 (by omega)) ?_
  dsimp only
  exact Ev.bnd (markIntS_ev b (x + (a.length : Int)) (by omega) (by omega) (by omega)) (Ev.now _)

theorem apply_both (a b l : List Int) (ha : a.length = l.length) (hb : b.length = l.length) (hl : l.length ≤ 1048576) : ∀ (d i : Nat) (xs : List Int), i + d = l.length → xs.length = i →
    ∃ r : List Int × Bool, r.1.length ≤ l.length ∧ Ev (fun k => spec_ApplyRelation.l0 k l xs (i : Int) a b) r ∧ Ev (fun k => impl_ApplyRelation.l0 k xs l (l.length : Int) (i : Int) a b) r := by
  intro d
  induction d with
  | zero =>
    intro i xs hi hx
    refine ⟨(xs, true), by show xs.length ≤ _; omega, Ev.one (fun k => by rw [spec_ApplyRelation.l0]) ?_, Ev.one (fun k => by rw [impl_ApplyRelation.l0]) ?_⟩
    · exact Ev.neg (by omega) (Ev.now _)
    · exact Ev.neg (by omega) (Ev.now _)
  | succ d ih =>
    intro i xs hi hx
    by_cases h : rd l (i : Int) < rd a (i : Int)
    · refine ⟨([], false), by simp, Ev.one (fun k => by rw [spec_ApplyRelation.l0]) ?_, Ev.one (fun k => by rw [impl_ApplyRelation.l0]) ?_⟩
      · exact Ev.pos (by omega) (Ev.pos (by omega) (Ev.pos (by omega) (Ev.pos h (Ev.now _))))
      · exact Ev.pos (by omega) (Ev.pos (by omega) (Ev.pos (by omega) (Ev.pos (by omega) (Ev.pos h (Ev.now _)))))
    · obtain ⟨r, h0, h1, h2⟩ := ih (i + 1) (xs ++ [wrap64 (wrap64 (rd l (i : Int) - rd a (i : Int)) + rd b (i : Int))]) (by omega) (by rw [List.length_append]; simp; omega)
      refine ⟨r, h0, Ev.one (fun k => by rw [spec_ApplyRelation.l0]) ?_, Ev.one (fun k => by rw [impl_ApplyRelation.l0]) ?_⟩
      · rw [w64_succ i (by omega)]
        exact Ev.pos (by omega) (Ev.pos (by omega) (Ev.pos (by omega) (Ev.neg h (Ev.pos (by omega) (Ev.pos (by omega) h1)))))
      · rw [w64_succ i (by omega)]
        exact Ev.pos (by omega) (Ev.pos (by omega) (Ev.pos (by omega) (Ev.pos (by omega) (Ev.neg h (Ev.pos (by omega) (Ev.pos (by omega) h2))))))
theorem apply_f (a b l : List Int) (hl : l.length ≤ 1048576) :
    ∃ r : List Int × Bool, r.1.length ≤ l.length ∧ Ev (fun k => spec_ApplyRelation.f k a b l) r ∧ Ev (fun k => impl_ApplyRelation.f k a b l) r := by
  unfold spec_ApplyRelation.f impl_ApplyRelation.f
  by_cases h1 : (a.length : Int) = (l.length : Int)
  · by_cases h2 : (b.length : Int) = (l.length : Int)
    · obtain ⟨r, h0, g1, g2⟩ := apply_both a b l (by omega) (by omega) hl l.length 0 [] (by omega) rfl
      refine ⟨r, h0, Ev.pos h1 (Ev.one (fun k => by rw [spec_ApplyRelation.j0]) ?_), Ev.pos h1 (Ev.one (fun k => by rw [impl_ApplyRelation.j0]) ?_)⟩
      · exact Ev.neg (by rw [h2]; simp) g1
      · exact Ev.neg (by rw [h2]; simp) g2
    · refine ⟨([], false), by simp, Ev.pos h1 (Ev.one (fun k => by rw [spec_ApplyRelation.j0]) ?_), Ev.pos h1 (Ev.one (fun k => by rw [impl_ApplyRelation.j0]) ?_)⟩
      · exact Ev.pos (by simpa using h2) (Ev.now _)
      · exact Ev.pos (by simpa using h2) (Ev.now _)
  · refine ⟨([], false), by simp, Ev.neg h1 (Ev.one (fun k => by rw [spec_ApplyRelation.j0]) ?_), Ev.neg h1 (Ev.one (fun k => by rw [impl_ApplyRelation.j0]) ?_)⟩
    · exact Ev.pos rfl (Ev.now _)
    · exact Ev.pos rfl (Ev.now _)
theorem FnExactApplyRelation (a b l : List Int) (hma : a.length ≤ maxLen) (hwa : ∀ x ∈ a, (Lit.int .i64 x).wf = true) (hmb : b.length ≤ maxLen) (hwb : ∀ x ∈ b, (Lit.int .i64 x).wf = true) (hml : l.length ≤ maxLen) (hwl : ∀ x ∈ l, (Lit.int .i64 x).wf = true) :
    ∃ k, laws_FnExactApplyRelation.f k a b l = some true := by
  apply Ev.rounds
  unfold laws_FnExactApplyRelation.f
  by_cases hl : (l.length : Int) > 1048576
  · exact Ev.pos hl (Ev.now _)
  by_cases hs : (a.length : Int) + (b.length : Int) ≤ 1048576
  rotate_left
  · exact Ev.neg hl (Ev.bnd (szRelation_out a b hma hmb hs) (Ev.pos (by omega) (Ev.now _)))
  obtain ⟨⟨r, ok⟩, hr, h1, h2⟩ := apply_f a b l (by omega)
  dsimp only at hr
  have hto := toRelation_ev a b (by omega) (by omega)
  have heq := eqRelation_ev a b (by omega) (by omega)
  have hmk := markRelation_ev a b 1 (by omega) (by omega) (by omega) (by omega)
  have ht := toIntS_ev l (by omega)
  have he := eqIntS_ev l (by omega)
  have her := eqIntS_ev r (by omega)
  have hml := markIntS_ev l (1 + (a.length : Int) + (b.length : Int)) (by omega) (by omega) (by omega)
  have hmr := markIntS_ev r 1 (by omega) (by omega) (by omega)
  have hhr := heldIntS_ev r 1 (by omega) (by omega) (by omega)
  refine Ev.neg hl (Ev.bnd (szRelation_in a b hma hmb hs) (Ev.neg (by omega) (Ev.bnd hto ?_)))
  dsimp only
  refine Ev.bnd ht (Ev.bnd h1 (Ev.bnd hto ?_))
  dsimp only
  refine Ev.bnd ht (Ev.bnd h2 ?_)
  dsimp only
  refine Ev.bnd her (Ev.pos rfl (Ev.one (fun k => by rw [laws_FnExactApplyRelation.j0]) ?_))
  refine Ev.neg (by simp) (Ev.bnd hto ?_)
  dsimp only
  refine Ev.bnd heq (Ev.pos rfl (Ev.bnd ht (Ev.bnd he (Ev.pos rfl (Ev.bnd hmk ?_)))))
  dsimp only
  refine Ev.bnd hml ?_
  dsimp only
  refine Ev.neg (by omega) (Ev.bnd her (Ev.pos rfl (Ev.one (fun k => by rw [laws_FnExactApplyRelation.j1]) ?_)))
  refine Ev.neg (by simp) (Ev.bnd hmr ?_)
  dsimp only
  refine Ev.bnd hhr (Ev.neg (by omega) (Ev.pos rfl (Ev.bnd hto ?_)))
  dsimp only
  refine Ev.bnd ht (Ev.bnd h2 ?_)
  dsimp only
  refine Ev.bnd her (Ev.pos rfl (Ev.one (fun k => by rw [laws_FnExactApplyRelation.j2]) ?_))
  exact Ev.neg (by simp) (Ev.bnd hhr (Ev.neg (by omega) (Ev.pos rfl (Ev.now _))))

end Go.Proofs.Ytfpjjjdiieplkaa.Pure
