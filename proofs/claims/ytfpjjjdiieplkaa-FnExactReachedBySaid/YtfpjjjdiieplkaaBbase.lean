/- Plain lemmas (base, laws0, laws1, sz, relation, within, applyrel, same, rowfind, rellist, reached, nestedbig): no program, no memory. -/
import Derived.Test.YtfpjjjdiieplkaaC0
import Derived.Test.YtfpjjjdiieplkaaC1
import Derived.Test.YtfpjjjdiieplkaaC2
import Derived.Test.YtfpjjjdiieplkaaC3
import Derived.Test.YtfpjjjdiieplkaaC4
import Derived.Test.YtfpjjjdiieplkaaC5
namespace Go.Proofs.Ytfpjjjdiieplkaa.Pure
open Go.RowKit Go.Proofs.Ytfpjjjdiieplkaa.C Go.Proofs.YtfpjjjdiieplkaaW.PrintWords Go.Proofs.YtfpjjjdiieplkaaW.PrintLast Go.Proofs.YtfpjjjdiieplkaaW.PrintMore
set_option linter.unusedVariables false
set_option linter.unusedSimpArgs false
/-! base: words on rounds and on lists of numbers -/
theorem Ev.pos {α : Type} {c : Prop} [Decidable c] {a b : Nat → Option α} {r : α} (h : c) (e : Ev a r) : Ev (fun k => if c then a k else b k) r :=
 Ev.congr (fun _ => if_pos h) e
theorem Ev.neg {α : Type} {c : Prop} [Decidable c] {a b : Nat → Option α} {r : α} (h : ¬ c) (e : Ev b r) : Ev (fun k => if c then a k else b k) r :=
 Ev.congr (fun _ => if_neg h) e
theorem Ev.some {α β : Type} {x : α} {f : Nat → α → Option β} {r : β} (k : Ev (fun n => f n x) r) : Ev (fun n => (some x).bind (f n)) r := k
theorem Ev.bnd {α β : Type} {g : Nat → Option α} {f : Nat → α → Option β} {a : α} {r : β} (h : Ev g a) (k : Ev (fun n => f n a) r) : Ev (fun n => (g n).bind fun t => f n t) r := Ev.bind h k
/-- One round of a loop. -/
theorem Ev.one {α : Type} {g f : Nat → Option α} {r : α} (h : ∀ k, g (k + 1) = f k) (k : Ev f r) : Ev g r := Ev.step h k
theorem Ev.const {α : Type} {x : Option α} {a : α} (h : x = Option.some a) : Ev (fun _ => x) a := Ev.congr (fun _ => h) (Ev.now a)
theorem Ev.uniq {α : Type} {g : Nat → Option α} {a b : α} (h : Ev g a) (k : Ev g b) : a = b := by
 obtain ⟨K, h⟩ := h
 obtain ⟨K', k⟩ := k
 have h1 := h (max K K') (by omega)
 have h2 := k (max K K') (by omega)
 exact Option.some.inj (h1.symm.trans h2)
theorem rd_at (xs : List Int) (i : Nat) (h : i < xs.length) : rd xs (i : Int) = xs[i] := by
 unfold rd
 rw [Int.toNat_natCast, List.getD_eq_getElem?_getD, List.getElem?_eq_getElem h, Option.getD_some]
theorem w64_of {x : Int} (h0 : -9223372036854775808 ≤ x) (h1 : x < 9223372036854775808) : wrap64 x = x := by
 unfold wrap64
 omega
theorem w64_succ (i : Nat) (h : i < 4611686018427387904) : wrap64 ((i : Int) + 1) = ((i + 1 : Nat) : Int) := by
 rw [w64_of (by omega) (by omega)]
 omega
theorem wf64 {x : Int} (h : (Lit.int .i64 x).wf = true) : -9223372036854775808 ≤ x ∧ x ≤ 9223372036854775807 := by
 simp only [Lit.wf, IntKind.min, IntKind.max, IntKind.signed, IntKind.bits, Bool.and_eq_true, decide_eq_true_eq, if_true] at h
 omega
/-! laws0: toIntS, eqIntS, markIntS, heldIntS -/
theorem toIntS_l0 (l : List Int) (hl : l.length ≤ 35184372088832) : ∀ (d i : Nat) (xs : List Int), i + d = l.length → xs.length = l.length → (∀ j, j < i → xs[j]? = l[j]?) →
  Ev (fun k => laws_toIntS.l0 k l xs (i : Int)) l := by
 intro d
 induction d with
 | zero =>
  intro i xs hi hx hj
  have e : xs = l := by
   apply List.ext_getElem? ; intro j
   by_cases h : j < i
   ·exact hj j h
   ·rw [List.getElem?_eq_none (by omega), List.getElem?_eq_none (by omega)]
  subst e
  refine Ev.one (fun k => by rw [laws_toIntS.l0]) ?_
  exact Ev.neg (by omega) (Ev.now _)
 | succ d ih =>
  intro i xs hi hx hj
  refine Ev.one (fun k => by rw [laws_toIntS.l0]) ?_
  refine Ev.pos (by omega) (Ev.pos (by omega) (Ev.pos (by omega) ?_))
  rw [w64_succ i (by omega), rd_at l i (by omega), Int.toNat_natCast]
  refine ih (i + 1) _ (by omega) (by rw [List.length_set]; exact hx) (fun j hj' => ?_)
  by_cases e : j = i
  ·subst e
   rw [List.getElem?_set_self (by omega), List.getElem?_eq_getElem (by omega)]
  ·rw [List.getElem?_set_ne (by omega)]
   exact hj j (by omega)
theorem toIntS_ev (l : List Int) (hl : l.length ≤ 35184372088832) : Ev (fun k => laws_toIntS.f k l) l := by
 unfold laws_toIntS.f
 refine Ev.pos (by omega) (Ev.pos (by omega) ?_)
 exact toIntS_l0 l hl l.length 0 _ (by omega) (by rw [List.length_replicate]; omega) (fun j h => by omega)
theorem eqIntS_l0 (l : List Int) (hl : l.length ≤ 35184372088832) : ∀ (d i : Nat), i + d = l.length → Ev (fun k => laws_eqIntS.l0 k l l (i : Int)) true := by
 intro d
 induction d with
 | zero =>
  intro i hi
  refine Ev.one (fun k => by rw [laws_eqIntS.l0]) ?_
  exact Ev.neg (by omega) (Ev.now _)
 | succ d ih =>
  intro i hi
  refine Ev.one (fun k => by rw [laws_eqIntS.l0]) ?_
  refine Ev.pos (by omega) (Ev.pos (by omega) (Ev.pos (by omega) (Ev.pos rfl ?_)))
  rw [w64_succ i (by omega)]
  exact ih (i + 1) (by omega)
theorem eqIntS_ev (l : List Int) (hl : l.length ≤ 35184372088832) : Ev (fun k => laws_eqIntS.f k l l) true := by
 unfold laws_eqIntS.f
 exact Ev.pos rfl (eqIntS_l0 l hl l.length 0 (by omega))
/-! laws1: markIntS, heldIntS -/
def marks (l : List Int) (a : Int) : List Int := (List.range l.length).map fun j : Nat => a + (j : Int)
theorem marks_length (l : List Int) (a : Int) : (marks l a).length = l.length := by simp [marks]
theorem marks_at (l : List Int) (a : Int) (j : Nat) (h : j < l.length) : (marks l a)[j]? = some (a + (j : Int)) := by simp [marks, h]
theorem markIntS_l0 (l : List Int) (a : Int) (hl : l.length ≤ 35184372088832) (h0 : -1 ≤ a) (h1 : a ≤ 4611686018427387904) : ∀ (d i : Nat) (xs : List Int), i + d = l.length → xs.length = l.length → (∀ j, j < i → xs[j]? = some (a + (j : Int))) →
  Ev (fun k => laws_markIntS.l0 k xs (a + (i : Int)) (i : Int)) (a + (l.length : Int), marks l a) := by
 intro d
 induction d with
 | zero =>
  intro i xs hi hx hj
  have e : xs = marks l a := by
   apply List.ext_getElem? ; intro j
   by_cases h : j < i
   ·rw [hj j h, marks_at l a j (by omega)]
   ·rw [List.getElem?_eq_none (by omega), List.getElem?_eq_none (by rw [marks_length]; omega)]
  subst e
  obtain rfl : i = l.length := by omega
  refine Ev.one (fun k => by rw [laws_markIntS.l0]) ?_
  exact Ev.neg (by rw [marks_length]; omega) (Ev.now _)
 | succ d ih =>
  intro i xs hi hx hj
  refine Ev.one (fun k => by rw [laws_markIntS.l0]) ?_
  refine Ev.pos (by omega) (Ev.pos (by omega) ?_)
  rw [w64_succ i (by omega), Int.toNat_natCast, w64_of (by omega) (by omega), show a + (i : Int) + 1 = a + ((i + 1 : Nat) : Int) from by omega]
  refine ih (i + 1) _ (by omega) (by rw [List.length_set]; exact hx) (fun j hj' => ?_)
  by_cases e : j = i
  ·subst e
   rw [List.getElem?_set_self (by omega)]
  ·rw [List.getElem?_set_ne (by omega)]
   exact hj j (by omega)
theorem markIntS_ev (l : List Int) (a : Int) (hl : l.length ≤ 35184372088832) (h0 : -1 ≤ a) (h1 : a ≤ 4611686018427387904) : Ev (fun k => laws_markIntS.f k l a) (a + (l.length : Int), marks l a) := by
 unfold laws_markIntS.f
 have h := markIntS_l0 l a hl h0 h1 l.length 0 l (by omega) rfl (fun j h => by omega)
 rw [show a + ((0 : Nat) : Int) = a from by omega] at h
 exact h
theorem heldIntS_l0 (l : List Int) (a : Int) (hl : l.length ≤ 35184372088832) (h0 : -1 ≤ a) (h1 : a ≤ 4611686018427387904) : ∀ (d i : Nat), i + d = l.length →
  Ev (fun k => laws_heldIntS.l0 k (marks l a) (a + (i : Int)) (i : Int)) (a + (l.length : Int)) := by
 intro d
 induction d with
 | zero =>
  intro i hi
  obtain rfl : i = l.length := by omega
  refine Ev.one (fun k => by rw [laws_heldIntS.l0]) ?_
  exact Ev.neg (by rw [marks_length]; omega) (Ev.now _)
 | succ d ih =>
  intro i hi
  refine Ev.one (fun k => by rw [laws_heldIntS.l0]) ?_
  have e : rd (marks l a) (i : Int) = a + (i : Int) := by
   rw [rd_at _ i (by rw [marks_length]; omega)]
   have := marks_at l a i (by omega)
   rw [List.getElem?_eq_getElem (by rw [marks_length]; omega)] at this
   exact Option.some.inj this
  refine Ev.pos (by rw [marks_length]; omega) (Ev.pos (by omega) (Ev.pos e ?_))
  rw [w64_succ i (by omega), w64_of (by omega) (by omega), show a + (i : Int) + 1 = a + ((i + 1 : Nat) : Int) from by omega]
  exact ih (i + 1) (by omega)
theorem heldIntS_ev (l : List Int) (a : Int) (hl : l.length ≤ 35184372088832) (h0 : -1 ≤ a) (h1 : a ≤ 4611686018427387904) : Ev (fun k => laws_heldIntS.f k (marks l a) a) (a + (l.length : Int)) := by
 unfold laws_heldIntS.f
 have h := heldIntS_l0 l a hl h0 h1 l.length 0 (by omega)
 rw [show a + ((0 : Nat) : Int) = a from by omega] at h
 exact h
/-! sz: how much is left of 1 << 20 -/
theorem szIntS_eq (l : List Int) (a : Int) (h0 : 0 ≤ a) (h1 : a ≤ 1048576) (hl : l.length ≤ maxLen) : laws_szIntS.f l a = some (if (l.length : Int) ≤ a then a - (l.length : Int) else -1) := by
 unfold maxLen at hl
 unfold laws_szIntS.f
 rw [w64_of (by omega) (by omega)]
 by_cases h : (l.length : Int) ≤ a
 ·rw [if_neg (by omega), if_pos h]
 ·rw [if_pos (by omega), if_neg h]
theorem szIntS_in (l : List Int) (a : Int) (h0 : 0 ≤ a) (h1 : a ≤ 1048576) (hl : l.length ≤ maxLen) (h : (l.length : Int) ≤ a) : Ev (fun _ => laws_szIntS.f l a) (a - (l.length : Int)) := by
 refine Ev.const ?_
 rw [szIntS_eq l a h0 h1 hl, if_pos h]
theorem szIntS_out (l : List Int) (a : Int) (h0 : 0 ≤ a) (h1 : a ≤ 1048576) (hl : l.length ≤ maxLen) (h : ¬ (l.length : Int) ≤ a) : Ev (fun _ => laws_szIntS.f l a) (-1) := by
 refine Ev.const ?_
 rw [szIntS_eq l a h0 h1 hl, if_neg h]
/-! relation: sz, to, eq, mark of a relation -/
theorem szRelation_in (a b : List Int) (ha : a.length ≤ maxLen) (hb : b.length ≤ maxLen) (h : (a.length : Int) + (b.length : Int) ≤ 1048576) : Ev (fun _ => laws_szRelation.f a b 1048576) (1048576 - (a.length : Int) - (b.length : Int)) := by
 unfold laws_szRelation.f
 exact Ev.bnd (szIntS_in a _ (by omega) (by omega) ha (by omega)) (Ev.neg (by omega) (Ev.bnd (szIntS_in b _ (by omega) (by omega) hb (by omega)) (Ev.neg (by omega) (Ev.now _))))
theorem szRelation_out (a b : List Int) (ha : a.length ≤ maxLen) (hb : b.length ≤ maxLen) (h : ¬ (a.length : Int) + (b.length : Int) ≤ 1048576) : Ev (fun _ => laws_szRelation.f a b 1048576) (-1) := by
 unfold laws_szRelation.f
 by_cases h1 : (a.length : Int) ≤ 1048576
 ·exact Ev.bnd (szIntS_in a _ (by omega) (by omega) ha (by omega)) (Ev.neg (by omega) (Ev.bnd (szIntS_out b _ (by omega) (by omega) hb (by omega)) (Ev.pos (by omega) (Ev.now _))))
 ·exact Ev.bnd (szIntS_out a _ (by omega) (by omega) ha (by omega)) (Ev.pos (by omega) (Ev.now _))
theorem toRelation_ev (a b : List Int) (ha : a.length ≤ 35184372088832) (hb : b.length ≤ 35184372088832) : Ev (fun k => laws_toRelation.f k a b) (a, b) := by
 unfold laws_toRelation.f
 exact Ev.bnd (toIntS_ev a ha) (Ev.bnd (toIntS_ev b hb) (Ev.now _))
theorem eqRelation_ev (a b : List Int) (ha : a.length ≤ 35184372088832) (hb : b.length ≤ 35184372088832) : Ev (fun k => laws_eqRelation.f k a b a b) true := by
 unfold laws_eqRelation.f
 exact Ev.bnd (eqIntS_ev a ha) (Ev.pos rfl (Ev.bnd (eqIntS_ev b hb) (Ev.pos rfl (Ev.now _))))
/-! within: l1In, within, allWithin -/
theorem spec_l1In_eq (a b c : Int) : spec_l1In.f a b c = some (decide (b ≤ a ∧ a ≤ c)) := by
 unfold spec_l1In.f
 by_cases h : a ≥ b
 ·rw [if_pos h]
  by_cases h2 : a ≤ c
  ·rw [decide_eq_true h2, decide_eq_true ⟨h, h2⟩]
  ·rw [decide_eq_false h2, decide_eq_false (fun h3 => h2 h3.2)]
 ·rw [if_neg h, decide_eq_false (fun h3 => h h3.1)]
theorem impl_within_eq (a b c : Int) : impl_within.f a b c = some (decide (b ≤ a ∧ a ≤ c)) := by
 unfold impl_within.f
 by_cases h : a ≥ b
 ·rw [if_pos h]
  by_cases h2 : a ≤ c
  ·rw [decide_eq_true h2, decide_eq_true ⟨h, h2⟩]
  ·rw [decide_eq_false h2, decide_eq_false (fun h3 => h2 h3.2)]
 ·rw [if_neg h, decide_eq_false (fun h3 => h h3.1)]
theorem spec_l1In_ev (a b c : Int) : Ev (fun _ => spec_l1In.f a b c) (decide (b ≤ a ∧ a ≤ c)) := Ev.const (spec_l1In_eq a b c)
theorem impl_within_ev (a b c : Int) : Ev (fun _ => impl_within.f a b c) (decide (b ≤ a ∧ a ≤ c)) := Ev.const (impl_within_eq a b c)
/-! applyrel: a relation applied, on both sides -/
theorem apply_both (a b l : List Int) (ha : a.length = l.length) (hb : b.length = l.length) (hl : l.length ≤ 1048576) : ∀ (d i : Nat) (xs : List Int), i + d = l.length → xs.length = i →
  ∃ r : List Int × Bool, r.1.length ≤ l.length ∧ Ev (fun k => spec_ApplyRelation.l0 k l xs (i : Int) a b) r ∧ Ev (fun k => impl_ApplyRelation.l0 k xs l (l.length : Int) (i : Int) a b) r := by
 intro d
 induction d with
 | zero =>
  intro i xs hi hx
  refine ⟨(xs, true), by show xs.length ≤ _; omega, Ev.one (fun k => by rw [spec_ApplyRelation.l0]) ?_, Ev.one (fun k => by rw [impl_ApplyRelation.l0]) ?_⟩
  ·exact Ev.neg (by omega) (Ev.now _)
  ·exact Ev.neg (by omega) (Ev.now _)
 | succ d ih =>
  intro i xs hi hx
  by_cases h : rd l (i : Int) < rd a (i : Int)
  ·refine ⟨([], false), by simp, Ev.one (fun k => by rw [spec_ApplyRelation.l0]) ?_, Ev.one (fun k => by rw [impl_ApplyRelation.l0]) ?_⟩
   ·exact Ev.pos (by omega) (Ev.pos (by omega) (Ev.pos (by omega) (Ev.pos h (Ev.now _))))
   ·exact Ev.pos (by omega) (Ev.pos (by omega) (Ev.pos (by omega) (Ev.pos (by omega) (Ev.pos h (Ev.now _)))))
  ·obtain ⟨r, h0, h1, h2⟩ := ih (i + 1) (xs ++ [wrap64 (wrap64 (rd l (i : Int) - rd a (i : Int)) + rd b (i : Int))]) (by omega) (by rw [List.length_append]; simp; omega)
   refine ⟨r, h0, Ev.one (fun k => by rw [spec_ApplyRelation.l0]) ?_, Ev.one (fun k => by rw [impl_ApplyRelation.l0]) ?_⟩
   ·rw [w64_succ i (by omega)]
    exact Ev.pos (by omega) (Ev.pos (by omega) (Ev.pos (by omega) (Ev.neg h (Ev.pos (by omega) (Ev.pos (by omega) h1)))))
   ·rw [w64_succ i (by omega)]
    exact Ev.pos (by omega) (Ev.pos (by omega) (Ev.pos (by omega) (Ev.pos (by omega) (Ev.neg h (Ev.pos (by omega) (Ev.pos (by omega) h2))))))
theorem apply_f (a b l : List Int) (hl : l.length ≤ 1048576) :
  ∃ r : List Int × Bool, r.1.length ≤ l.length ∧ Ev (fun k => spec_ApplyRelation.f k a b l) r ∧ Ev (fun k => impl_ApplyRelation.f k a b l) r := by
 unfold spec_ApplyRelation.f impl_ApplyRelation.f
 by_cases h1 : (a.length : Int) = (l.length : Int)
 ·by_cases h2 : (b.length : Int) = (l.length : Int)
  ·obtain ⟨r, h0, g1, g2⟩ := apply_both a b l (by omega) (by omega) hl l.length 0 [] (by omega) rfl
   refine ⟨r, h0, Ev.pos h1 (Ev.one (fun k => by rw [spec_ApplyRelation.j0]) ?_), Ev.pos h1 (Ev.one (fun k => by rw [impl_ApplyRelation.j0]) ?_)⟩
   ·exact Ev.neg (by rw [h2]; simp) g1
   ·exact Ev.neg (by rw [h2]; simp) g2
  ·refine ⟨([], false), by simp, Ev.pos h1 (Ev.one (fun k => by rw [spec_ApplyRelation.j0]) ?_), Ev.pos h1 (Ev.one (fun k => by rw [impl_ApplyRelation.j0]) ?_)⟩
   ·exact Ev.pos (by simpa using h2) (Ev.now _)
   ·exact Ev.pos (by simpa using h2) (Ev.now _)
 ·refine ⟨([], false), by simp, Ev.neg h1 (Ev.one (fun k => by rw [spec_ApplyRelation.j0]) ?_), Ev.neg h1 (Ev.one (fun k => by rw [impl_ApplyRelation.j0]) ?_)⟩
  ·exact Ev.pos rfl (Ev.now _)
  ·exact Ev.pos rfl (Ev.now _)
/-! same: two lists compared; rows read -/
theorem rd_L2_at (xs : List (List Int)) (i : Nat) (h : i < xs.length) : rd_L2 xs (i : Int) = xs[i] := by
 unfold rd_L2
 rw [Int.toNat_natCast, List.getD_eq_getElem?_getD, List.getElem?_eq_getElem h, Option.getD_some]
theorem spec_l2Same_l0 (a b : List Int) (hab : a.length = b.length) (hl : a.length ≤ 1048576) : ∀ (d i : Nat), i + d = a.length → ∃ r, (r = true ↔ a.drop i = b.drop i) ∧ Ev (fun k => spec_l2Same.l0 k a b (i : Int)) r := by
 intro d
 induction d with
 | zero =>
  intro i hi
  refine ⟨true, by rw [List.drop_eq_nil_of_le (show a.length ≤ i by omega), List.drop_eq_nil_of_le (show b.length ≤ i by omega)]; simp, Ev.one (fun k => by rw [spec_l2Same.l0]) ?_⟩
  exact Ev.neg (by omega) (Ev.now _)
 | succ d ih =>
  intro i hi
  rw [List.drop_eq_getElem_cons (show i < a.length by omega), List.drop_eq_getElem_cons (show i < b.length by omega)]
  by_cases h : a[i] = b[i]
  ·obtain ⟨r, r1, r2⟩ := ih (i + 1) (by omega)
   refine ⟨r, by rw [r1, h, List.cons.injEq]; simp, Ev.one (fun k => by rw [spec_l2Same.l0]) ?_⟩
   rw [rd_at a i (by omega), rd_at b i (by omega), w64_succ i (by omega)]
   exact Ev.pos (by omega) (Ev.pos (by omega) (Ev.pos (by omega) (Ev.pos h r2)))
  ·refine ⟨false, ⟨(fun e => by cases e), fun e => absurd (List.cons.inj e).1 h⟩, Ev.one (fun k => by rw [spec_l2Same.l0]) ?_⟩
   rw [rd_at a i (by omega), rd_at b i (by omega)]
   exact Ev.pos (by omega) (Ev.pos (by omega) (Ev.pos (by omega) (Ev.neg h (Ev.now _))))
theorem spec_l2Same_ev (a b : List Int) (hl : a.length ≤ 1048576) : ∃ r, (r = true ↔ a = b) ∧ Ev (fun k => spec_l2Same.f k a b) r := by
 unfold spec_l2Same.f
 by_cases h : a.length = b.length
 ·obtain ⟨r, r1, r2⟩ := spec_l2Same_l0 a b h hl a.length 0 (by omega)
  exact ⟨r, by rw [r1]; simp, Ev.pos (by omega) r2⟩
 ·exact ⟨false, ⟨(fun e => by cases e), fun e => absurd (congrArg List.length e) h⟩, Ev.neg (by omega) (Ev.now _)⟩
/-! rowfind: the place of a list among lists -/
theorem eqR_ev (a b : List Int) (hl : a.length ≤ 1048576) : ∃ r, (r = true ↔ a = b) ∧ Ev (fun k => eqR.f k a b) r := by
 unfold eqR.f
 by_cases h : a.length = b.length
 ·have go : ∀ (d i : Nat), i + d = a.length → ∃ r, (r = true ↔ a.drop i = b.drop i) ∧ Ev (fun k => eqR.l0 k a b (a.length : Int) (i : Int)) r := by
   intro d
   induction d with
   | zero =>
    intro i hi
    refine ⟨true, by rw [List.drop_eq_nil_of_le (show a.length ≤ i by omega), List.drop_eq_nil_of_le (show b.length ≤ i by omega)]; simp, Ev.one (fun k => by rw [eqR.l0]) ?_⟩
    exact Ev.neg (by omega) (Ev.now _)
   | succ d ih =>
    intro i hi
    rw [List.drop_eq_getElem_cons (show i < a.length by omega), List.drop_eq_getElem_cons (show i < b.length by omega)]
    by_cases h : a[i] = b[i]
    ·obtain ⟨r, r1, r2⟩ := ih (i + 1) (by omega)
     refine ⟨r, by rw [r1, h, List.cons.injEq]; simp, Ev.one (fun k => by rw [eqR.l0]) ?_⟩
     rw [rd_at a i (by omega), rd_at b i (by omega), w64_succ i (by omega)]
     exact Ev.pos (by omega) (Ev.pos (by omega) (Ev.pos (by omega) (Ev.pos (by omega) (Ev.pos h r2))))
    ·refine ⟨false, ⟨(fun e => by cases e), fun e => absurd (List.cons.inj e).1 h⟩, Ev.one (fun k => by rw [eqR.l0]) ?_⟩
     rw [rd_at a i (by omega), rd_at b i (by omega)]
     exact Ev.pos (by omega) (Ev.pos (by omega) (Ev.pos (by omega) (Ev.pos (by omega) (Ev.neg h (Ev.now _)))))
  obtain ⟨r, r1, r2⟩ := go a.length 0 (by omega)
  exact ⟨r, by rw [r1]; simp, Ev.pos (by omega) r2⟩
 ·exact ⟨false, ⟨(fun e => by cases e), fun e => absurd (congrArg List.length e) h⟩, Ev.neg (by omega) (Ev.now _)⟩
/-- What the search for a list tells. -/
def AtR (all : List (List Int)) (x : List Int) (i : Int) : Prop := (i = -1 ∧ x ∉ all) ∨ ∃ n : Nat, i = (n : Int) ∧ ∃ h : n < all.length, all[n] = x
theorem rdLL_at (xs : List (List Int)) (i : Nat) (h : i < xs.length) : rdLL xs (i : Int) = xs[i] := by
 unfold rdLL
 rw [Int.toNat_natCast, List.getD_eq_getElem?_getD, List.getElem?_eq_getElem h, Option.getD_some]
theorem at_both (all : List (List Int)) (x : List Int) (hl : all.length ≤ 100000000000) (hx : ∀ y ∈ all, y.length ≤ 1048576) (hxl : x.length ≤ 1048576) :
  ∃ i, AtR all x i ∧ Ev (fun k => spec_l13At.f k all x) i ∧ Ev (fun k => slices_IndexFunc_int_int.l0 (fun y => eqR.f k x y) k all 0) i := by
 have go : ∀ (d n : Nat), n + d = all.length → (∀ m (h : m < all.length), m < n → all[m] ≠ x) →
   ∃ i, AtR all x i ∧ Ev (fun k => spec_l13At.l0 k all x (n : Int)) i ∧ ∃ K, ∀ m, K ≤ m → ∀ k, K ≤ k → slices_IndexFunc_int_int.l0 (fun y => eqR.f m x y) k all (n : Int) = some i := by
  intro d
  induction d with
  | zero =>
   intro n hn hno
   refine ⟨-1, .inl ⟨rfl, fun hm => ?_⟩, Ev.one (fun k => by rw [spec_l13At.l0]) (Ev.neg (by omega) (Ev.now _)), 1, fun m hm k hk => ?_⟩
   ·obtain ⟨i, hi, he⟩ := List.getElem_of_mem hm
    exact hno i hi (by omega) he
   ·obtain ⟨k, rfl⟩ : ∃ q, k = q + 1 := ⟨k - 1, by omega⟩
    rw [slices_IndexFunc_int_int.l0, if_neg (by omega)]
  | succ d ih =>
   intro n hn hno
   have hnl : n < all.length := by omega
   obtain ⟨b1, c1, c2⟩ := spec_l2Same_ev all[n] x (hx _ (List.getElem_mem hnl))
   obtain ⟨b2, c3, K1, c4⟩ := eqR_ev x all[n] hxl
   by_cases e : all[n] = x
   ·have hb1 : b1 = true := c1.2 e
    have hb2 : b2 = true := c3.2 e.symm
    subst hb1 hb2
    refine ⟨(n : Int), .inr ⟨n, rfl, hnl, e⟩, Ev.one (fun k => by rw [spec_l13At.l0]) ?_, K1 + 1, fun m hm k hk => ?_⟩
    ·rw [rd_L2_at all n hnl]
     exact Ev.pos (by omega) (Ev.pos (by omega) (Ev.bnd c2 (Ev.pos rfl (Ev.now _))))
    ·obtain ⟨k, rfl⟩ : ∃ q, k = q + 1 := ⟨k - 1, by omega⟩
     rw [slices_IndexFunc_int_int.l0, if_pos (by omega), if_pos (by omega), rdLL_at all n hnl, show eqR.f m x all[n] = some true from c4 m (by omega)]
     rfl
   ·have hb1 : b1 = false := Bool.eq_false_iff.2 (fun q => e (c1.1 q))
    have hb2 : b2 = false := Bool.eq_false_iff.2 (fun q => e (c3.1 q).symm)
    subst hb1 hb2
    obtain ⟨i, i1, i2, K2, i3⟩ := ih (n + 1) (by omega) (fun m h hm => by
     by_cases q : m = n
     ·subst q; exact e
     ·exact hno m h (by omega))
    refine ⟨i, i1, Ev.one (fun k => by rw [spec_l13At.l0]) ?_, max K1 K2 + 1, fun m hm k hk => ?_⟩
    ·rw [rd_L2_at all n hnl, w64_succ n (by omega)]
     exact Ev.pos (by omega) (Ev.pos (by omega) (Ev.bnd c2 (Ev.neg (by decide) i2)))
    ·obtain ⟨k, rfl⟩ : ∃ q, k = q + 1 := ⟨k - 1, by omega⟩
     rw [slices_IndexFunc_int_int.l0, if_pos (by omega), if_pos (by omega), rdLL_at all n hnl, show eqR.f m x all[n] = some false from c4 m (by omega), w64_succ n (by omega)]
     exact i3 m (by omega) k (by omega)
 obtain ⟨i, i1, i2, K, i3⟩ := go all.length 0 (by omega) (fun m _ hm => absurd hm (by omega))
 exact ⟨i, i1, i2, K, fun k hk => i3 k hk k hk⟩
/-! rellist: sz, to, eq, mark of lists of relations -/
theorem rd_T32_at (xs : List S32) (i : Nat) (h : i < xs.length) : rd_T32 xs (i : Int) = xs[i] := by
 unfold rd_T32
 rw [Int.toNat_natCast, List.getD_eq_getElem?_getD, List.getElem?_eq_getElem h, Option.getD_some]
theorem rd_T36_at (xs : List S36) (i : Nat) (h : i < xs.length) : rd_T36 xs (i : Int) = xs[i] := by
 unfold rd_T36
 rw [Int.toNat_natCast, List.getD_eq_getElem?_getD, List.getElem?_eq_getElem h, Option.getD_some]
def tot2 : List S32 → Int
 | [] => 0
 | x :: r => (x.f0.length : Int) + (x.f1.length : Int) + tot2 r
theorem tot2_nn : ∀ l : List S32, 0 ≤ tot2 l := by
 intro l
 induction l with
 | nil => simp [tot2]
 | cons x r ih => rw [tot2]; omega
theorem tot2_mem : ∀ (l : List S32), ∀ x ∈ l, (x.f0.length : Int) + (x.f1.length : Int) ≤ tot2 l := by
 intro l
 induction l with
 | nil => intro x hx; cases hx
 | cons y r ih =>
  intro x hx
  have := tot2_nn r
  rw [tot2]
  rcases List.mem_cons.1 hx with rfl | hx
  ·omega
  ·have := ih x hx
   omega
theorem szRelation_le (a b : List Int) (z : Int) (ha : a.length ≤ maxLen) (hb : b.length ≤ maxLen) (h0 : 0 ≤ z) (h1 : z ≤ 1048576) :
  Ev (fun _ => laws_szRelation.f a b z) (if (a.length : Int) + (b.length : Int) ≤ z then z - (a.length : Int) - (b.length : Int) else -1) := by
 unfold laws_szRelation.f
 by_cases h : (a.length : Int) + (b.length : Int) ≤ z
 ·rw [if_pos h]
  exact Ev.bnd (szIntS_in a _ (by omega) (by omega) ha (by omega)) (Ev.neg (by omega) (Ev.bnd (szIntS_in b _ (by omega) (by omega) hb (by omega)) (Ev.neg (by omega) (Ev.now _))))
 ·rw [if_neg h]
  by_cases h2 : (a.length : Int) ≤ z
  ·exact Ev.bnd (szIntS_in a _ (by omega) (by omega) ha (by omega)) (Ev.neg (by omega) (Ev.bnd (szIntS_out b _ (by omega) (by omega) hb (by omega)) (Ev.pos (by omega) (Ev.now _))))
  ·exact Ev.bnd (szIntS_out a _ (by omega) (by omega) ha (by omega)) (Ev.pos (by omega) (Ev.now _))
theorem szRelationS_l0 (l : List S32) (hl : l.length ≤ 1048576) (hx : ∀ x ∈ l, x.f0.length ≤ maxLen ∧ x.f1.length ≤ maxLen) : ∀ (d i : Nat) (z : Int), i + d = l.length → 0 ≤ z → z ≤ 1048576 →
  Ev (fun k => laws_szRelationS.l0 k l z (i : Int)) (if tot2 (l.drop i) ≤ z then z - tot2 (l.drop i) else -1) := by
 intro d
 induction d with
 | zero =>
  intro i z hi h0 h1
  rw [List.drop_eq_nil_of_le (by omega), tot2, if_pos h0, Int.sub_zero]
  exact Ev.one (fun k => by rw [laws_szRelationS.l0]) (Ev.neg (by omega) (Ev.now _))
 | succ d ih =>
  intro i z hi h0 h1
  have hil : i < l.length := by omega
  have hm := hx _ (List.getElem_mem hil)
  have hs := szRelation_le l[i].f0 l[i].f1 z hm.1 hm.2 h0 h1
  have hn := tot2_nn (l.drop (i + 1))
  rw [List.drop_eq_getElem_cons hil, tot2]
  by_cases h : (l[i].f0.length : Int) + (l[i].f1.length : Int) ≤ z
  ·rw [if_pos h] at hs
   have e := ih (i + 1) (z - (l[i].f0.length : Int) - (l[i].f1.length : Int)) (by omega) (by omega) (by omega)
   refine Ev.one (fun k => by rw [laws_szRelationS.l0]) ?_
   rw [rd_T32_at l i hil, w64_succ i (by omega)]
   refine Ev.pos (by omega) (Ev.pos (by omega) (Ev.bnd hs (Ev.neg (by omega) ?_)))
   have e2 : (if (l[i].f0.length : Int) + (l[i].f1.length : Int) + tot2 (l.drop (i + 1)) ≤ z then z - ((l[i].f0.length : Int) + (l[i].f1.length : Int) + tot2 (l.drop (i + 1))) else -1) = (if tot2 (l.drop (i + 1)) ≤ z - (l[i].f0.length : Int) - (l[i].f1.length : Int) then z - (l[i].f0.length : Int) - (l[i].f1.length : Int) - tot2 (l.drop (i + 1)) else -1) := by
    by_cases q : (l[i].f0.length : Int) + (l[i].f1.length : Int) + tot2 (l.drop (i + 1)) ≤ z
    ·rw [if_pos q, if_pos (by omega)]
     omega
    ·rw [if_neg q, if_neg (by omega)]
   rw [e2]
   exact e
  ·rw [if_neg h] at hs
   rw [if_neg (by omega)]
   refine Ev.one (fun k => by rw [laws_szRelationS.l0]) ?_
   rw [rd_T32_at l i hil]
   exact Ev.pos (by omega) (Ev.pos (by omega) (Ev.bnd hs (Ev.pos (by omega) (Ev.now _))))
theorem szRelationS_ev (l : List S32) (hl : l.length ≤ maxLen) (hx : ∀ x ∈ l, x.f0.length ≤ maxLen ∧ x.f1.length ≤ maxLen) :
  Ev (fun k => laws_szRelationS.f k l 1048576) (if (l.length : Int) + tot2 l ≤ 1048576 then 1048576 - (l.length : Int) - tot2 l else -1) := by
 unfold laws_szRelationS.f
 have hn := tot2_nn l
 have hml : maxLen ≤ 9223372036854775807 := by decide
 rw [w64_of (by omega) (by omega)]
 by_cases h : (l.length : Int) ≤ 1048576
 ·have e := szRelationS_l0 l (by omega) hx l.length 0 (1048576 - (l.length : Int)) (by omega) (by omega) (by omega)
  refine Ev.neg (by omega) ?_
  have e2 : (if (l.length : Int) + tot2 l ≤ 1048576 then 1048576 - (l.length : Int) - tot2 l else -1) = (if tot2 (l.drop 0) ≤ 1048576 - (l.length : Int) then 1048576 - (l.length : Int) - tot2 (l.drop 0) else -1) := by
   rw [List.drop_zero]
   by_cases q : (l.length : Int) + tot2 l ≤ 1048576
   ·rw [if_pos q, if_pos (by omega)]
   ·rw [if_neg q, if_neg (by omega)]
  rw [e2]
  exact e
 ·rw [if_neg (by omega)]
  exact Ev.pos (by omega) (Ev.now _)
def cvR (l : List S32) : List S36 := l.map fun x => ⟨x.f0, x.f1⟩
theorem cvR_len (l : List S32) : (cvR l).length = l.length := by unfold cvR; rw [List.length_map]
theorem toRelationS_l0 (l : List S32) (hl : l.length ≤ 1048576) (hx : ∀ x ∈ l, x.f0.length ≤ 1048576 ∧ x.f1.length ≤ 1048576) : ∀ (d i : Nat) (xs : List S36), i + d = l.length → xs.length = l.length → (∀ j, j < i → xs[j]? = (cvR l)[j]?) →
  Ev (fun k => laws_toRelationS.l0 k l xs (i : Int)) (cvR l) := by
 intro d
 induction d with
 | zero =>
  intro i xs hi hx' hj
  have e : xs = cvR l := List.ext_getElem? (fun j => by
   by_cases q : j < i
   ·exact hj j q
   ·rw [List.getElem?_eq_none (by omega), List.getElem?_eq_none (by rw [cvR_len]; omega)])
  rw [e]
  exact Ev.one (fun k => by rw [laws_toRelationS.l0]) (Ev.neg (by omega) (Ev.now _))
 | succ d ih =>
  intro i xs hi hx' hj
  have hil : i < l.length := by omega
  have hm := hx _ (List.getElem_mem hil)
  refine Ev.one (fun k => by rw [laws_toRelationS.l0]) ?_
  rw [rd_T32_at l i hil, w64_succ i (by omega)]
  refine Ev.pos (by omega) (Ev.pos (by omega) (Ev.bnd (toRelation_ev l[i].f0 l[i].f1 (by omega) (by omega)) (Ev.pos (by omega) ?_)))
  rw [Int.toNat_natCast]
  refine ih (i + 1) _ (by omega) (by rw [List.length_set]; exact hx') (fun j hji => ?_)
  by_cases q : j = i
  ·subst q
   rw [List.getElem?_set_self (by omega)]
   unfold cvR
   rw [List.getElem?_map, List.getElem?_eq_getElem hil]
   rfl
  ·rw [List.getElem?_set_ne (by omega)]
   exact hj j (by omega)
theorem toRelationS_ev (l : List S32) (hl : l.length ≤ 1048576) (hx : ∀ x ∈ l, x.f0.length ≤ 1048576 ∧ x.f1.length ≤ 1048576) : Ev (fun k => laws_toRelationS.f k l) (cvR l) := by
 unfold laws_toRelationS.f
 exact Ev.pos (by omega) (Ev.pos (by omega) (toRelationS_l0 l hl hx l.length 0 _ (by omega) (by rw [List.length_replicate]; omega) (fun j hj => absurd hj (by omega))))
theorem eqRelationS_l0 (l : List S36) (hl : l.length ≤ 1048576) (hx : ∀ x ∈ l, x.f0.length ≤ 1048576 ∧ x.f1.length ≤ 1048576) : ∀ (d i : Nat), i + d = l.length → Ev (fun k => laws_eqRelationS.l0 k l l (i : Int)) true := by
 intro d
 induction d with
 | zero =>
  intro i hi
  exact Ev.one (fun k => by rw [laws_eqRelationS.l0]) (Ev.neg (by omega) (Ev.now _))
 | succ d ih =>
  intro i hi
  have hil : i < l.length := by omega
  have hm := hx _ (List.getElem_mem hil)
  refine Ev.one (fun k => by rw [laws_eqRelationS.l0]) ?_
  rw [rd_T36_at l i hil, w64_succ i (by omega)]
  exact Ev.pos (by omega) (Ev.pos (by omega) (Ev.pos (by omega) (Ev.bnd (eqRelation_ev l[i].f0 l[i].f1 (by omega) (by omega)) (Ev.pos rfl (ih (i + 1) (by omega))))))
theorem eqRelationS_ev (l : List S36) (hl : l.length ≤ 1048576) (hx : ∀ x ∈ l, x.f0.length ≤ 1048576 ∧ x.f1.length ≤ 1048576) : Ev (fun k => laws_eqRelationS.f k l l) true := by
 unfold laws_eqRelationS.f
 exact Ev.pos rfl (eqRelationS_l0 l hl hx l.length 0 (by omega))
def tot2o : List S36 → Int
 | [] => 0
 | x :: r => (x.f0.length : Int) + (x.f1.length : Int) + tot2o r
theorem tot2o_cv : ∀ l : List S32, tot2o (cvR l) = tot2 l := by
 intro l
 induction l with
 | nil => rfl
 | cons x r ih => show _ + _ + tot2o (cvR r) = _; rw [ih, tot2]
theorem tot2o_nn : ∀ l : List S36, 0 ≤ tot2o l := by
 intro l
 induction l with
 | nil => simp [tot2o]
 | cons x r ih => rw [tot2o]; omega
theorem set_atR {α : Type} (a b : List α) (x v : α) : (a ++ x :: b).set a.length v = (a ++ [v]) ++ b := by simp
theorem markRelationS_l0 : ∀ (r done : List S36) (a : Int), (∀ x ∈ r, x.f0.length ≤ 1048576 ∧ x.f1.length ≤ 1048576) → done.length + r.length ≤ 1048576 → 0 ≤ a → a + tot2o r ≤ 4611686018427387904 →
  ∃ q, Ev (fun k => laws_markRelationS.l0 k (done ++ r) a (done.length : Int)) (a + tot2o r, q) := by
 intro r
 induction r with
 | nil =>
  intro done a _ hl h0 h1
  refine ⟨done, Ev.one (fun k => by rw [laws_markRelationS.l0]) ?_⟩
  rw [tot2o, Int.add_zero, List.append_nil]
  exact Ev.neg (by omega) (Ev.now _)
 | cons x r ih =>
  intro done a hx hl h0 h1
  rw [List.length_cons] at hl
  rw [tot2o] at h1
  have hn := tot2o_nn r
  have hx1 := hx x List.mem_cons_self
  obtain ⟨q, e1⟩ := ih (done ++ [⟨marks x.f0 a, marks x.f1 (a + (x.f0.length : Int))⟩]) (a + (x.f0.length : Int) + (x.f1.length : Int)) (fun y hy => hx y (List.mem_cons_of_mem _ hy)) (by rw [List.length_append, List.length_singleton]; omega) (by omega) (by omega)
  have e : rd_T36 (done ++ x :: r) (done.length : Int) = x := by
   rw [rd_T36_at _ done.length (by rw [List.length_append, List.length_cons]; omega)]
   simp
  refine ⟨q, Ev.one (fun k => by rw [laws_markRelationS.l0]) ?_⟩
  rw [e]
  refine Ev.pos (by rw [List.length_append, List.length_cons]; omega) (Ev.pos (by omega) (Ev.bnd (markIntS_ev x.f0 a (by omega) (by omega) (by omega)) ?_))
  dsimp only
  refine Ev.bnd (markIntS_ev x.f1 (a + (x.f0.length : Int)) (by omega) (by omega) (by omega)) ?_
  dsimp only
  rw [Int.toNat_natCast, set_atR, w64_succ done.length (by omega), tot2o, show a + ((x.f0.length : Int) + (x.f1.length : Int) + tot2o r) = a + (x.f0.length : Int) + (x.f1.length : Int) + tot2o r from by omega]
  rw [List.length_append, List.length_singleton] at e1
  exact e1
theorem markRelationS_ev (l : List S36) (hl : l.length ≤ 1048576) (hx : ∀ x ∈ l, x.f0.length ≤ 1048576 ∧ x.f1.length ≤ 1048576) (ht : tot2o l ≤ 1048576) : ∃ q, Ev (fun k => laws_markRelationS.f k l 1) (1 + tot2o l, q) := by
 obtain ⟨q, h⟩ := markRelationS_l0 l [] 1 hx (by simpa using hl) (by omega) (by omega)
 exact ⟨q, h⟩
/-! reached: what relations reach, on both sides -/
theorem contains_both (all : List (List Int)) (x : List Int) (hl : all.length ≤ 100000000000) (hx : ∀ y ∈ all, y.length ≤ 1048576) (hxl : x.length ≤ 1048576) :
  ∃ i : Int, Ev (fun k => spec_l13At.f k all x) i ∧ Ev (fun k => slices_ContainsFunc_int_int.f k all x) (decide (i ≥ 0)) := by
 obtain ⟨i, _, h1, h2⟩ := at_both all x hl hx hxl
 refine ⟨i, h1, ?_⟩
 unfold slices_ContainsFunc_int_int.f
 exact Ev.bnd h2 (Ev.now _)
theorem rb_step (x0 : List S36) (most : Int) (out : List (List Int)) (i : Nat) (hi : i < out.length) (hm : (out.length : Int) ≤ most) (hmm : most ≤ 1000) (hrow : ∀ y ∈ out, y.length ≤ 1048576) (a b : List Int) :
  ∃ out' : List (List Int), out.length ≤ out'.length ∧ (out'.length : Int) ≤ most ∧ (∀ y ∈ out', y.length ≤ 1048576) ∧ (¬ (out.length : Int) < most → out' = out) ∧
   (∀ (j : Int) (r : List (List Int)), (out.length : Int) < most → Ev (fun k => spec_ReachedBy.l1 k x0 most out' (i : Int) (wrap64 (j + 1))) r → Ev (fun k => spec_ReachedBy.j3 k x0 most out (i : Int) j a b) r) ∧
   (∀ (m c : Int) (y : List S36) (r : List (List Int)), 0 ≤ c → c < 2 → (rd_T36 y c).f0 = a → (rd_T36 y c).f1 = b → Ev (fun k => impl_ReachedBy.l2 k x0 most out' (i : Int) m y (wrap64 (c + 1))) r → Ev (fun k => impl_ReachedBy.l2 k x0 most out (i : Int) m y c) r) := by
 have hil := hrow _ (List.getElem_mem hi)
 obtain ⟨⟨t, ok⟩, ht, a1, a2⟩ := apply_f a b out[i] hil
 dsimp only at ht
 obtain ⟨q, c1, c2⟩ := contains_both out t (by omega) hrow (by omega)
 have hap : ∀ y ∈ out ++ [t], y.length ≤ 1048576 := fun y hy => by
  rcases List.mem_append.1 hy with h | h
  ·exact hrow y h
  ·obtain rfl := List.mem_singleton.1 h
   omega
 by_cases hok : ok = true
 ·subst hok
  by_cases hq : q < 0
  ·by_cases hlt : (out.length : Int) < most
   ·refine ⟨out ++ [t], by rw [List.length_append]; omega, by rw [List.length_append, List.length_singleton]; omega, hap, fun h => absurd hlt h, fun j r _ h => ?_, fun m c y r hc0 hc2 e0 e1 h => ?_⟩
    ·refine Ev.one (fun k => by rw [spec_ReachedBy.j3]) ?_
     rw [rd_L2_at out i hi]
     refine Ev.pos (by omega) (Ev.pos (by omega) (Ev.bnd a1 ?_))
     dsimp only
     exact Ev.pos rfl (Ev.bnd c1 (Ev.pos hq (Ev.pos (by omega) h)))
    ·refine Ev.one (fun k => by rw [impl_ReachedBy.l2]) ?_
     rw [rd_L2_at out i hi, e0, e1]
     refine Ev.pos hc2 (Ev.pos hc0 (Ev.pos (by omega) (Ev.pos (by omega) (Ev.bnd a2 ?_))))
     dsimp only
     refine Ev.bnd c2 ?_
     exact Ev.pos rfl (Ev.neg (by rw [decide_eq_true_eq]; omega) (Ev.pos hlt (Ev.pos (by omega) h)))
   ·refine ⟨out, Nat.le_refl _, hm, hrow, fun _ => rfl, fun j r h1 _ => absurd h1 hlt, fun m c y r hc0 hc2 e0 e1 h => ?_⟩
    refine Ev.one (fun k => by rw [impl_ReachedBy.l2]) ?_
    rw [rd_L2_at out i hi, e0, e1]
    refine Ev.pos hc2 (Ev.pos hc0 (Ev.pos (by omega) (Ev.pos (by omega) (Ev.bnd a2 ?_))))
    dsimp only
    refine Ev.bnd c2 ?_
    exact Ev.pos rfl (Ev.neg (by rw [decide_eq_true_eq]; omega) (Ev.neg hlt h))
  ·refine ⟨out, Nat.le_refl _, hm, hrow, fun _ => rfl, fun j r _ h => ?_, fun m c y r hc0 hc2 e0 e1 h => ?_⟩
   ·refine Ev.one (fun k => by rw [spec_ReachedBy.j3]) ?_
    rw [rd_L2_at out i hi]
    refine Ev.pos (by omega) (Ev.pos (by omega) (Ev.bnd a1 ?_))
    dsimp only
    exact Ev.pos rfl (Ev.bnd c1 (Ev.neg hq h))
   ·refine Ev.one (fun k => by rw [impl_ReachedBy.l2]) ?_
    rw [rd_L2_at out i hi, e0, e1]
    refine Ev.pos hc2 (Ev.pos hc0 (Ev.pos (by omega) (Ev.pos (by omega) (Ev.bnd a2 ?_))))
    dsimp only
    refine Ev.bnd c2 ?_
    exact Ev.pos rfl (Ev.pos (by rw [decide_eq_true_eq]; omega) h)
 ·refine ⟨out, Nat.le_refl _, hm, hrow, fun _ => rfl, fun j r _ h => ?_, fun m c y r hc0 hc2 e0 e1 h => ?_⟩
  ·refine Ev.one (fun k => by rw [spec_ReachedBy.j3]) ?_
   rw [rd_L2_at out i hi]
   refine Ev.pos (by omega) (Ev.pos (by omega) (Ev.bnd a1 ?_))
   dsimp only
   exact Ev.neg hok h
  ·refine Ev.one (fun k => by rw [impl_ReachedBy.l2]) ?_
   rw [rd_L2_at out i hi, e0, e1]
   refine Ev.pos hc2 (Ev.pos hc0 (Ev.pos (by omega) (Ev.pos (by omega) (Ev.bnd a2 ?_))))
   dsimp only
   refine Ev.bnd c2 ?_
   exact Ev.neg hok h
theorem rb_full (x0 : List S36) (hn : x0.length ≤ 1048576) (most : Int) (out : List (List Int)) (i : Nat) (h1 : i < 4611686018427387904) (h : ¬ (out.length : Int) < most) (j : Int) (r : List (List Int)) (e : Ev (fun k => spec_ReachedBy.l0 k x0 most out ((i + 1 : Nat) : Int)) r) : Ev (fun k => spec_ReachedBy.l1 k x0 most out (i : Int) j) r := by
 have g : Ev (fun k => spec_ReachedBy.j2 k x0 most out (i : Int) j false) r := by
  refine Ev.one (fun k => by rw [spec_ReachedBy.j2]) ?_
  rw [w64_succ i h1]
  exact Ev.neg (by simp) e
 refine Ev.one (fun k => by rw [spec_ReachedBy.l1]) ?_
 rw [decide_eq_false h]
 by_cases q : j < wrap64 (2 * (x0.length : Int))
 ·exact Ev.pos q g
 ·exact Ev.neg q g
theorem rb_go (x0 : List S36) (hn : x0.length ≤ 1048576) (most : Int) (out : List (List Int)) (i : Nat) (m : Nat) (hm : m < x0.length) (h : (out.length : Int) < most) (r : List (List Int)) :
  (Ev (fun k => spec_ReachedBy.j3 k x0 most out (i : Int) ((2 * m : Nat) : Int) x0[m].f0 x0[m].f1) r → Ev (fun k => spec_ReachedBy.l1 k x0 most out (i : Int) ((2 * m : Nat) : Int)) r) ∧
  (Ev (fun k => spec_ReachedBy.j3 k x0 most out (i : Int) ((2 * m + 1 : Nat) : Int) x0[m].f1 x0[m].f0) r → Ev (fun k => spec_ReachedBy.l1 k x0 most out (i : Int) ((2 * m + 1 : Nat) : Int)) r) := by
 have t0 : wrap64 (Int.tdiv ((2 * m : Nat) : Int) 2) = (m : Int) := by rw [Int.tdiv_eq_ediv_of_nonneg (by omega), w64_of (by omega) (by omega)]; omega
 have t1 : wrap64 (Int.tdiv ((2 * m + 1 : Nat) : Int) 2) = (m : Int) := by rw [Int.tdiv_eq_ediv_of_nonneg (by omega), w64_of (by omega) (by omega)]; omega
 have u0 : Int.tmod ((2 * m : Nat) : Int) 2 = 0 := by rw [Int.tmod_eq_emod_of_nonneg (by omega)]; omega
 have u1 : Int.tmod ((2 * m + 1 : Nat) : Int) 2 = 1 := by rw [Int.tmod_eq_emod_of_nonneg (by omega)]; omega
 have w2 : wrap64 (2 * (x0.length : Int)) = 2 * (x0.length : Int) := w64_of (by omega) (by omega)
 constructor
 ·intro e
  refine Ev.one (fun k => by rw [spec_ReachedBy.l1]) ?_
  rw [w2, decide_eq_true h]
  refine Ev.pos (by omega) (Ev.one (fun k => by rw [spec_ReachedBy.j2]) ?_)
  rw [t0, u0, rd_T36_at x0 m hm]
  exact Ev.pos rfl (Ev.pos (by omega) (Ev.pos (by omega) (Ev.neg (by omega) e)))
 ·intro e
  refine Ev.one (fun k => by rw [spec_ReachedBy.l1]) ?_
  rw [w2, decide_eq_true h]
  refine Ev.pos (by omega) (Ev.one (fun k => by rw [spec_ReachedBy.j2]) ?_)
  rw [t1, u1, rd_T36_at x0 m hm]
  exact Ev.pos rfl (Ev.pos (by omega) (Ev.pos (by omega) (Ev.pos rfl e)))
theorem rb_inner (x0 : List S36) (hn : x0.length ≤ 1048576) (most : Int) (hmm : most ≤ 1000) (i : Nat) : ∀ (e m : Nat) (out : List (List Int)), m + e = x0.length → i < out.length → (out.length : Int) ≤ most → (∀ y ∈ out, y.length ≤ 1048576) →
  ∃ out' : List (List Int), out.length ≤ out'.length ∧ (out'.length : Int) ≤ most ∧ (∀ y ∈ out', y.length ≤ 1048576) ∧ (¬ (out.length : Int) < most → out' = out) ∧
   (∀ r, Ev (fun k => spec_ReachedBy.l0 k x0 most out' ((i + 1 : Nat) : Int)) r → Ev (fun k => spec_ReachedBy.l1 k x0 most out (i : Int) ((2 * m : Nat) : Int)) r) ∧
   (∀ r, Ev (fun k => impl_ReachedBy.l0 k x0 most out' ((i + 1 : Nat) : Int)) r → Ev (fun k => impl_ReachedBy.l1 k x0 most out (i : Int) (m : Int)) r) := by
 intro e
 induction e with
 | zero =>
  intro m out he hi hm hrow
  refine ⟨out, Nat.le_refl _, hm, hrow, fun _ => rfl, fun r h => ?_, fun r h => ?_⟩
  ·have w2 : wrap64 (2 * (x0.length : Int)) = 2 * (x0.length : Int) := w64_of (by omega) (by omega)
   refine Ev.one (fun k => by rw [spec_ReachedBy.l1]) ?_
   rw [w2]
   refine Ev.neg (by omega) (Ev.one (fun k => by rw [spec_ReachedBy.j2]) ?_)
   rw [w64_succ i (by omega)]
   exact Ev.neg (by simp) h
  ·refine Ev.one (fun k => by rw [impl_ReachedBy.l1]) ?_
   rw [w64_succ i (by omega)]
   exact Ev.neg (by omega) h
 | succ e ih =>
  intro m out he hi hm hrow
  have hml : m < x0.length := by omega
  obtain ⟨o1, l1, m1, r1, f1, s1, p1⟩ := rb_step x0 most out i hi hm hmm hrow x0[m].f0 x0[m].f1
  obtain ⟨o2, l2, m2, r2, f2, s2, p2⟩ := rb_step x0 most o1 i (by omega) m1 hmm r1 x0[m].f1 x0[m].f0
  obtain ⟨o3, l3, m3, r3, f3, s3, p3⟩ := ih (m + 1) o2 (by omega) (by omega) m2 r2
  have W : ∀ j : Nat, j < 4611686018427387904 → wrap64 ((j : Int) + 1) = ((j + 1 : Nat) : Int) := fun j hj => w64_succ j hj
  have pi : ∀ r, Ev (fun k => impl_ReachedBy.l0 k x0 most o3 ((i + 1 : Nat) : Int)) r → Ev (fun k => impl_ReachedBy.l1 k x0 most out (i : Int) (m : Int)) r := fun r h => by
   have h1 := p3 r h
   have h2 : Ev (fun k => impl_ReachedBy.l2 k x0 most o2 (i : Int) (m : Int) [(⟨x0[m].f0, x0[m].f1⟩ : S36), (⟨x0[m].f1, x0[m].f0⟩ : S36)] 2) r := by
    refine Ev.one (fun k => by rw [impl_ReachedBy.l2]) ?_
    rw [W m (by omega)]
    exact Ev.neg (by omega) h1
   have h3 := p2 (m : Int) 1 [(⟨x0[m].f0, x0[m].f1⟩ : S36), (⟨x0[m].f1, x0[m].f0⟩ : S36)] r (by omega) (by omega) rfl rfl (by rw [show wrap64 (1 + 1) = 2 from w64_of (by omega) (by omega)]; exact h2)
   have h4 := p1 (m : Int) 0 [(⟨x0[m].f0, x0[m].f1⟩ : S36), (⟨x0[m].f1, x0[m].f0⟩ : S36)] r (by omega) (by omega) rfl rfl (by rw [show wrap64 (0 + 1) = 1 from w64_of (by omega) (by omega)]; exact h3)
   refine Ev.one (fun k => by rw [impl_ReachedBy.l1]) ?_
   rw [rd_T36_at x0 m hml]
   exact Ev.pos (by omega) (Ev.pos (by omega) h4)
  by_cases hf : (out.length : Int) < most
  ·by_cases hf1 : (o1.length : Int) < most
   ·refine ⟨o3, by omega, m3, r3, fun h => absurd hf h, fun r h => ?_, pi⟩
    have h1 := s3 r h
    have h2 := (rb_go x0 hn most o1 i m hml hf1 r).2 (s2 _ r hf1 (by rw [W _ (by omega)]; exact h1))
    exact (rb_go x0 hn most out i m hml hf r).1 (s1 _ r hf (by rw [W _ (by omega)]; exact h2))
   ·have e2 := f2 hf1
    subst e2
    have e3 := f3 hf1
    subst e3
    refine ⟨o3, by omega, m3, r3, fun h => absurd hf h, fun r h => ?_, pi⟩
    have h2 := rb_full x0 hn most o3 i (by omega) hf1 ((2 * m + 1 : Nat) : Int) r h
    exact (rb_go x0 hn most out i m hml hf r).1 (s1 _ r hf (by rw [W _ (by omega)]; exact h2))
  ·have e1 := f1 hf
   subst e1
   have e2 := f2 hf
   subst e2
   have e3 := f3 hf
   subst e3
   exact ⟨o3, Nat.le_refl _, hm, hrow, fun _ => rfl, fun r h => rb_full x0 hn most o3 i (by omega) hf _ r h, pi⟩
theorem rb_outer (x0 : List S36) (hn : x0.length ≤ 1048576) (most : Int) (hmm : most ≤ 1000) : ∀ (d i : Nat) (out : List (List Int)), i + d = 1000 → (out.length : Int) ≤ most → (∀ y ∈ out, y.length ≤ 1048576) →
  ∃ r : List (List Int), r.length ≤ 1000 ∧ (∀ y ∈ r, y.length ≤ 1048576) ∧ Ev (fun k => spec_ReachedBy.l0 k x0 most out (i : Int)) r ∧ Ev (fun k => impl_ReachedBy.l0 k x0 most out (i : Int)) r := by
 intro d
 induction d with
 | zero =>
  intro i out hd hm hrow
  exact ⟨out, by omega, hrow, Ev.one (fun k => by rw [spec_ReachedBy.l0]) (Ev.neg (by omega) (Ev.now _)), Ev.one (fun k => by rw [impl_ReachedBy.l0]) (Ev.neg (by omega) (Ev.now _))⟩
 | succ d ih =>
  intro i out hd hm hrow
  by_cases hi : i < out.length
  ·obtain ⟨o, l, m, rw_, _, s, p⟩ := rb_inner x0 hn most hmm i x0.length 0 out (by omega) hi hm hrow
   obtain ⟨r, h0, h1, h2, h3⟩ := ih (i + 1) o (by omega) m rw_
   refine ⟨r, h0, h1, Ev.one (fun k => by rw [spec_ReachedBy.l0]) ?_, Ev.one (fun k => by rw [impl_ReachedBy.l0]) ?_⟩
   ·exact Ev.pos (by omega) (s r h2)
   ·exact Ev.pos (by omega) (p r h3)
  ·exact ⟨out, by omega, hrow, Ev.one (fun k => by rw [spec_ReachedBy.l0]) (Ev.neg (by omega) (Ev.now _)), Ev.one (fun k => by rw [impl_ReachedBy.l0]) (Ev.neg (by omega) (Ev.now _))⟩
theorem reached_both (x0 : List S36) (hn : x0.length ≤ 1048576) (l : List Int) (hl : l.length ≤ 1048576) (most : Int) :
  ∃ r : List (List Int), r.length ≤ 1000 ∧ (∀ y ∈ r, y.length ≤ 1048576) ∧ Ev (fun k => spec_ReachedBy.f k x0 l most) r ∧ Ev (fun k => impl_ReachedBy.f k x0 l most) r := by
 by_cases hm : 1 ≤ most ∧ most ≤ 1000
 ·obtain ⟨r, h0, h1, h2, h3⟩ := rb_outer x0 hn most hm.2 1000 0 [l] (by omega) (by simpa using hm.1) (fun y hy => by obtain rfl := List.mem_singleton.1 hy; exact hl)
  refine ⟨r, h0, h1, ?_, ?_⟩
  ·unfold spec_ReachedBy.f
   refine Ev.some (Ev.bnd (spec_l1In_ev most 1 1000) (Ev.pos (decide_eq_true hm) (Ev.some (Ev.pos ?_ (Ev.pos ?_ h2)))))
   ·show ([] : List Int).length + l.length < 17592186044416
    simp only [List.length_nil]
    omega
   ·show ([] : List (List Int)).length < 5864062014805
    simp
  ·unfold impl_ReachedBy.f slices_Clone_int_int.f
   refine Ev.bnd (impl_within_ev most 1 1000) (Ev.pos (decide_eq_true hm) ?_)
   rw [if_pos (show l.length < 17592186044416 by omega)]
   exact Ev.some h3
 ·refine ⟨[], by simp, (fun y hy => by cases hy), ?_, ?_⟩
  ·unfold spec_ReachedBy.f
   exact Ev.some (Ev.bnd (spec_l1In_ev most 1 1000) (Ev.neg (by rw [decide_eq_true_eq]; exact hm) (Ev.now _)))
  ·unfold impl_ReachedBy.f
   exact Ev.bnd (impl_within_ev most 1 1000) (Ev.neg (by rw [decide_eq_true_eq]; exact hm) (Ev.now _))
/-! nested: eqIntSS, markIntSS, heldIntSS -/
def marksSS : List (List Int) → Int → List (List Int)
 | [], _ => []
 | x :: r, a => marks x a :: marksSS r (a + (x.length : Int))
def totSS : List (List Int) → Int
 | [] => 0
 | x :: r => (x.length : Int) + totSS r
theorem totSS_rng (c : Nat) : ∀ l : List (List Int), (∀ x ∈ l, x.length ≤ c) → 0 ≤ totSS l ∧ totSS l ≤ (c : Int) * (l.length : Int) := by
 intro l
 induction l with
 | nil => intro _; simp [totSS]
 | cons x r ih =>
  intro h
  have h1 := h x List.mem_cons_self
  have := ih (fun y hy => h y (List.mem_cons_of_mem _ hy))
  rw [totSS, List.length_cons, Int.natCast_add, Int.mul_add]
  omega
theorem eqIntSS_l0 (l : List (List Int)) (hl : l.length ≤ 1000000) (hx : ∀ x ∈ l, x.length ≤ 1048576) : ∀ (d i : Nat), i + d = l.length → Ev (fun k => laws_eqIntSS.l0 k l l (i : Int)) true := by
 intro d
 induction d with
 | zero =>
  intro i hi
  refine Ev.one (fun k => by rw [laws_eqIntSS.l0]) ?_
  exact Ev.neg (by omega) (Ev.now _)
 | succ d ih =>
  intro i hi
  have hil : i < l.length := by omega
  have h1 := hx _ (List.getElem_mem hil)
  refine Ev.one (fun k => by rw [laws_eqIntSS.l0]) ?_
  rw [rd_L2_at l i hil, w64_succ i (by omega)]
  exact Ev.pos (by omega) (Ev.pos (by omega) (Ev.pos (by omega) (Ev.bnd (eqIntS_ev l[i] (by omega)) (Ev.pos rfl (ih (i + 1) (by omega))))))
theorem eqIntSS_ev (l : List (List Int)) (hl : l.length ≤ 1000000) (hx : ∀ x ∈ l, x.length ≤ 1048576) : Ev (fun k => laws_eqIntSS.f k l l) true := by
 unfold laws_eqIntSS.f
 exact Ev.pos rfl (eqIntSS_l0 l hl hx l.length 0 (by omega))
theorem set_at {α : Type} (a b : List α) (x v : α) : (a ++ x :: b).set a.length v = (a ++ [v]) ++ b := by simp
theorem markIntSS_l0 : ∀ (r done : List (List Int)) (a : Int), (∀ x ∈ r, x.length ≤ 1048576) → done.length + r.length ≤ 1000000 → 0 ≤ a → a + 1048576 * (r.length : Int) ≤ 4611686018427387904 →
  Ev (fun k => laws_markIntSS.l0 k (done ++ r) a (done.length : Int)) (a + totSS r, done ++ marksSS r a) := by
 intro r
 induction r with
 | nil =>
  intro done a _ hl h0 h1
  refine Ev.one (fun k => by rw [laws_markIntSS.l0]) ?_
  rw [totSS, marksSS, Int.add_zero, List.append_nil]
  exact Ev.neg (by omega) (Ev.now _)
 | cons x r ih =>
  intro done a hx hl h0 h1
  rw [List.length_cons] at hl h1
  have hx1 := hx x List.mem_cons_self
  have ih := ih (done ++ [marks x a]) (a + (x.length : Int)) (fun y hy => hx y (List.mem_cons_of_mem _ hy)) (by rw [List.length_append, List.length_singleton]; omega) (by omega) (by omega)
  have e : laws_markIntSS.rd (done ++ x :: r) (done.length : Int) = x := by
   unfold laws_markIntSS.rd
   rw [Int.toNat_natCast, List.getD_eq_getElem?_getD, List.getElem?_append_right (Nat.le_refl _), Nat.sub_self]
   rfl
  refine Ev.one (fun k => by rw [laws_markIntSS.l0]) ?_
  rw [e]
  refine Ev.pos (by rw [List.length_append, List.length_cons]; omega) (Ev.pos (by omega) (Ev.bnd (markIntS_ev x a (by omega) (by omega) (by omega)) ?_))
  rw [Int.toNat_natCast, set_at, w64_succ done.length (by omega), totSS, marksSS, show a + ((x.length : Int) + totSS r) = a + (x.length : Int) + totSS r from by omega, show done ++ marks x a :: marksSS r (a + (x.length : Int)) = (done ++ [marks x a]) ++ marksSS r (a + (x.length : Int)) from by simp]
  rw [List.length_append, List.length_singleton] at ih
  exact ih
theorem markIntSS_ev (l : List (List Int)) (hl : l.length ≤ 1000000) (hx : ∀ x ∈ l, x.length ≤ 1048576) : Ev (fun k => laws_markIntSS.f k l 1) (1 + totSS l, marksSS l 1) := markIntSS_l0 l [] 1 hx (by simpa using hl) (by omega) (by omega)
theorem marksSS_len : ∀ (l : List (List Int)) (a : Int), (marksSS l a).length = l.length := by
 intro l
 induction l with
 | nil => intro a; rfl
 | cons x r ih => intro a; rw [marksSS, List.length_cons, ih, List.length_cons]
theorem heldIntSS_l0 : ∀ (r done : List (List Int)) (a : Int), (∀ x ∈ r, x.length ≤ 1048576) → done.length + r.length ≤ 1000000 → 0 ≤ a → a + 1048576 * (r.length : Int) ≤ 4611686018427387904 →
  Ev (fun k => laws_heldIntSS.l0 k (done ++ marksSS r a) a (done.length : Int)) (a + totSS r) := by
 intro r
 induction r with
 | nil =>
  intro done a _ hl h0 h1
  refine Ev.one (fun k => by rw [laws_heldIntSS.l0]) ?_
  rw [totSS, marksSS, Int.add_zero, List.append_nil]
  exact Ev.neg (by omega) (Ev.now _)
 | cons x r ih =>
  intro done a hx hl h0 h1
  rw [List.length_cons] at hl h1
  have hx1 := hx x List.mem_cons_self
  have ih := ih (done ++ [marks x a]) (a + (x.length : Int)) (fun y hy => hx y (List.mem_cons_of_mem _ hy)) (by rw [List.length_append, List.length_singleton]; omega) (by omega) (by omega)
  have hml := marksSS_len r (a + (x.length : Int))
  have e : rd_L2 (done ++ marks x a :: marksSS r (a + (x.length : Int))) (done.length : Int) = marks x a := by
   rw [rd_L2_at _ done.length (by rw [List.length_append, List.length_cons]; omega)]
   simp
  refine Ev.one (fun k => by rw [laws_heldIntSS.l0]) ?_
  rw [marksSS, e]
  refine Ev.pos (by rw [List.length_append, List.length_cons]; omega) (Ev.pos (by omega) (Ev.bnd (heldIntS_ev x a (by omega) (by omega) (by omega)) (Ev.neg (by omega) ?_)))
  rw [w64_succ done.length (by omega), totSS, show a + ((x.length : Int) + totSS r) = a + (x.length : Int) + totSS r from by omega, show done ++ marks x a :: marksSS r (a + (x.length : Int)) = (done ++ [marks x a]) ++ marksSS r (a + (x.length : Int)) from by simp]
  rw [List.length_append, List.length_singleton] at ih
  exact ih
theorem heldIntSS_ev (l : List (List Int)) (hl : l.length ≤ 1000000) (hx : ∀ x ∈ l, x.length ≤ 1048576) : Ev (fun k => laws_heldIntSS.f k (marksSS l 1) 1) (1 + totSS l) := heldIntSS_l0 l [] 1 hx (by simpa using hl) (by omega) (by omega)
end Go.Proofs.Ytfpjjjdiieplkaa.Pure
