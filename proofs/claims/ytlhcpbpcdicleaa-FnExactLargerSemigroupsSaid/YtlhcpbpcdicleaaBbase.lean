/- Plain lemmas (base, laws0, laws1, sz, within, allwithin, sums, table, gcd, asc, leasts, sortspec, minimal, issg, shell, leastle, spechas, semig, marksg, elems, gapl, gaps, specgaps, gapsboth, hasnum): no program, no memory. -/
import Derived.Test.YtlhcpbpcdicleaaC0
import Derived.Test.YtlhcpbpcdicleaaC1
import Derived.Test.YtlhcpbpcdicleaaC2
import Derived.Test.YtlhcpbpcdicleaaC3
import Derived.Test.YtlhcpbpcdicleaaC4
import Derived.Test.YtlhcpbpcdicleaaC5
namespace Go.Proofs.Ytlhcpbpcdicleaa.Pure
open Go.RowKit Go.Proofs.Ytlhcpbpcdicleaa.C Go.Proofs.YtlhcpbpcdicleaaW.PrintWords Go.Proofs.YtlhcpbpcdicleaaW.PrintLast Go.Proofs.YtlhcpbpcdicleaaW.PrintMore
set_option linter.unusedVariables false
set_option linter.unusedSimpArgs false
/-! base: words on rounds and on lists of numbers -/
theorem Ev.pos {α : Type} {c : Prop} [Decidable c] {a b : Nat → Option α} {r : α} (h : c) (e : Ev a r) : Ev (fun k => if c then a k else b k) r :=
 Ev.congr (fun _ => if_pos h) e
theorem Ev.neg {α : Type} {c : Prop} [Decidable c] {a b : Nat → Option α} {r : α} (h : ¬ c) (e : Ev b r) : Ev (fun k => if c then a k else b k) r :=
 Ev.congr (fun _ => if_neg h) e
theorem Ev.some {α β : Type} {x : α} {f : Nat → α → Option β} {r : β} (k : Ev (fun n => f n x) r) : Ev (fun n => (some x).bind (f n)) r := k
theorem Ev.bnd {α β : Type} {g : Nat → Option α} {f : Nat → α → Option β} {a : α} {r : β} (h : Ev g a) (k : Ev (fun n => f n a) r) : Ev (fun n => (g n).bind fun t => f n t) r := Ev.bind h k
/-- One round of a loop. -/
theorem Ev.one {α : Type} {g f : Nat → Option α} {r : α} (h : ∀ k, g (k + 1) = f k) (k : Ev f r) : Ev g r := Ev.step h k
theorem Ev.const {α : Type} {x : Option α} {a : α} (h : x = Option.some a) : Ev (fun _ => x) a := Ev.congr (fun _ => h) (Ev.now a)
theorem Ev.uniq {α : Type} {g : Nat → Option α} {a b : α} (h : Ev g a) (k : Ev g b) : a = b := by
 obtain ⟨K, h⟩ := h
 obtain ⟨K', k⟩ := k
 have h1 := h (max K K') (by omega)
 have h2 := k (max K K') (by omega)
 exact Option.some.inj (h1.symm.trans h2)
theorem rd_at (xs : List Int) (i : Nat) (h : i < xs.length) : rd xs (i : Int) = xs[i] := by
 unfold rd
 rw [Int.toNat_natCast, List.getD_eq_getElem?_getD, List.getElem?_eq_getElem h, Option.getD_some]
theorem w64_of {x : Int} (h0 : -9223372036854775808 ≤ x) (h1 : x < 9223372036854775808) : wrap64 x = x := by
 unfold wrap64
 omega
theorem w64_succ (i : Nat) (h : i < 4611686018427387904) : wrap64 ((i : Int) + 1) = ((i + 1 : Nat) : Int) := by
 rw [w64_of (by omega) (by omega)]
 omega
theorem wf64 {x : Int} (h : (Lit.int .i64 x).wf = true) : -9223372036854775808 ≤ x ∧ x ≤ 9223372036854775807 := by
 simp only [Lit.wf, IntKind.min, IntKind.max, IntKind.signed, IntKind.bits, Bool.and_eq_true, decide_eq_true_eq, if_true] at h
 omega
/-! laws0: toIntS, eqIntS, markIntS, heldIntS -/
theorem toIntS_l0 (l : List Int) (hl : l.length ≤ 35184372088832) : ∀ (d i : Nat) (xs : List Int), i + d = l.length → xs.length = l.length → (∀ j, j < i → xs[j]? = l[j]?) →
  Ev (fun k => laws_toIntS.l0 k l xs (i : Int)) l := by
 intro d
 induction d with
 | zero =>
  intro i xs hi hx hj
  have e : xs = l := by
   apply List.ext_getElem? ; intro j
   by_cases h : j < i
   ·exact hj j h
   ·rw [List.getElem?_eq_none (by omega), List.getElem?_eq_none (by omega)]
  subst e
  refine Ev.one (fun k => by rw [laws_toIntS.l0]) ?_
  exact Ev.neg (by omega) (Ev.now _)
 | succ d ih =>
  intro i xs hi hx hj
  refine Ev.one (fun k => by rw [laws_toIntS.l0]) ?_
  refine Ev.pos (by omega) (Ev.pos (by omega) (Ev.pos (by omega) ?_))
  rw [w64_succ i (by omega), rd_at l i (by omega), Int.toNat_natCast]
  refine ih (i + 1) _ (by omega) (by rw [List.length_set]; exact hx) (fun j hj' => ?_)
  by_cases e : j = i
  ·subst e
   rw [List.getElem?_set_self (by omega), List.getElem?_eq_getElem (by omega)]
  ·rw [List.getElem?_set_ne (by omega)]
   exact hj j (by omega)
theorem toIntS_ev (l : List Int) (hl : l.length ≤ 35184372088832) : Ev (fun k => laws_toIntS.f k l) l := by
 unfold laws_toIntS.f
 refine Ev.pos (by omega) (Ev.pos (by omega) ?_)
 exact toIntS_l0 l hl l.length 0 _ (by omega) (by rw [List.length_replicate]; omega) (fun j h => by omega)
theorem eqIntS_l0 (l : List Int) (hl : l.length ≤ 35184372088832) : ∀ (d i : Nat), i + d = l.length → Ev (fun k => laws_eqIntS.l0 k l l (i : Int)) true := by
 intro d
 induction d with
 | zero =>
  intro i hi
  refine Ev.one (fun k => by rw [laws_eqIntS.l0]) ?_
  exact Ev.neg (by omega) (Ev.now _)
 | succ d ih =>
  intro i hi
  refine Ev.one (fun k => by rw [laws_eqIntS.l0]) ?_
  refine Ev.pos (by omega) (Ev.pos (by omega) (Ev.pos (by omega) (Ev.pos rfl ?_)))
  rw [w64_succ i (by omega)]
  exact ih (i + 1) (by omega)
theorem eqIntS_ev (l : List Int) (hl : l.length ≤ 35184372088832) : Ev (fun k => laws_eqIntS.f k l l) true := by
 unfold laws_eqIntS.f
 exact Ev.pos rfl (eqIntS_l0 l hl l.length 0 (by omega))
/-! laws1: markIntS, heldIntS -/
def marks (l : List Int) (a : Int) : List Int := (List.range l.length).map fun j : Nat => a + (j : Int)
theorem marks_length (l : List Int) (a : Int) : (marks l a).length = l.length := by simp [marks]
theorem marks_at (l : List Int) (a : Int) (j : Nat) (h : j < l.length) : (marks l a)[j]? = some (a + (j : Int)) := by simp [marks, h]
theorem markIntS_l0 (l : List Int) (a : Int) (hl : l.length ≤ 35184372088832) (h0 : -1 ≤ a) (h1 : a ≤ 4611686018427387904) : ∀ (d i : Nat) (xs : List Int), i + d = l.length → xs.length = l.length → (∀ j, j < i → xs[j]? = some (a + (j : Int))) →
  Ev (fun k => laws_markIntS.l0 k xs (a + (i : Int)) (i : Int)) (a + (l.length : Int), marks l a) := by
 intro d
 induction d with
 | zero =>
  intro i xs hi hx hj
  have e : xs = marks l a := by
   apply List.ext_getElem? ; intro j
   by_cases h : j < i
   ·rw [hj j h, marks_at l a j (by omega)]
   ·rw [List.getElem?_eq_none (by omega), List.getElem?_eq_none (by rw [marks_length]; omega)]
  subst e
  obtain rfl : i = l.length := by omega
  refine Ev.one (fun k => by rw [laws_markIntS.l0]) ?_
  exact Ev.neg (by rw [marks_length]; omega) (Ev.now _)
 | succ d ih =>
  intro i xs hi hx hj
  refine Ev.one (fun k => by rw [laws_markIntS.l0]) ?_
  refine Ev.pos (by omega) (Ev.pos (by omega) ?_)
  rw [w64_succ i (by omega), Int.toNat_natCast, w64_of (by omega) (by omega), show a + (i : Int) + 1 = a + ((i + 1 : Nat) : Int) from by omega]
  refine ih (i + 1) _ (by omega) (by rw [List.length_set]; exact hx) (fun j hj' => ?_)
  by_cases e : j = i
  ·subst e
   rw [List.getElem?_set_self (by omega)]
  ·rw [List.getElem?_set_ne (by omega)]
   exact hj j (by omega)
theorem markIntS_ev (l : List Int) (a : Int) (hl : l.length ≤ 35184372088832) (h0 : -1 ≤ a) (h1 : a ≤ 4611686018427387904) : Ev (fun k => laws_markIntS.f k l a) (a + (l.length : Int), marks l a) := by
 unfold laws_markIntS.f
 have h := markIntS_l0 l a hl h0 h1 l.length 0 l (by omega) rfl (fun j h => by omega)
 rw [show a + ((0 : Nat) : Int) = a from by omega] at h
 exact h
theorem heldIntS_l0 (l : List Int) (a : Int) (hl : l.length ≤ 35184372088832) (h0 : -1 ≤ a) (h1 : a ≤ 4611686018427387904) : ∀ (d i : Nat), i + d = l.length →
  Ev (fun k => laws_heldIntS.l0 k (marks l a) (a + (i : Int)) (i : Int)) (a + (l.length : Int)) := by
 intro d
 induction d with
 | zero =>
  intro i hi
  obtain rfl : i = l.length := by omega
  refine Ev.one (fun k => by rw [laws_heldIntS.l0]) ?_
  exact Ev.neg (by rw [marks_length]; omega) (Ev.now _)
 | succ d ih =>
  intro i hi
  refine Ev.one (fun k => by rw [laws_heldIntS.l0]) ?_
  have e : rd (marks l a) (i : Int) = a + (i : Int) := by
   rw [rd_at _ i (by rw [marks_length]; omega)]
   have := marks_at l a i (by omega)
   rw [List.getElem?_eq_getElem (by rw [marks_length]; omega)] at this
   exact Option.some.inj this
  refine Ev.pos (by rw [marks_length]; omega) (Ev.pos (by omega) (Ev.pos e ?_))
  rw [w64_succ i (by omega), w64_of (by omega) (by omega), show a + (i : Int) + 1 = a + ((i + 1 : Nat) : Int) from by omega]
  exact ih (i + 1) (by omega)
theorem heldIntS_ev (l : List Int) (a : Int) (hl : l.length ≤ 35184372088832) (h0 : -1 ≤ a) (h1 : a ≤ 4611686018427387904) : Ev (fun k => laws_heldIntS.f k (marks l a) a) (a + (l.length : Int)) := by
 unfold laws_heldIntS.f
 have h := heldIntS_l0 l a hl h0 h1 l.length 0 (by omega)
 rw [show a + ((0 : Nat) : Int) = a from by omega] at h
 exact h
/-! sz: how much is left of 1 << 20 -/
theorem szIntS_eq (l : List Int) (a : Int) (h0 : 0 ≤ a) (h1 : a ≤ 1048576) (hl : l.length ≤ maxLen) : laws_szIntS.f l a = some (if (l.length : Int) ≤ a then a - (l.length : Int) else -1) := by
 unfold maxLen at hl
 unfold laws_szIntS.f
 rw [w64_of (by omega) (by omega)]
 by_cases h : (l.length : Int) ≤ a
 ·rw [if_neg (by omega), if_pos h]
 ·rw [if_pos (by omega), if_neg h]
theorem szIntS_in (l : List Int) (a : Int) (h0 : 0 ≤ a) (h1 : a ≤ 1048576) (hl : l.length ≤ maxLen) (h : (l.length : Int) ≤ a) : Ev (fun _ => laws_szIntS.f l a) (a - (l.length : Int)) := by
 refine Ev.const ?_
 rw [szIntS_eq l a h0 h1 hl, if_pos h]
theorem szIntS_out (l : List Int) (a : Int) (h0 : 0 ≤ a) (h1 : a ≤ 1048576) (hl : l.length ≤ maxLen) (h : ¬ (l.length : Int) ≤ a) : Ev (fun _ => laws_szIntS.f l a) (-1) := by
 refine Ev.const ?_
 rw [szIntS_eq l a h0 h1 hl, if_neg h]
/-! within: l1In, within, allWithin -/
theorem spec_l1In_eq (a b c : Int) : spec_l1In.f a b c = some (decide (b ≤ a ∧ a ≤ c)) := by
 unfold spec_l1In.f
 by_cases h : a ≥ b
 ·rw [if_pos h]
  by_cases h2 : a ≤ c
  ·rw [decide_eq_true h2, decide_eq_true ⟨h, h2⟩]
  ·rw [decide_eq_false h2, decide_eq_false (fun h3 => h2 h3.2)]
 ·rw [if_neg h, decide_eq_false (fun h3 => h h3.1)]
theorem impl_within_eq (a b c : Int) : impl_within.f a b c = some (decide (b ≤ a ∧ a ≤ c)) := by
 unfold impl_within.f
 by_cases h : a ≥ b
 ·rw [if_pos h]
  by_cases h2 : a ≤ c
  ·rw [decide_eq_true h2, decide_eq_true ⟨h, h2⟩]
  ·rw [decide_eq_false h2, decide_eq_false (fun h3 => h2 h3.2)]
 ·rw [if_neg h, decide_eq_false (fun h3 => h h3.1)]
theorem spec_l1In_ev (a b c : Int) : Ev (fun _ => spec_l1In.f a b c) (decide (b ≤ a ∧ a ≤ c)) := Ev.const (spec_l1In_eq a b c)
theorem impl_within_ev (a b c : Int) : Ev (fun _ => impl_within.f a b c) (decide (b ≤ a ∧ a ≤ c)) := Ev.const (impl_within_eq a b c)
/-! allWithin -/
def allIn (l : List Int) (a b : Int) : Bool := l.all fun x => decide (a ≤ x ∧ x ≤ b)
theorem allIn_iff (l : List Int) (a b : Int) : allIn l a b = true ↔ ∀ x ∈ l, a ≤ x ∧ x ≤ b := by
 unfold allIn
 rw [List.all_eq_true]
 exact ⟨fun h x hx => by simpa using h x hx, fun h x hx => by simpa using h x hx⟩
theorem allIn_cons (x : Int) (l : List Int) (a b : Int) (h : a ≤ x ∧ x ≤ b) : allIn (x :: l) a b = allIn l a b := by
 simp only [allIn, List.all_cons, decide_eq_true h, Bool.true_and]
theorem allIn_cons_not (x : Int) (l : List Int) (a b : Int) (h : ¬ (a ≤ x ∧ x ≤ b)) : allIn (x :: l) a b = false := by
 simp only [allIn, List.all_cons, decide_eq_false h, Bool.false_and]
theorem impl_allWithin_l0 (l : List Int) (a b : Int) (hl : l.length ≤ 35184372088832) : ∀ (d i : Nat), i + d = l.length → Ev (fun k => impl_allWithin.l0 k a b l (l.length : Int) (i : Int)) (allIn (l.drop i) a b) := by
 intro d
 induction d with
 | zero =>
  intro i hi
  rw [List.drop_eq_nil_of_le (by omega)]
  refine Ev.one (fun k => by rw [impl_allWithin.l0]) ?_
  exact Ev.neg (by omega) (Ev.now _)
 | succ d ih =>
  intro i hi
  rw [List.drop_eq_getElem_cons (show i < l.length by omega)]
  refine Ev.one (fun k => by rw [impl_allWithin.l0]) ?_
  refine Ev.pos (by omega) (Ev.pos (by omega) (Ev.pos (by omega) ?_))
  rw [rd_at l i (by omega), impl_within_eq]
  simp only [Option.bind_some]
  by_cases h : a ≤ l[i] ∧ l[i] ≤ b
  ·refine Ev.pos (decide_eq_true h) ?_
   rw [w64_succ i (by omega)]
   rw [allIn_cons _ _ _ _ h]
   exact ih (i + 1) (by omega)
  ·refine Ev.neg (by rw [decide_eq_false h]; decide) ?_
   rw [allIn_cons_not _ _ _ _ h]
   exact Ev.now _
theorem impl_allWithin_ev (l : List Int) (a b : Int) (hl : l.length ≤ 35184372088832) : Ev (fun k => impl_allWithin.f k l a b) (allIn l a b) := by
 unfold impl_allWithin.f
 exact impl_allWithin_l0 l a b hl l.length 0 (by omega)
/-! sums: the sums of numbers of a list, each any number of times -/
def Sums (g : List Int) (n : Int) : Prop := ∃ l : List Int, (∀ x ∈ l, x ∈ g) ∧ l.sum = n
theorem Sums.zero (g : List Int) : Sums g 0 := ⟨[], by simp, rfl⟩
theorem Sums.add {g : List Int} {x n : Int} (hx : x ∈ g) (h : Sums g n) : Sums g (n + x) := by
 obtain ⟨l, h1, h2⟩ := h
 refine ⟨x :: l, fun y hy => ?_, by rw [List.sum_cons, h2]; omega⟩
 rcases List.mem_cons.1 hy with rfl | hy
 ·exact hx
 ·exact h1 y hy
theorem Sums.both {g : List Int} {a b : Int} (h : Sums g a) (h' : Sums g b) : Sums g (a + b) := by
 obtain ⟨l, h1, h2⟩ := h
 obtain ⟨l', h1', h2'⟩ := h'
 refine ⟨l ++ l', fun y hy => ?_, by rw [List.sum_append, h2, h2']⟩
 rcases List.mem_append.1 hy with hy | hy
 ·exact h1 y hy
 ·exact h1' y hy
theorem Sums.one {g : List Int} {x : Int} (hx : x ∈ g) : Sums g x := by
 have h := Sums.add hx (Sums.zero g)
 rwa [Int.zero_add] at h
theorem Sums.times {g : List Int} {x : Int} (hx : x ∈ g) (k : Nat) : Sums g ((k : Int) * x) := by
 induction k with
 | zero => rw [show ((0 : Nat) : Int) * x = 0 from by simp]; exact Sums.zero g
 | succ k ih =>
  have h := Sums.add hx ih
  rw [show ((k + 1 : Nat) : Int) * x = (k : Int) * x + x from by rw [Int.natCast_add, Int.add_mul]; simp]
  exact h
theorem Sums.mono {g g' : List Int} {n : Int} (hg : ∀ x ∈ g, x ∈ g') (h : Sums g n) : Sums g' n := by
 obtain ⟨l, h1, h2⟩ := h
 exact ⟨l, fun x hx => hg x (h1 x hx), h2⟩
theorem Sums.ind {g : List Int} {P : Int → Prop} (h0 : P 0) (hs : ∀ x n, x ∈ g → Sums g n → P n → P (n + x)) {n : Int} (h : Sums g n) : P n := by
 obtain ⟨l, h1, h2⟩ := h
 subst h2
 induction l with
 | nil => exact h0
 | cons x l ih =>
  rw [List.sum_cons, Int.add_comm]
  exact hs x l.sum (h1 x (List.mem_cons_self ..)) ⟨l, fun y hy => h1 y (List.mem_cons_of_mem _ hy), rfl⟩ (ih (fun y hy => h1 y (List.mem_cons_of_mem _ hy)))
theorem Sums.nonneg {g : List Int} {n : Int} (hp : ∀ x ∈ g, 1 ≤ x) (h : Sums g n) : 0 ≤ n :=
 Sums.ind (P := fun n => 0 ≤ n) (by omega) (fun x n hx _ hn => by have := hp x hx; omega) h
/-- A sum other than 0 is a number of the list and a sum. -/
theorem Sums.cut {g : List Int} {n : Int} (hp : ∀ x ∈ g, 1 ≤ x) (h : Sums g n) (hn : n ≠ 0) : ∃ x, x ∈ g ∧ x ≤ n ∧ Sums g (n - x) := by
 obtain ⟨l, h1, h2⟩ := h
 cases l with
 | nil => exact absurd h2.symm (by simpa using hn)
 | cons x l =>
  have hs : Sums g l.sum := ⟨l, fun y hy => h1 y (List.mem_cons_of_mem _ hy), rfl⟩
  have := hs.nonneg hp
  rw [List.sum_cons] at h2
  refine ⟨x, h1 x (List.mem_cons_self ..), by omega, ?_⟩
  rw [show n - x = l.sum from by omega]
  exact hs
/-! table: spec.l3Table -/
theorem rdOf_at {α : Type} (d : α) (xs : List α) (i : Nat) : rdOf d xs (i : Int) = xs.getD i d := by unfold rdOf; rw [Int.toNat_natCast]
theorem getD_set_eq {α : Type} (d : α) (xs : List α) (i : Nat) (x : α) (h : i < xs.length) : (xs.set i x).getD i d = x := by
 rw [List.getD_eq_getElem?_getD, List.getElem?_set_self h, Option.getD_some]
theorem getD_set_ne {α : Type} (d : α) (xs : List α) (i j : Nat) (x : α) (h : i ≠ j) : (xs.set i x).getD j d = xs.getD j d := by
 rw [List.getD_eq_getElem?_getD, List.getElem?_set_ne h, ← List.getD_eq_getElem?_getD]
theorem spec_l3Table_l1 (g : List Int) (most : Nat) (hg : ∀ x ∈ g, 1 ≤ x) (hlen : g.length ≤ 1048576) (hm : most ≤ 2000000) (n : Nat) (h1 : 1 ≤ n) (hn : n ≤ most)
  (fin : ∀ xs : List Bool, xs.length = most + 1 → (∀ m : Nat, m ≤ n → (xs.getD m false = true ↔ Sums g (m : Int))) → (∀ m : Nat, n < m → xs.getD m false = false) →
   ∃ r : List Bool, r.length = most + 1 ∧ (∀ m : Nat, m ≤ most → (r.getD m false = true ↔ Sums g (m : Int))) ∧ Ev (fun k => spec_l3Table.l0 k g (most : Int) xs ((n + 1 : Nat) : Int)) r) :
  ∀ (d j : Nat) (xs : List Bool), j + d = g.length → xs.length = most + 1 → (∀ m : Nat, m < n → (xs.getD m false = true ↔ Sums g (m : Int))) → (∀ m : Nat, n < m → xs.getD m false = false) →
   (xs.getD n false = true ↔ ∃ x, x ∈ g.take j ∧ x ≤ (n : Int) ∧ Sums g ((n : Int) - x)) →
   ∃ r : List Bool, r.length = most + 1 ∧ (∀ m : Nat, m ≤ most → (r.getD m false = true ↔ Sums g (m : Int))) ∧ Ev (fun k => spec_l3Table.l1 k g (most : Int) xs (n : Int) (j : Int)) r := by
 intro d
 induction d with
 | zero =>
  intro j xs hj hx hlo hhi hat
  rw [List.take_of_length_le (by omega)] at hat
  obtain ⟨r, r1, r2, r3⟩ := fin xs hx (fun m hm => by
   by_cases e : m = n
   ·subst e
    rw [hat]
    constructor
    ·rintro ⟨x, hx, hle, hs⟩
     have := hs.add hx
     rwa [Int.sub_add_cancel] at this
    ·intro hs
     exact hs.cut hg (by omega)
   ·exact hlo m (by omega)) hhi
  refine ⟨r, r1, r2, Ev.one (fun k => by rw [spec_l3Table.l1]) (Ev.neg (by omega) ?_)⟩
  rw [w64_succ n (by omega)]
  exact r3
 | succ d ih =>
  intro j xs hj hx hlo hhi hat
  have hjl : j < g.length := by omega
  have hgj := hg g[j] (List.getElem_mem hjl)
  have htake : g.take (j + 1) = g.take j ++ [g[j]] := by rw [List.take_succ_eq_append_getElem hjl]
  by_cases hle : g[j] ≤ (n : Int)
  ·obtain ⟨q, hq⟩ : ∃ q : Nat, (n : Int) - g[j] = (q : Int) := ⟨((n : Int) - g[j]).toNat, by omega⟩
   by_cases hb : xs.getD q false = true
   ·have hs : Sums g ((n : Int) - g[j]) := by rw [hq]; exact (hlo q (by omega)).1 hb
    obtain ⟨r, r1, r2, r3⟩ := ih (j + 1) (xs.set n true) (by omega) (by rw [List.length_set]; exact hx) (fun m hm => by rw [getD_set_ne _ _ _ _ _ (by omega)]; exact hlo m hm)
     (fun m hm => by rw [getD_set_ne _ _ _ _ _ (by omega)]; exact hhi m hm) (by
      rw [getD_set_eq _ _ _ _ (by omega), htake]
      exact ⟨fun _ => ⟨g[j], List.mem_append_right _ (List.mem_singleton.2 rfl), hle, hs⟩, fun _ => rfl⟩)
    refine ⟨r, r1, r2, Ev.one (fun k => by rw [spec_l3Table.l1]) ?_⟩
    rw [rd_at g j hjl, w64_of (x := (n : Int) - g[j]) (by omega) (by omega), hq, rdOf_at, w64_succ j (by omega), Int.toNat_natCast]
    exact Ev.pos (by omega) (Ev.pos (by omega) (Ev.pos hle (Ev.pos (by omega) (Ev.pos (by omega) (Ev.pos hb (Ev.pos (by omega) (Ev.pos (by omega) r3)))))))
   ·obtain ⟨r, r1, r2, r3⟩ := ih (j + 1) xs (by omega) hx hlo hhi (by
      rw [hat, htake]
      constructor
      ·rintro ⟨x, hx, h⟩
       exact ⟨x, List.mem_append_left _ hx, h⟩
      ·rintro ⟨x, hx, hxl, hs⟩
       rcases List.mem_append.1 hx with hx | hx
       ·exact ⟨x, hx, hxl, hs⟩
       ·obtain rfl := List.mem_singleton.1 hx
        rw [hq] at hs
        exact absurd ((hlo q (by omega)).2 hs) hb)
    refine ⟨r, r1, r2, Ev.one (fun k => by rw [spec_l3Table.l1]) ?_⟩
    rw [rd_at g j hjl, w64_of (x := (n : Int) - g[j]) (by omega) (by omega), hq, rdOf_at, w64_succ j (by omega)]
    exact Ev.pos (by omega) (Ev.pos (by omega) (Ev.pos hle (Ev.pos (by omega) (Ev.pos (by omega) (Ev.neg hb r3)))))
  ·obtain ⟨r, r1, r2, r3⟩ := ih (j + 1) xs (by omega) hx hlo hhi (by
     rw [hat, htake]
     constructor
     ·rintro ⟨x, hx, h⟩
      exact ⟨x, List.mem_append_left _ hx, h⟩
     ·rintro ⟨x, hx, hxl, hs⟩
      rcases List.mem_append.1 hx with hx | hx
      ·exact ⟨x, hx, hxl, hs⟩
      ·obtain rfl := List.mem_singleton.1 hx
       exact absurd hxl hle)
   refine ⟨r, r1, r2, Ev.one (fun k => by rw [spec_l3Table.l1]) ?_⟩
   rw [rd_at g j hjl, w64_succ j (by omega)]
   exact Ev.pos (by omega) (Ev.pos (by omega) (Ev.neg (by omega) r3))
theorem spec_l3Table_l0 (g : List Int) (most : Nat) (hg : ∀ x ∈ g, 1 ≤ x) (hlen : g.length ≤ 1048576) (hm : most ≤ 2000000) :
  ∀ (d n : Nat) (xs : List Bool), n + d = most → xs.length = most + 1 → (∀ m : Nat, m ≤ n → (xs.getD m false = true ↔ Sums g (m : Int))) → (∀ m : Nat, n < m → xs.getD m false = false) →
   ∃ r : List Bool, r.length = most + 1 ∧ (∀ m : Nat, m ≤ most → (r.getD m false = true ↔ Sums g (m : Int))) ∧ Ev (fun k => spec_l3Table.l0 k g (most : Int) xs ((n + 1 : Nat) : Int)) r := by
 intro d
 induction d with
 | zero =>
  intro n xs hd hx hlo hhi
  refine ⟨xs, hx, fun m hm => hlo m (by omega), Ev.one (fun k => by rw [spec_l3Table.l0]) (Ev.neg (by omega) (Ev.now _))⟩
 | succ d ih =>
  intro n xs hd hx hlo hhi
  obtain ⟨r, r1, r2, r3⟩ := spec_l3Table_l1 g most hg hlen hm (n + 1) (by omega) (by omega) (fun xs hx hlo hhi => ih (n + 1) xs (by omega) hx hlo hhi) g.length 0 xs (by omega) hx (fun m hm => hlo m (by omega)) (fun m hm => hhi m (by omega))
   ⟨(fun h => by rw [hhi (n + 1) (by omega)] at h; cases h), (fun ⟨x, hx, _⟩ => by simp at hx)⟩
  refine ⟨r, r1, r2, Ev.one (fun k => by rw [spec_l3Table.l0]) ?_⟩
  exact Ev.pos (by omega) r3
theorem spec_l3Table_ev (g : List Int) (most : Nat) (hg : ∀ x ∈ g, 1 ≤ x) (hlen : g.length ≤ 1048576) (hm : most ≤ 2000000) :
  ∃ r : List Bool, r.length = most + 1 ∧ (∀ m : Nat, m ≤ most → (r.getD m false = true ↔ Sums g (m : Int))) ∧ Ev (fun k => spec_l3Table.f k g (most : Int)) r := by
 have e : (List.replicate (most + 1) false).length = most + 1 := List.length_replicate
 have eg : ∀ m : Nat, (List.replicate (most + 1) false).getD m false = false := fun m => by
  rw [List.getD_eq_getElem?_getD, List.getElem?_replicate]
  split <;> rfl
 obtain ⟨r, r1, r2, r3⟩ := spec_l3Table_l0 g most hg hlen hm most 0 ((List.replicate (most + 1) false).set 0 true) (by omega) (by rw [List.length_set, e])
  (fun m hm => by
   obtain rfl : m = 0 := by omega
   rw [getD_set_eq _ _ _ _ (by omega)]
   exact ⟨fun _ => Sums.zero g, fun _ => rfl⟩)
  (fun m hm => by rw [getD_set_ne _ _ _ _ _ (by omega)]; exact eg m)
 refine ⟨r, r1, r2, ?_⟩
 unfold spec_l3Table.f
 rw [w64_succ most (by omega), Int.toNat_natCast]
 exact Ev.pos (by omega) (Ev.pos (by omega) (Ev.some (Ev.pos (by omega) r3)))
/-! gcd: spec.GcdOf, impl.GcdOf, and of lists -/
theorem tmod_nat (a b : Nat) : Int.tmod (a : Int) (b : Int) = ((a % b : Nat) : Int) := by
 rw [Int.tmod_eq_emod_of_nonneg (by omega)]
 simp
theorem spec_GcdOf_l0 : ∀ (b a : Nat), Ev (fun k => spec_GcdOf.l0 k (a : Int) (b : Int)) ((Nat.gcd a b : Nat) : Int) := by
 intro b
 induction b using Nat.strongRecOn with
 | ind b ih =>
  intro a
  refine Ev.one (fun k => by rw [spec_GcdOf.l0]) ?_
  by_cases h : b = 0
  ·subst h
   rw [Nat.gcd_zero_right]
   exact Ev.neg (by omega) (Ev.now _)
  ·rw [tmod_nat, Nat.gcd_comm, Nat.gcd_rec, Nat.gcd_comm]
   exact Ev.pos (by omega) (Ev.neg (by omega) (ih (a % b) (Nat.mod_lt _ (by omega)) b))
theorem impl_GcdOf_l0 : ∀ (a b : Nat), Ev (fun k => impl_GcdOf.l0 k (a : Int) (b : Int)) ((Nat.gcd a b : Nat) : Int) := by
 intro a
 induction a using Nat.strongRecOn with
 | ind a ih =>
  intro b
  refine Ev.one (fun k => by rw [impl_GcdOf.l0]) ?_
  by_cases h : a = 0
  ·subst h
   rw [Nat.gcd_zero_left]
   exact Ev.pos (by omega) (Ev.now _)
  ·rw [tmod_nat, Nat.gcd_rec]
   exact Ev.neg (by omega) (ih (b % a) (Nat.mod_lt _ (by omega)) a)
/-- What GcdOf answers: 0 beyond the bounds. -/
def gcdS (a b : Int) : Int := if (-1000000 ≤ a ∧ a ≤ 1000000) ∧ (-1000000 ≤ b ∧ b ≤ 1000000) then ((Int.gcd a b : Nat) : Int) else 0
theorem spec_l2Small_ev (a : Int) : Ev (fun _ => spec_l2Small.f a) (decide (-1000000 ≤ a ∧ a ≤ 1000000)) := by
 unfold spec_l2Small.f
 exact Ev.bnd (spec_l1In_ev _ _ _) (Ev.now _)
theorem l1Max_abs (a : Int) (h : -1000000 ≤ a ∧ a ≤ 1000000) : Ev (fun _ => spec_l1Max.f a (wrap64 (-a))) ((a.natAbs : Nat) : Int) := by
 refine Ev.const ?_
 rw [w64_of (by omega) (by omega)]
 unfold spec_l1Max.f
 by_cases g : a > -a
 ·rw [if_pos g]; congr 1; omega
 ·rw [if_neg g]; congr 1; omega
theorem spec_GcdOf_ev (a b : Int) : Ev (fun k => spec_GcdOf.f k a b) (gcdS a b) := by
 unfold spec_GcdOf.f gcdS
 by_cases h1 : -1000000 ≤ a ∧ a ≤ 1000000
 ·refine Ev.bnd (spec_l2Small_ev a) (Ev.pos (decide_eq_true h1) (Ev.bnd (spec_l2Small_ev b) (Ev.one (fun k => by rw [spec_GcdOf.j0]) ?_)))
  by_cases h2 : -1000000 ≤ b ∧ b ≤ 1000000
  ·rw [if_pos ⟨h1, h2⟩]
   exact Ev.neg (by rw [decide_eq_true h2]; simp) (Ev.bnd (l1Max_abs a h1) (Ev.bnd (l1Max_abs b h2) (spec_GcdOf_l0 b.natAbs a.natAbs)))
  ·rw [if_neg (fun g => h2 g.2)]
   exact Ev.pos (by rw [decide_eq_false h2]; simp) (Ev.now _)
 ·rw [if_neg (fun g => h1 g.1)]
  exact Ev.bnd (spec_l2Small_ev a) (Ev.neg (by rw [decide_eq_false h1]; simp) (Ev.one (fun k => by rw [spec_GcdOf.j0]) (Ev.pos rfl (Ev.now _))))
theorem mx_abs (a : Int) (h : -1000000 ≤ a ∧ a ≤ 1000000) : mx a (wrap64 (-a)) = ((a.natAbs : Nat) : Int) := by
 rw [w64_of (by omega) (by omega)]
 unfold mx
 by_cases g : a < -a
 ·rw [if_pos g]; omega
 ·rw [if_neg g]; omega
theorem impl_GcdOf_ev (a b : Int) : Ev (fun k => impl_GcdOf.f k a b) (gcdS a b) := by
 unfold impl_GcdOf.f gcdS
 refine Ev.bnd (impl_allWithin_ev _ _ _ (by simp)) ?_
 by_cases h : (-1000000 ≤ a ∧ a ≤ 1000000) ∧ (-1000000 ≤ b ∧ b ≤ 1000000)
 ·rw [if_pos h, mx_abs a h.1, mx_abs b h.2]
  exact Ev.pos (by rw [allIn_iff]; simp only [List.mem_cons, List.not_mem_nil, or_false]; rintro x (rfl | rfl); exact h.1; exact h.2) (impl_GcdOf_l0 a.natAbs b.natAbs)
 ·rw [if_neg h]
  refine Ev.neg (fun g => h ?_) (Ev.now _)
  rw [allIn_iff] at g
  exact ⟨g a (by simp), g b (by simp)⟩
def gcdL (l : List Int) : Int := l.foldl gcdS 0
theorem spec_GcdOfList_l0 (l : List Int) (hl : l.length ≤ 1048576) : ∀ (d i : Nat) (x : Int), i + d = l.length → Ev (fun k => spec_GcdOfList.l0 k l x (i : Int)) ((l.drop i).foldl gcdS x) := by
 intro d
 induction d with
 | zero =>
  intro i x hi
  rw [List.drop_eq_nil_of_le (by omega)]
  refine Ev.one (fun k => by rw [spec_GcdOfList.l0]) ?_
  exact Ev.neg (by omega) (Ev.now _)
 | succ d ih =>
  intro i x hi
  rw [List.drop_eq_getElem_cons (show i < l.length by omega), List.foldl_cons]
  refine Ev.one (fun k => by rw [spec_GcdOfList.l0]) ?_
  refine Ev.pos (by omega) (Ev.pos (by omega) (Ev.bnd (spec_GcdOf_ev _ _) ?_))
  rw [rd_at l i (by omega), w64_succ i (by omega)]
  exact ih (i + 1) _ (by omega)
theorem spec_GcdOfList_ev (l : List Int) (hl : l.length ≤ 1048576) : Ev (fun k => spec_GcdOfList.f k l) (gcdL l) := by
 unfold spec_GcdOfList.f
 exact spec_GcdOfList_l0 l hl l.length 0 0 (by omega)
theorem impl_GcdOfList_l0 (l : List Int) (hl : l.length ≤ 1048576) : ∀ (d i : Nat) (x : Int), i + d = l.length → Ev (fun k => impl_GcdOfList.l0 k x l (l.length : Int) (i : Int)) ((l.drop i).foldl gcdS x) := by
 intro d
 induction d with
 | zero =>
  intro i x hi
  rw [List.drop_eq_nil_of_le (by omega)]
  refine Ev.one (fun k => by rw [impl_GcdOfList.l0]) ?_
  exact Ev.neg (by omega) (Ev.now _)
 | succ d ih =>
  intro i x hi
  rw [List.drop_eq_getElem_cons (show i < l.length by omega), List.foldl_cons]
  refine Ev.one (fun k => by rw [impl_GcdOfList.l0]) ?_
  refine Ev.pos (by omega) (Ev.pos (by omega) (Ev.pos (by omega) (Ev.bnd (impl_GcdOf_ev _ _) ?_)))
  rw [rd_at l i (by omega), w64_succ i (by omega)]
  exact ih (i + 1) _ (by omega)
theorem impl_GcdOfList_ev (l : List Int) (hl : l.length ≤ 1048576) : Ev (fun k => impl_GcdOfList.f k l) (gcdL l) := by
 unfold impl_GcdOfList.f
 exact impl_GcdOfList_l0 l hl l.length 0 0 (by omega)
/-! asc: IsAscending -/
def asc (l : List Int) : Prop := l.Pairwise (· < ·)
theorem asc_iff (l : List Int) : asc l ↔ ∀ i (h : i + 1 < l.length), l[i] < l[i + 1] := by
 unfold asc
 rw [List.pairwise_iff_getElem]
 constructor
 ·intro h i hi
  exact h i (i + 1) (by omega) hi (by omega)
 ·intro h i j hi hj hij
  obtain ⟨d, rfl⟩ : ∃ d, j = i + 1 + d := ⟨j - i - 1, by omega⟩
  induction d with
  | zero => exact h i hj
  | succ d ih => exact Int.lt_trans (ih (by omega) (by omega)) (h (i + 1 + d) (by omega))
theorem spec_IsAscending_l0 (l : List Int) (hl : l.length ≤ 1048576) : ∀ (d i : Nat), i + d = l.length → 1 ≤ i → (∀ j (h : j + 1 < l.length), j + 1 < i → l[j] < l[j + 1]) →
  ∃ b, (b = true ↔ asc l) ∧ Ev (fun k => spec_IsAscending.l0 k l (i : Int)) b := by
 intro d
 induction d with
 | zero =>
  intro i hi h1 hs
  exact ⟨true, ⟨fun _ => (asc_iff l).2 (fun j hj => hs j hj (by omega)), fun _ => rfl⟩, Ev.one (fun k => by rw [spec_IsAscending.l0]) (Ev.neg (by omega) (Ev.now _))⟩
 | succ d ih =>
  intro i hi h1 hs
  have e1 : wrap64 ((i : Int) - 1) = ((i - 1 : Nat) : Int) := by rw [w64_of (by omega) (by omega)]; omega
  obtain ⟨j, rfl⟩ : ∃ j, i = j + 1 := ⟨i - 1, by omega⟩
  by_cases h : l[j] < l[j + 1]
  ·obtain ⟨b, b1, b2⟩ := ih (j + 1 + 1) (by omega) (by omega) (fun q hq hq' => by
    by_cases e : q = j
    ·subst e; exact h
    ·exact hs q hq (by omega))
   refine ⟨b, b1, Ev.one (fun k => by rw [spec_IsAscending.l0]) ?_⟩
   rw [e1, w64_succ (j + 1) (by omega), Nat.add_sub_cancel, rd_at l j (by omega), rd_at l (j + 1) (by omega)]
   exact Ev.pos (by omega) (Ev.pos (by omega) (Ev.pos (by omega) (Ev.pos (by omega) (Ev.neg (by omega) b2))))
  ·refine ⟨false, ⟨(fun g => by cases g), fun g => absurd ((asc_iff l).1 g j (by omega)) h⟩, Ev.one (fun k => by rw [spec_IsAscending.l0]) ?_⟩
   rw [e1, Nat.add_sub_cancel, rd_at l j (by omega), rd_at l (j + 1) (by omega)]
   exact Ev.pos (by omega) (Ev.pos (by omega) (Ev.pos (by omega) (Ev.pos (by omega) (Ev.pos (by omega) (Ev.now _)))))
theorem asc_short (l : List Int) (h : l.length = 0) : asc l := by
 rw [List.length_eq_zero_iff] at h
 subst h
 exact List.Pairwise.nil
theorem spec_IsAscending_ev (l : List Int) (hl : l.length ≤ 1048576) : ∃ b, (b = true ↔ asc l) ∧ Ev (fun k => spec_IsAscending.f k l) b := by
 unfold spec_IsAscending.f
 by_cases h : l.length = 0
 ·exact ⟨true, ⟨fun _ => asc_short l h, fun _ => rfl⟩, Ev.one (fun k => by rw [spec_IsAscending.l0]) (Ev.neg (by omega) (Ev.now _))⟩
 ·exact spec_IsAscending_l0 l hl (l.length - 1) 1 (by omega) (by omega) (fun j _ hj => by omega)
theorem impl_IsAscending_l0 (l : List Int) (hl : l.length ≤ 1048576) : ∀ (d i : Nat), i + d = l.length → 1 ≤ i → (∀ j (h : j + 1 < l.length), j + 1 < i → l[j] < l[j + 1]) →
  ∃ b, (b = true ↔ asc l) ∧ Ev (fun k => impl_IsAscending.l0 k l (i : Int)) b := by
 intro d
 induction d with
 | zero =>
  intro i hi h1 hs
  exact ⟨true, ⟨fun _ => (asc_iff l).2 (fun j hj => hs j hj (by omega)), fun _ => rfl⟩, Ev.one (fun k => by rw [impl_IsAscending.l0]) (Ev.neg (by omega) (Ev.now _))⟩
 | succ d ih =>
  intro i hi h1 hs
  have e1 : wrap64 ((i : Int) - 1) = ((i - 1 : Nat) : Int) := by rw [w64_of (by omega) (by omega)]; omega
  obtain ⟨j, rfl⟩ : ∃ j, i = j + 1 := ⟨i - 1, by omega⟩
  by_cases h : l[j] < l[j + 1]
  ·obtain ⟨b, b1, b2⟩ := ih (j + 1 + 1) (by omega) (by omega) (fun q hq hq' => by
    by_cases e : q = j
    ·subst e; exact h
    ·exact hs q hq (by omega))
   refine ⟨b, b1, Ev.one (fun k => by rw [impl_IsAscending.l0]) ?_⟩
   rw [e1, w64_succ (j + 1) (by omega), Nat.add_sub_cancel, rd_at l j (by omega), rd_at l (j + 1) (by omega)]
   exact Ev.pos (by omega) (Ev.pos (by omega) (Ev.pos (by omega) (Ev.pos (by omega) (Ev.neg (by omega) b2))))
  ·refine ⟨false, ⟨(fun g => by cases g), fun g => absurd ((asc_iff l).1 g j (by omega)) h⟩, Ev.one (fun k => by rw [impl_IsAscending.l0]) ?_⟩
   rw [e1, Nat.add_sub_cancel, rd_at l j (by omega), rd_at l (j + 1) (by omega)]
   exact Ev.pos (by omega) (Ev.pos (by omega) (Ev.pos (by omega) (Ev.pos (by omega) (Ev.pos (by omega) (Ev.now _)))))
theorem impl_IsAscending_ev (l : List Int) (hl : l.length ≤ 1048576) : ∃ b, (b = true ↔ asc l) ∧ Ev (fun k => impl_IsAscending.f k l) b := by
 unfold impl_IsAscending.f
 by_cases h : l.length = 0
 ·exact ⟨true, ⟨fun _ => asc_short l h, fun _ => rfl⟩, Ev.one (fun k => by rw [impl_IsAscending.l0]) (Ev.neg (by omega) (Ev.now _))⟩
 ·exact impl_IsAscending_l0 l hl (l.length - 1) 1 (by omega) (by omega) (fun j _ hj => by omega)
/-! leasts: impl.leasts -/
theorem rd_set_eq (xs : List Int) (i : Nat) (v : Int) (h : i < xs.length) : rd (xs.set i v) (i : Int) = v := by
 unfold rd
 rw [Int.toNat_natCast]
 exact getD_set_eq 0 xs i v h
theorem rd_set_ne (xs : List Int) (i j : Nat) (v : Int) (h : i ≠ j) : rd (xs.set i v) (j : Int) = rd xs (j : Int) := by
 unfold rd
 rw [Int.toNat_natCast]
 exact getD_set_ne 0 xs i j v h
def tot (f : Int → Nat) (xs : List Int) : Nat := (xs.map f).sum
theorem tot_set (f : Int → Nat) (v : Int) : ∀ (xs : List Int) (i : Nat), i < xs.length → tot f (xs.set i v) + f (rd xs (i : Int)) = tot f xs + f v
 | [], _, h => by simp at h
 | x :: xs, 0, _ => by
  show tot f (v :: xs) + f x = tot f (x :: xs) + f v
  unfold tot
  rw [List.map_cons, List.map_cons, List.sum_cons, List.sum_cons]
  omega
 | x :: xs, i + 1, h => by
  have ih := tot_set f v xs i (by simpa using h)
  have e : rd (x :: xs) ((i + 1 : Nat) : Int) = rd xs (i : Int) := by
   unfold rd
   rw [Int.toNat_natCast, Int.toNat_natCast]
   rfl
  show tot f (x :: xs.set i v) + f (rd (x :: xs) ((i + 1 : Nat) : Int)) = tot f (x :: xs) + f v
  rw [e]
  unfold tot at ih ⊢
  rw [List.map_cons, List.map_cons, List.sum_cons, List.sum_cons]
  omega
def neg1 (x : Int) : Nat := if x < 0 then 1 else 0
def phi (x : Int) : Nat := if x < 0 then 5000 else x.toNat
/-- The table while it is made. -/
structure Mid (g : List Int) (a : Nat) (xs : List Int) : Prop where
 len : xs.length = a
 zero : rd xs 0 = 0
 row : ∀ i : Nat, i < a → rd xs (i : Int) = -1 ∨ (0 ≤ rd xs (i : Int) ∧ Sums g (rd xs (i : Int)) ∧ rd xs (i : Int) % (a : Int) = (i : Int))
 room : ∀ i : Nat, i < a → rd xs (i : Int) + 60 * ((tot neg1 xs : Nat) : Int) ≤ 60 * ((a : Int) - 1)
theorem Mid.le {g : List Int} {a : Nat} {xs : List Int} (h : Mid g a xs) (ha : a ≤ 60) (i : Nat) (hi : i < a) : -1 ≤ rd xs (i : Int) ∧ rd xs (i : Int) ≤ 3600 := by
 have h1 := h.room i hi
 have h2 := h.row i hi
 omega
theorem Mid.set {g : List Int} {a : Nat} {xs : List Int} (h : Mid g a xs) (ha : a ≤ 60) {r t : Nat} (hr : r < a) (ht : t < a) {x : Int} (hx : x ∈ g) (hx1 : 1 ≤ x) (hx2 : x ≤ 60)
  (hn : 0 ≤ rd xs (r : Int)) (htr : ((r : Int) + x) % (a : Int) = (t : Int)) (hlt : rd xs (t : Int) < 0 ∨ rd xs (r : Int) + x < rd xs (t : Int)) :
  Mid g a (xs.set t (rd xs (r : Int) + x)) ∧ tot phi (xs.set t (rd xs (r : Int) + x)) < tot phi xs := by
 have hl := h.len
 have hb := h.le ha r hr
 have hbt := h.le ha t ht
 have hroom := h.room r hr
 have hroomt := h.room t ht
 have n1 := tot_set neg1 (rd xs (r : Int) + x) xs t (by omega)
 have p1 := tot_set phi (rd xs (r : Int) + x) xs t (by omega)
 have e1 : neg1 (rd xs (r : Int) + x) = 0 := by unfold neg1; rw [if_neg (by omega)]
 have e2 : phi (rd xs (r : Int) + x) = (rd xs (r : Int) + x).toNat := by unfold phi; rw [if_neg (by omega)]
 have ht0 : t ≠ 0 := by
  intro e
  subst e
  have hz := h.zero
  have : rd xs ((0 : Nat) : Int) = 0 := hz
  omega
 have hmono : ∀ i : Nat, i < a → rd (xs.set t (rd xs (r : Int) + x)) (i : Int) + 60 * ((tot neg1 (xs.set t (rd xs (r : Int) + x)) : Nat) : Int) ≤ 60 * ((a : Int) - 1) := by
  intro i hi
  have hroomi := h.room i hi
  by_cases c : rd xs (t : Int) < 0
  ·have e3 : neg1 (rd xs (t : Int)) = 1 := by unfold neg1; rw [if_pos c]
   by_cases e : i = t
   ·subst e; rw [rd_set_eq _ _ _ (by omega)]; omega
   ·rw [rd_set_ne _ _ _ _ (fun q => e q.symm)]; omega
  ·have e3 : neg1 (rd xs (t : Int)) = 0 := by unfold neg1; rw [if_neg c]
   by_cases e : i = t
   ·subst e; rw [rd_set_eq _ _ _ (by omega)]; omega
   ·rw [rd_set_ne _ _ _ _ (fun q => e q.symm)]; omega
 refine ⟨⟨by rw [List.length_set]; exact hl, ?_, ?_, hmono⟩, ?_⟩
 ·have := rd_set_ne xs t 0 (rd xs (r : Int) + x) ht0
  exact this.trans h.zero
 ·intro i hi
  by_cases e : i = t
  ·subst e
   rw [rd_set_eq _ _ _ (by omega)]
   rcases h.row r hr with h1 | ⟨_, h2, h3⟩
   ·omega
   ·refine .inr ⟨by omega, h2.add hx, ?_⟩
    rw [← htr, ← Int.emod_add_emod, h3]
  ·rw [rd_set_ne _ _ _ _ (fun q => e q.symm)]
   exact h.row i hi
 ·by_cases c : rd xs (t : Int) < 0
  ·have e3 : phi (rd xs (t : Int)) = 5000 := by unfold phi; rw [if_pos c]
   omega
  ·have e3 : phi (rd xs (t : Int)) = (rd xs (t : Int)).toNat := by unfold phi; rw [if_neg c]
   omega
def shut1 (a : Nat) (xs : List Int) (r : Nat) (x : Int) : Prop := 0 ≤ rd xs (((r : Int) + x) % (a : Int)) ∧ rd xs (((r : Int) + x) % (a : Int)) ≤ rd xs (r : Int) + x
def shutR (g : List Int) (a : Nat) (xs : List Int) (r : Nat) : Prop := rd xs (r : Int) < 0 ∨ ∀ x ∈ g, shut1 a xs r x
/-- Of each remainder the least sum with it. -/
structure Least (g : List Int) (a : Nat) (xs : List Int) : Prop where
 len : xs.length = a
 row : ∀ i : Nat, i < a → (rd xs (i : Int) = -1 ∧ ∀ n, Sums g n → n % (a : Int) ≠ (i : Int)) ∨
  (0 ≤ rd xs (i : Int) ∧ rd xs (i : Int) ≤ 3600 ∧ Sums g (rd xs (i : Int)) ∧ rd xs (i : Int) % (a : Int) = (i : Int) ∧ ∀ n, Sums g n → n % (a : Int) = (i : Int) → rd xs (i : Int) ≤ n)
theorem Least.of {g : List Int} {a : Nat} {xs : List Int} (h : Mid g a xs) (ha1 : 1 ≤ a) (ha : a ≤ 60) (hs : ∀ r : Nat, r < a → shutR g a xs r) : Least g a xs := by
 have key : ∀ n, Sums g n → 0 ≤ rd xs (n % (a : Int)) ∧ rd xs (n % (a : Int)) ≤ n := by
  intro n hn
  refine Sums.ind (P := fun n => 0 ≤ rd xs (n % (a : Int)) ∧ rd xs (n % (a : Int)) ≤ n) ?_ ?_ hn
  ·have e : (0 : Int) % (a : Int) = 0 := by simp
   have hz := h.zero
   simp only [e, hz]
   omega
  ·intro x n hx _ ⟨h1, h2⟩
   obtain ⟨r, hr⟩ : ∃ r : Nat, n % (a : Int) = (r : Int) := ⟨(n % (a : Int)).toNat, by have := Int.emod_nonneg n (show (a : Int) ≠ 0 by omega); omega⟩
   have hra : r < a := by have := Int.emod_lt_of_pos n (show (0 : Int) < (a : Int) by omega); omega
   rw [hr] at h1 h2
   rcases hs r hra with h3 | h3
   ·omega
   ·have h4 := h3 x hx
    unfold shut1 at h4
    rw [← hr, Int.emod_add_emod] at h4
    rw [hr] at h4
    exact ⟨h4.1, by omega⟩
 refine ⟨h.len, fun i hi => ?_⟩
 have hb := h.le ha i hi
 rcases h.row i hi with h1 | ⟨h1, h2, h3⟩
 ·refine .inl ⟨h1, fun n hn e => ?_⟩
  have := key n hn
  rw [e] at this
  omega
 ·refine .inr ⟨h1, hb.2, h2, h3, fun n hn e => ?_⟩
  have := key n hn
  rw [e] at this
  exact this.2
section
variable (g : List Int) (a : Nat) (hg : ∀ x ∈ g, 1 ≤ x ∧ x ≤ 60) (hlen : g.length ≤ 1048576) (ha1 : 1 ≤ a) (ha : a ≤ 60)
include hg hlen ha1 ha
theorem impl_leasts_l3 (m : Nat) (r : Nat) (hr : r < a) (n : Int)
  (next : ∀ (xs : List Int) (c : Bool), Mid g a xs → tot phi xs ≤ m → (c = true → tot phi xs < m) → (c = false → ∀ q : Nat, q < r + 1 → shutR g a xs q) →
   ∃ res, Least g a res ∧ Ev (fun k => impl_leasts.l2 k g (a : Int) xs c (a : Int) ((r + 1 : Nat) : Int)) res) :
  ∀ (d j : Nat) (xs : List Int) (c : Bool), j + d = g.length → Mid g a xs → rd xs (r : Int) = n → 0 ≤ n → tot phi xs ≤ m → (c = true → tot phi xs < m) →
   (c = false → (∀ q : Nat, q < r → shutR g a xs q) ∧ ∀ x ∈ g.take j, shut1 a xs r x) →
   ∃ res, Least g a res ∧ Ev (fun k => impl_leasts.l3 k g (a : Int) xs c (r : Int) n (a : Int) (r : Int) g (g.length : Int) (j : Int)) res := by
 intro d
 induction d with
 | zero =>
  intro j xs c hj hM hrn hn hm hc hs
  obtain ⟨res, r1, r2⟩ := next xs c hM hm hc (fun e q hq => by
   have hs := hs e
   by_cases e : q = r
   ·subst e
    rw [List.take_of_length_le (by omega)] at hs
    exact .inr hs.2
   ·exact hs.1 q (by omega))
  refine ⟨res, r1, Ev.one (fun k => by rw [impl_leasts.l3]) ?_⟩
  rw [w64_succ r (by omega)]
  exact Ev.neg (by omega) r2
 | succ d ih =>
  intro j xs c hj hM hrn hn hm hc hs
  have hjl : j < g.length := by omega
  have hgj := hg g[j] (List.getElem_mem hjl)
  have hbr := hM.le ha r hr
  have hlenx := hM.len
  obtain ⟨t, ht⟩ : ∃ t : Nat, ((r : Int) + g[j]) % (a : Int) = (t : Int) := ⟨(((r : Int) + g[j]) % (a : Int)).toNat, by have := Int.emod_nonneg ((r : Int) + g[j]) (show (a : Int) ≠ 0 by omega); omega⟩
  have hta : t < a := by have := Int.emod_lt_of_pos ((r : Int) + g[j]) (show (0 : Int) < (a : Int) by omega); omega
  have e1 : Int.tmod (wrap64 ((r : Int) + g[j])) (a : Int) = (t : Int) := by
   rw [w64_of (by omega) (by omega), Int.tmod_eq_emod_of_nonneg (by omega), ht]
  have e2 : wrap64 (n + g[j]) = n + g[j] := w64_of (by omega) (by omega)
  have htake : g.take (j + 1) = g.take j ++ [g[j]] := by rw [List.take_succ_eq_append_getElem hjl]
  by_cases hlt : rd xs (t : Int) < 0 ∨ n + g[j] < rd xs (t : Int)
  ·obtain ⟨M1, M2⟩ := hM.set ha hr hta (List.getElem_mem hjl) hgj.1 hgj.2 (by omega) ht (by rw [hrn]; exact hlt)
   rw [hrn] at M1 M2
   have htr : t ≠ r := by
    intro e
    subst e
    omega
   obtain ⟨res, r1, r2⟩ := ih (j + 1) (xs.set t (n + g[j])) true (by omega) M1 (by rw [rd_set_ne _ _ _ _ htr]; exact hrn) hn (by omega) (fun _ => by omega) (fun e => by cases e)
   refine ⟨res, r1, Ev.one (fun k => by rw [impl_leasts.l3]) ?_⟩
   rw [rd_at g j hjl, e1, e2, w64_succ j (by omega), Int.toNat_natCast]
   refine Ev.pos (by omega) (Ev.pos (by omega) (Ev.pos (by omega) (Ev.neg (by omega) (Ev.pos (by omega) (Ev.pos (by omega) ?_)))))
   by_cases c1 : rd xs (t : Int) < 0
   ·exact Ev.pos c1 r2
   ·exact Ev.neg c1 (Ev.pos (by omega) r2)
  ·obtain ⟨res, r1, r2⟩ := ih (j + 1) xs c (by omega) hM hrn hn hm hc (fun e => ⟨(hs e).1, fun x hx => by
    rw [htake] at hx
    rcases List.mem_append.1 hx with hx | hx
    ·exact (hs e).2 x hx
    ·obtain rfl := List.mem_singleton.1 hx
     unfold shut1
     rw [ht]
     omega⟩)
   refine ⟨res, r1, Ev.one (fun k => by rw [impl_leasts.l3]) ?_⟩
   rw [rd_at g j hjl, e1, e2, w64_succ j (by omega)]
   exact Ev.pos (by omega) (Ev.pos (by omega) (Ev.pos (by omega) (Ev.neg (by omega) (Ev.pos (by omega) (Ev.pos (by omega) (Ev.neg (by omega) (Ev.neg (by omega) r2)))))))
theorem impl_leasts_l2 (m : Nat)
  (again : ∀ (xs : List Int), Mid g a xs → tot phi xs < m → ∃ res, Least g a res ∧ Ev (fun k => impl_leasts.l1 k g (a : Int) xs true) res) :
  ∀ (d r : Nat) (xs : List Int) (c : Bool), r + d = a → Mid g a xs → tot phi xs ≤ m → (c = true → tot phi xs < m) → (c = false → ∀ q : Nat, q < r → shutR g a xs q) →
   ∃ res, Least g a res ∧ Ev (fun k => impl_leasts.l2 k g (a : Int) xs c (a : Int) (r : Int)) res := by
 intro d
 induction d with
 | zero =>
  intro r xs c hr hM hm hc hs
  cases c with
  | true =>
   obtain ⟨res, r1, r2⟩ := again xs hM (hc rfl)
   refine ⟨res, r1, Ev.one (fun k => by rw [impl_leasts.l2]) ?_⟩
   exact Ev.neg (by omega) r2
  | false =>
   refine ⟨xs, Least.of hM ha1 ha (fun q hq => hs rfl q (by omega)), Ev.one (fun k => by rw [impl_leasts.l2]) (Ev.neg (by omega) (Ev.one (fun k => by rw [impl_leasts.l1]) ?_))⟩
   exact Ev.neg (by simp) (Ev.now _)
 | succ d ih =>
  intro r xs c hr hM hm hc hs
  have hra : r < a := by omega
  have hlenx := hM.len
  by_cases hn : rd xs (r : Int) < 0
  ·obtain ⟨res, r1, r2⟩ := ih (r + 1) xs c (by omega) hM hm hc (fun e q hq => by
    by_cases eq : q = r
    ·subst eq; exact .inl hn
    ·exact hs e q (by omega))
   refine ⟨res, r1, Ev.one (fun k => by rw [impl_leasts.l2]) ?_⟩
   rw [w64_succ r (by omega)]
   exact Ev.pos (by omega) (Ev.pos (by omega) (Ev.pos (by omega) (Ev.pos hn r2)))
  ·obtain ⟨res, r1, r2⟩ := impl_leasts_l3 g a hg hlen ha1 ha m r hra (rd xs (r : Int)) (fun xs c h1 h2 h3 h4 => ih (r + 1) xs c (by omega) h1 h2 h3 h4) g.length 0 xs c (by omega) hM rfl (by omega) hm hc
    (fun e => ⟨hs e, fun x hx => by simp at hx⟩)
   refine ⟨res, r1, Ev.one (fun k => by rw [impl_leasts.l2]) ?_⟩
   exact Ev.pos (by omega) (Ev.pos (by omega) (Ev.pos (by omega) (Ev.neg hn r2)))
theorem impl_leasts_l1 : ∀ (m : Nat) (xs : List Int), Mid g a xs → tot phi xs = m → ∃ res, Least g a res ∧ Ev (fun k => impl_leasts.l1 k g (a : Int) xs true) res := by
 intro m
 induction m using Nat.strongRecOn with
 | ind m ih =>
  intro xs hM hm
  have hlenx := hM.len
  obtain ⟨res, r1, r2⟩ := impl_leasts_l2 g a hg hlen ha1 ha m (fun xs h1 h2 => ih _ h2 xs h1 rfl) a 0 xs false (by omega) hM (by omega) (fun e => by cases e) (fun _ q hq => by omega)
  refine ⟨res, r1, Ev.one (fun k => by rw [impl_leasts.l1]) ?_⟩
  rw [hlenx]
  exact Ev.pos rfl r2
omit hg hlen ha1 in
theorem impl_leasts_l0 : ∀ (d i : Nat) (xs : List Int), i + d = a → xs.length = a → (∀ j : Nat, j < i → rd xs (j : Int) = -1) → (res : List Int) →
  (∀ ys : List Int, ys.length = a → (∀ j : Nat, j < a → rd ys (j : Int) = -1) → Ev (fun k => impl_leasts.l1 k g (a : Int) (ys.set 0 0) true) res) → 1 ≤ a →
  Ev (fun k => impl_leasts.l0 k g (a : Int) xs (a : Int) (i : Int)) res := by
 intro d
 induction d with
 | zero =>
  intro i xs hi hx hs res next h1
  refine Ev.one (fun k => by rw [impl_leasts.l0]) ?_
  exact Ev.neg (by omega) (Ev.pos (by omega) (next xs hx (fun j hj => hs j (by omega))))
 | succ d ih =>
  intro i xs hi hx hs res next h1
  refine Ev.one (fun k => by rw [impl_leasts.l0]) ?_
  rw [w64_succ i (by omega), Int.toNat_natCast]
  refine Ev.pos (by omega) (Ev.pos (by omega) (Ev.pos (by omega) (ih (i + 1) _ (by omega) (by rw [List.length_set]; exact hx) (fun j hj => ?_) res next h1)))
  by_cases e : j = i
  ·subst e; rw [rd_set_eq _ _ _ (by omega)]
  ·rw [rd_set_ne _ _ _ _ (by omega)]; exact hs j (by omega)
theorem impl_leasts_ev : ∃ res, Least g a res ∧ Ev (fun k => impl_leasts.f k g (a : Int)) res := by
 -- the table at the begin of the first round
 have first : ∀ ys : List Int, ys.length = a → (∀ j : Nat, j < a → rd ys (j : Int) = -1) → ys.set 0 0 = (List.replicate a (-1)).set 0 (0 : Int) := by
  intro ys hl hy
  congr 1
  apply List.ext_getElem
  ·rw [hl, List.length_replicate]
  ·intro j h1 h2
   rw [List.getElem_replicate]
   have := hy j (by omega)
   rwa [rd_at _ _ h1] at this
 have hrep : ∀ j : Nat, j < a → rd (List.replicate a (-1)) (j : Int) = -1 := fun j hj => by rw [rd_at _ _ (by rw [List.length_replicate]; exact hj), List.getElem_replicate]
 have hM : Mid g a ((List.replicate a (-1)).set 0 (0 : Int)) := by
  have hl : (List.replicate a (-1 : Int)).length = a := List.length_replicate
  have hz : rd ((List.replicate a (-1)).set 0 (0 : Int)) ((0 : Nat) : Int) = 0 := rd_set_eq _ 0 0 (by omega)
  have ht := tot_set neg1 0 (List.replicate a (-1)) 0 (by omega)
  have ht2 : tot neg1 (List.replicate a (-1)) = a := by
   unfold tot
   rw [List.map_replicate]
   simp [neg1]
  have e1 : neg1 0 = 0 := rfl
  have e2 : neg1 (rd (List.replicate a (-1)) ((0 : Nat) : Int)) = 1 := by rw [hrep 0 (by omega)]; rfl
  refine ⟨by rw [List.length_set, hl], hz, fun i hi => ?_, fun i hi => ?_⟩
  ·by_cases e : i = 0
   ·subst e
    rw [hz]
    exact .inr ⟨by omega, Sums.zero g, by simp⟩
   ·rw [rd_set_ne _ _ _ _ (fun q => e q.symm)]
    exact .inl (hrep i hi)
  ·by_cases e : i = 0
   ·subst e
    rw [hz]
    omega
   ·rw [rd_set_ne _ _ _ _ (fun q => e q.symm), hrep i hi]
    omega
 obtain ⟨res, r1, r2⟩ := impl_leasts_l1 g a hg hlen ha1 ha _ _ hM rfl
 refine ⟨res, r1, ?_⟩
 unfold impl_leasts.f
 rw [Int.toNat_natCast]
 refine Ev.pos (by omega) (Ev.pos (by omega) (Ev.some ?_))
 rw [List.length_replicate]
 exact impl_leasts_l0 g a ha a 0 (List.replicate a 0) (by omega) List.length_replicate (fun j hj => by omega) res (fun ys h1 h2 => by rw [first ys h1 h2]; exact r2) ha1
end
/-! sortspec: spec.SortList -/
theorem asc_uniq : ∀ (l l' : List Int), asc l → asc l' → (∀ x, x ∈ l ↔ x ∈ l') → l = l'
 | [], [], _, _, _ => rfl
 | [], y :: l', _, _, h => absurd ((h y).2 (List.mem_cons_self ..)) (by simp)
 | x :: l, [], _, _, h => absurd ((h x).1 (List.mem_cons_self ..)) (by simp)
 | x :: l, y :: l', h1, h2, h => by
  have h1' := List.pairwise_cons.1 h1
  have h2' := List.pairwise_cons.1 h2
  have e : x = y := by
   rcases List.mem_cons.1 ((h x).1 (List.mem_cons_self ..)) with e | hx
   ·exact e
   ·rcases List.mem_cons.1 ((h y).2 (List.mem_cons_self ..)) with e | hy
    ·exact e.symm
    ·have a := h2'.1 x hx
     have b := h1'.1 y hy
     omega
  subst e
  rw [asc_uniq l l' h1'.2 h2'.2 (fun z => ⟨fun hz => by
   rcases List.mem_cons.1 ((h z).1 (List.mem_cons_of_mem _ hz)) with e | hz'
   ·subst e; exact absurd (h1'.1 z hz) (by omega)
   ·exact hz', fun hz => by
   rcases List.mem_cons.1 ((h z).2 (List.mem_cons_of_mem _ hz)) with e | hz'
   ·subst e; exact absurd (h2'.1 z hz) (by omega)
   ·exact hz'⟩)]
theorem asc_put (s : List Int) (hs : asc s) (x : Int) (p : Nat) (hp : p ≤ s.length) (hlo : ∀ h : 0 < p, s[p - 1] < x) (hhi : ∀ q (h : q < s.length), p ≤ q → x < s[q]) :
  asc ((s.take p ++ [x]) ++ s.drop p) ∧ ∀ y, y ∈ (s.take p ++ [x]) ++ s.drop p ↔ (y ∈ s ∨ y = x) := by
 have hm : ∀ y, y ∈ (s.take p ++ [x]) ++ s.drop p ↔ (y ∈ s ∨ y = x) := by
  intro y
  rw [List.mem_append, List.mem_append, List.mem_singleton]
  constructor
  ·rintro ((h | h) | h)
   ·exact .inl (List.mem_of_mem_take h)
   ·exact .inr h
   ·exact .inl (List.mem_of_mem_drop h)
  ·rintro (h | h)
   ·rw [← List.take_append_drop p s] at h
    rcases List.mem_append.1 h with h | h
    ·exact .inl (.inl h)
    ·exact .inr h
   ·exact .inl (.inr h)
 refine ⟨?_, hm⟩
 unfold asc at hs ⊢
 have hs2 := hs
 rw [← List.take_append_drop p s, List.pairwise_append] at hs2
 have hlt : ∀ y ∈ s.take p, y < x := by
  intro y hy
  obtain ⟨q, hq, rfl⟩ := List.getElem_of_mem hy
  rw [List.length_take] at hq
  rw [List.getElem_take]
  have h1 := hlo (by omega)
  by_cases e : q = p - 1
  ·subst e; exact h1
  ·exact Int.lt_trans (List.pairwise_iff_getElem.1 hs q (p - 1) (by omega) (by omega) (by omega)) h1
 have hgt : ∀ y ∈ s.drop p, x < y := by
  intro y hy
  obtain ⟨q, hq, rfl⟩ := List.getElem_of_mem hy
  rw [List.length_drop] at hq
  rw [List.getElem_drop]
  exact hhi (p + q) (by omega) (by omega)
 rw [List.pairwise_append, List.pairwise_append]
 refine ⟨⟨hs2.1, List.pairwise_singleton _ _, fun a ha b hb => ?_⟩, hs2.2.1, fun a ha b hb => ?_⟩
 ·rw [List.mem_singleton.1 hb]; exact hlt a ha
 ·rcases List.mem_append.1 ha with ha | ha
  ·exact hs2.2.2 a ha b hb
  ·rw [List.mem_singleton.1 ha]; exact hgt b hb
theorem spec_SortList_l1 (l : List Int) (hl : l.length ≤ 1000000000000) (i : Nat) (hi : i < l.length) (s : List Int) (hs : asc s) (hsl : s.length ≤ i) (R : List Int → Prop)
  (next : ∀ s' : List Int, asc s' → s'.length ≤ i + 1 → (∀ y, y ∈ s' ↔ (y ∈ s ∨ y = l[i])) → ∃ r, R r ∧ Ev (fun k => spec_SortList.l0 k l s' ((i + 1 : Nat) : Int)) r) :
  ∀ (p : Nat), p ≤ s.length → (∀ q (h : q < s.length), p ≤ q → l[i] < s[q]) → ∃ r, R r ∧ Ev (fun k => spec_SortList.l1 k l s (i : Int) (p : Int)) r := by
 intro p
 have put : ∀ (p : Nat) (hp : p ≤ s.length), (∀ h : 0 < p, s[p - 1] < l[i]) → (∀ q (h : q < s.length), p ≤ q → l[i] < s[q]) →
   ∃ r, R r ∧ Ev (fun k => spec_SortList.l0 k l ((s.take p ++ [l[i]]) ++ ([] ++ s.drop p)) ((i + 1 : Nat) : Int)) r := by
  intro p hp hlo hhi
  obtain ⟨h1, h2⟩ := asc_put s hs l[i] p hp hlo hhi
  rw [List.nil_append]
  exact next _ h1 (by simp; omega) h2
 induction p with
 | zero =>
  intro hp hhi
  obtain ⟨r, r1, r2⟩ := put 0 hp (fun h => by omega) hhi
  refine ⟨r, r1, Ev.one (fun k => by rw [spec_SortList.l1]) ?_⟩
  rw [rd_at l i hi, w64_succ i (by omega), Int.toNat_natCast]
  refine Ev.neg (by omega) (Ev.some (Ev.pos (by omega) (Ev.pos (by omega) (Ev.some (Ev.pos (by simp; omega) (Ev.some (Ev.some (Ev.pos (by omega) (Ev.pos (by omega) (Ev.pos (by simp) (Ev.some (Ev.pos (by simp; omega) r2))))))))))))
 | succ p ih =>
  intro hp hhi
  have e1 : wrap64 (((p + 1 : Nat) : Int) - 1) = (p : Int) := by rw [w64_of (by omega) (by omega)]; omega
  by_cases hgt : s[p] > l[i]
  ·obtain ⟨r, r1, r2⟩ := ih (by omega) (fun q h hq => by
    by_cases e : q = p
    ·subst e; exact hgt
    ·exact hhi q h (by omega))
   refine ⟨r, r1, Ev.one (fun k => by rw [spec_SortList.l1]) ?_⟩
   rw [rd_at l i hi, e1, rd_at s p (by omega)]
   exact Ev.pos (by omega) (Ev.pos (by omega) (Ev.pos (by omega) (Ev.pos (by omega) (Ev.pos (by omega) (Ev.pos hgt r2)))))
  ·by_cases heq : s[p] = l[i]
   ·obtain ⟨r, r1, r2⟩ := next s hs (by omega) (fun y => ⟨fun h => .inl h, fun h => by
     rcases h with h | h
     ·exact h
     ·rw [h, ← heq]; exact List.getElem_mem _⟩)
    refine ⟨r, r1, Ev.one (fun k => by rw [spec_SortList.l1]) ?_⟩
    rw [rd_at l i hi, e1, rd_at s p (by omega), w64_succ i (by omega)]
    exact Ev.pos (by omega) (Ev.pos (by omega) (Ev.pos (by omega) (Ev.pos (by omega) (Ev.pos (by omega) (Ev.neg hgt (Ev.pos heq r2))))))
   ·obtain ⟨r, r1, r2⟩ := put (p + 1) hp (fun _ => by show s[p] < l[i]; omega) hhi
    refine ⟨r, r1, Ev.one (fun k => by rw [spec_SortList.l1]) ?_⟩
    rw [rd_at l i hi, e1, rd_at s p (by omega), w64_succ i (by omega), Int.toNat_natCast]
    refine Ev.pos (by omega) (Ev.pos (by omega) (Ev.pos (by omega) (Ev.pos (by omega) (Ev.pos (by omega) (Ev.neg hgt (Ev.neg heq ?_))))))
    exact Ev.some (Ev.pos (by omega) (Ev.pos (by omega) (Ev.some (Ev.pos (by simp; omega) (Ev.some (Ev.some (Ev.pos (by simp; omega) (Ev.some (Ev.pos (by simp; omega) r2)))))))))
theorem spec_SortList_l0 (l : List Int) (hl : l.length ≤ 1000000000000) : ∀ (d i : Nat) (s : List Int), i + d = l.length → asc s → s.length ≤ i → (∀ y, y ∈ s ↔ y ∈ l.take i) →
  ∃ r, (asc r ∧ (∀ y, y ∈ r ↔ y ∈ l) ∧ r.length ≤ l.length) ∧ Ev (fun k => spec_SortList.l0 k l s (i : Int)) r := by
 intro d
 induction d with
 | zero =>
  intro i s hi hs hsl hm
  rw [List.take_of_length_le (by omega)] at hm
  refine ⟨s, ⟨hs, hm, by omega⟩, Ev.one (fun k => by rw [spec_SortList.l0]) ?_⟩
  exact Ev.neg (by omega) (Ev.now _)
 | succ d ih =>
  intro i s hi hs hsl hm
  have hil : i < l.length := by omega
  have htake : l.take (i + 1) = l.take i ++ [l[i]] := by rw [List.take_succ_eq_append_getElem hil]
  obtain ⟨r, r1, r2⟩ := spec_SortList_l1 l hl i hil s hs hsl (fun r => asc r ∧ (∀ y, y ∈ r ↔ y ∈ l) ∧ r.length ≤ l.length) (fun s' h1 h2 h3 => ih (i + 1) s' (by omega) h1 h2 (fun y => by
   rw [h3, htake, List.mem_append, List.mem_singleton, hm])) s.length (Nat.le_refl _) (fun q h hq => by omega)
  refine ⟨r, r1, Ev.one (fun k => by rw [spec_SortList.l0]) ?_⟩
  exact Ev.pos (by omega) r2
theorem spec_SortList_big (l : List Int) (hl : l.length ≤ 1000000000000) : ∃ r, (asc r ∧ (∀ y, y ∈ r ↔ y ∈ l) ∧ r.length ≤ l.length) ∧ Ev (fun k => spec_SortList.f k l) r := by
 unfold spec_SortList.f
 exact spec_SortList_l0 l hl l.length 0 [] (by omega) List.Pairwise.nil (by simp) (fun y => by simp)
theorem spec_SortList_ev (l : List Int) (hl : l.length ≤ 1048576) : ∃ r, (asc r ∧ (∀ y, y ∈ r ↔ y ∈ l) ∧ r.length ≤ l.length) ∧ Ev (fun k => spec_SortList.f k l) r := spec_SortList_big l (by omega)
/-! minimal: spec.l3Minimal -/
/-- The number with the index k is no sum of those before it. -/
def kept (l : List Int) (k : Nat) : Prop := k = 0 ∨ ¬ Sums (l.take k) (l.getD k 0)
noncomputable def keptB (l : List Int) (k : Nat) : Bool := @decide (kept l k) (Classical.propDecidable _)
theorem keptB_iff (l : List Int) (k : Nat) : keptB l k = true ↔ kept l k := by unfold keptB; exact @decide_eq_true_iff (kept l k) (Classical.propDecidable _)
/-- The numbers of an ascending list that are no sums of those before them. -/
noncomputable def minL (l : List Int) : List Int := ((List.range l.length).filter (keptB l)).map fun k => l.getD k 0
theorem range_getD (l : List Int) : (List.range l.length).map (fun k => l.getD k 0) = l := by
 apply List.ext_getElem
 ·simp
 ·intro i h1 h2
  rw [List.getElem_map, List.getElem_range, List.getD_eq_getElem?_getD, List.getElem?_eq_getElem h2, Option.getD_some]
theorem minL_iff (l : List Int) : minL l = l ↔ ∀ k, k < l.length → kept l k := by
 constructor
 ·intro h k hk
  have h1 : ((List.range l.length).filter (keptB l)).length = (List.range l.length).length := by
   have := congrArg List.length h
   unfold minL at this
   rw [List.length_map] at this
   rw [this, List.length_range]
  rw [List.length_filter_eq_length_iff] at h1
  exact (keptB_iff l k).1 (h1 k (List.mem_range.2 hk))
 ·intro h
  unfold minL
  rw [List.filter_eq_self.2 (fun k hk => (keptB_iff l k).2 (h k (List.mem_range.1 hk))), range_getD]
theorem minL_mem (l : List Int) (x : Int) (h : x ∈ minL l) : x ∈ l := by
 unfold minL at h
 obtain ⟨k, hk, rfl⟩ := List.mem_map.1 h
 have hk2 := List.mem_range.1 (List.mem_filter.1 hk).1
 rw [List.getD_eq_getElem?_getD, List.getElem?_eq_getElem hk2, Option.getD_some]
 exact List.getElem_mem _
theorem minL_len (l : List Int) : (minL l).length ≤ l.length := by
 unfold minL
 rw [List.length_map]
 have := List.length_filter_le (keptB l) (List.range l.length)
 rwa [List.length_range] at this
theorem getD_at (l : List Int) (k : Nat) (h : k < l.length) : l.getD k 0 = l[k] := by
 rw [List.getD_eq_getElem?_getD, List.getElem?_eq_getElem h, Option.getD_some]
theorem spec_l3Minimal_l0 (l : List Int) (hl : l.length ≤ 1048576) (hr : ∀ x ∈ l, 1 ≤ x ∧ x ≤ 2000000) : ∀ (d i : Nat), i + d = l.length →
  Ev (fun k => spec_l3Minimal.l0 k (((List.range i).filter (keptB l)).map fun k => l.getD k 0) l (i : Int)) (minL l) := by
 intro d
 induction d with
 | zero =>
  intro i hi
  obtain rfl : i = l.length := by omega
  refine Ev.one (fun k => by rw [spec_l3Minimal.l0]) ?_
  exact Ev.neg (by omega) (Ev.now _)
 | succ d ih =>
  intro i hi
  have hil : i < l.length := by omega
  have hx := hr l[i] (List.getElem_mem hil)
  have hacc : (((List.range i).filter (keptB l)).map fun k => l.getD k 0).length < 17592186044416 := by
   rw [List.length_map]
   have := List.length_filter_le (keptB l) (List.range i)
   rw [List.length_range] at this
   omega
  have step : keptB l i = true → (((List.range (i + 1)).filter (keptB l)).map fun k => l.getD k 0) = (((List.range i).filter (keptB l)).map fun k => l.getD k 0) ++ [l[i]] := by
   intro h
   rw [List.range_succ, List.filter_append, List.filter_cons_of_pos h, List.filter_nil, List.map_append, List.map_cons, List.map_nil, getD_at l i hil]
  have stay : keptB l i = false → (((List.range (i + 1)).filter (keptB l)).map fun k => l.getD k 0) = (((List.range i).filter (keptB l)).map fun k => l.getD k 0) := by
   intro h
   rw [List.range_succ, List.filter_append, List.filter_cons_of_neg (by rw [h]; decide), List.filter_nil, List.append_nil]
  have ih := ih (i + 1) (by omega)
  refine Ev.one (fun k => by rw [spec_l3Minimal.l0]) ?_
  rw [rd_at l i hil, w64_succ i (by omega), Int.toNat_natCast]
  refine Ev.pos (by omega) ?_
  by_cases h0 : i = 0
  ·subst h0
   rw [step ((keptB_iff l 0).2 (.inl rfl))] at ih
   exact Ev.pos (by omega) (Ev.pos (by omega) (Ev.pos hacc ih))
  ·obtain ⟨q, hq⟩ : ∃ q : Nat, l[i] = (q : Int) := ⟨l[i].toNat, by omega⟩
   obtain ⟨t, t1, t2, t3⟩ := spec_l3Table_ev (l.take i) q (fun x hx => (hr x (List.mem_of_mem_take hx)).1) (by rw [List.length_take]; omega) (by omega)
   rw [hq]
   rw [hq] at step
   refine Ev.neg (by omega) (Ev.pos (by omega) (Ev.pos (by omega) (Ev.bnd t3 (Ev.pos (by omega) (Ev.pos (by omega) ?_)))))
   rw [rdOf_at]
   by_cases hb : t.getD q false = true
   ·have hk : keptB l i = false := by
     rw [Bool.eq_false_iff]
     intro h
     rcases (keptB_iff l i).1 h with h | h
     ·exact h0 h
     ·rw [getD_at l i hil, hq] at h
      exact h ((t2 q (Nat.le_refl _)).1 hb)
    rw [stay hk] at ih
    exact Ev.pos hb ih
   ·have hk : keptB l i = true := (keptB_iff l i).2 (.inr (by
     rw [getD_at l i hil, hq]
     exact fun h => hb ((t2 q (Nat.le_refl _)).2 h)))
    rw [step hk] at ih
    exact Ev.neg hb (Ev.pos hacc ih)
theorem spec_l3Minimal_ev (l : List Int) (hl : l.length ≤ 1048576) (hr : ∀ x ∈ l, 1 ≤ x ∧ x ≤ 2000000) :
  ∃ s, (asc s ∧ (∀ y, y ∈ s ↔ y ∈ l) ∧ s.length ≤ l.length) ∧ Ev (fun k => spec_l3Minimal.f k l) (minL s) := by
 obtain ⟨s, s1, s2⟩ := spec_SortList_ev l hl
 refine ⟨s, s1, ?_⟩
 unfold spec_l3Minimal.f
 exact Ev.bnd s2 (spec_l3Minimal_l0 s (by have := s1.2.2; omega) (fun x hx => hr x ((s1.2.1 x).1 hx)) s.length 0 (by omega))
/-! issg: which lists are semigroups; spec.IsSemigroup and impl.IsSemigroup -/
theorem gcdS_nat (x y : Nat) (hx : x ≤ 1000000) (hy : y ≤ 1000000) : gcdS (x : Int) (y : Int) = ((Nat.gcd x y : Nat) : Int) := by
 unfold gcdS
 rw [if_pos ⟨by omega, by omega⟩]
 rfl
/-- From each number one comes to the residue of n + d, and to that of n - d. -/
structure Way (g : List Int) (a : Int) (d : Int) : Prop where
 up : ∀ n, (∃ m, Sums g m ∧ m % a = n % a) → ∃ m, Sums g m ∧ m % a = (n + d) % a
 down : ∀ n, (∃ m, Sums g m ∧ m % a = n % a) → ∃ m, Sums g m ∧ m % a = (n - d) % a
theorem Way.zero (g : List Int) (a : Int) : Way g a 0 := ⟨fun n h => by rwa [Int.add_zero], fun n h => by rwa [Int.sub_zero]⟩
theorem Way.add {g : List Int} {a d e : Int} (h : Way g a d) (k : Way g a e) : Way g a (d + e) :=
 ⟨fun n hn => by rw [← Int.add_assoc]; exact k.up _ (h.up n hn), fun n hn => by rw [show n - (d + e) = (n - d) - e from by omega]; exact k.down _ (h.down n hn)⟩
theorem Way.neg {g : List Int} {a d : Int} (h : Way g a d) : Way g a (-d) :=
 ⟨fun n hn => by have := h.down n hn; rwa [show n - d = n + -d from by omega] at this, fun n hn => by have := h.up n hn; rwa [show n + d = n - -d from by omega] at this⟩
theorem Way.mul {g : List Int} {a d : Int} (h : Way g a d) (k : Nat) : Way g a (d * (k : Int)) := by
 induction k with
 | zero => rw [show d * ((0 : Nat) : Int) = 0 from by simp]; exact Way.zero g a
 | succ k ih => rw [show d * ((k + 1 : Nat) : Int) = d * (k : Int) + d from by rw [Int.natCast_add, Int.mul_add]; simp]; exact ih.add h
theorem Way.mem {g : List Int} {a : Nat} {x : Int} (ha : 1 ≤ a) (hx : x ∈ g) : Way g (a : Int) x := by
 have up : ∀ n, (∃ m, Sums g m ∧ m % (a : Int) = n % (a : Int)) → ∃ m, Sums g m ∧ m % (a : Int) = (n + x) % (a : Int) := by
  rintro n ⟨m, h1, h2⟩
  exact ⟨m + x, h1.add hx, by rw [Int.add_emod, h2, ← Int.add_emod]⟩
 refine ⟨up, fun n hn => ?_⟩
 obtain ⟨m, h1, h2⟩ := hn
 refine ⟨m + ((a - 1 : Nat) : Int) * x, h1.both (Sums.times hx (a - 1)), ?_⟩
 have e : n - x + (a : Int) * x = n + ((a - 1 : Nat) : Int) * x := by
  obtain ⟨b, rfl⟩ : ∃ b, a = b + 1 := ⟨a - 1, by omega⟩
  rw [Nat.add_sub_cancel, Int.natCast_add, Int.add_mul]
  simp
  omega
 rw [Int.add_emod, h2, ← Int.add_emod, ← e, Int.add_mul_emod_self_left]
theorem Way.gcd {g : List Int} {a : Int} (x y : Nat) : Way g a (x : Int) → Way g a (y : Int) → Way g a ((Nat.gcd x y : Nat) : Int) := by
 induction x, y using Nat.gcd.induction with
 | H0 y => intro _ h; rw [Nat.gcd_zero_left]; exact h
 | H1 x y hx ih =>
  intro h1 h2
  rw [Nat.gcd_rec]
  refine ih ?_ h1
  have e : ((y % x : Nat) : Int) = (y : Int) + -((x : Int) * ((y / x : Nat) : Int)) := by
   have := Nat.mod_add_div y x
   rw [← Int.natCast_mul]
   omega
  rw [e]
  exact h2.add (h1.mul (y / x)).neg
theorem Way.list {g : List Int} {a : Int} : ∀ (l : List Int) (x : Nat), x ≤ 1000000 → (∀ y ∈ l, 1 ≤ y ∧ y ≤ 1000000) → Way g a (x : Int) → (∀ y ∈ l, Way g a y) → Way g a (l.foldl gcdS (x : Int))
 | [], x, _, _, h, _ => h
 | y :: l, x, hx, hl, h, hw => by
  have hy := hl y (List.mem_cons_self ..)
  obtain ⟨z, rfl⟩ : ∃ z : Nat, y = (z : Int) := ⟨y.toNat, by omega⟩
  rw [List.foldl_cons, gcdS_nat x z hx (by omega)]
  refine Way.list l _ ?_ (fun w hw' => hl w (List.mem_cons_of_mem _ hw')) (Way.gcd x z h (hw _ (List.mem_cons_self ..))) (fun w hw' => hw w (List.mem_cons_of_mem _ hw'))
  exact Nat.le_trans (Nat.gcd_le_right x (by omega)) (by omega)
theorem residues (g : List Int) (a : Nat) (ha : 1 ≤ a) (hg : ∀ x ∈ g, 1 ≤ x ∧ x ≤ 60) (h1 : gcdL g = 1) (i : Nat) : ∃ m, Sums g m ∧ m % (a : Int) = (i : Int) % (a : Int) := by
 have w : Way g (a : Int) 1 := by
  rw [← h1]
  exact Way.list g 0 (by omega) (fun y hy => by have := hg y hy; omega) (Way.zero g a) (fun y hy => Way.mem ha hy)
 induction i with
 | zero => exact ⟨0, Sums.zero g, by simp⟩
 | succ i ih => exact w.up _ ih
/-- The lists that generate a semigroup of this size. -/
structure SG (g : List Int) : Prop where
 len1 : 1 ≤ g.length
 len2 : g.length ≤ 12
 rng : ∀ x ∈ g, 1 ≤ x ∧ x ≤ 60
 up : asc g
 gcd1 : gcdL g = 1
 free : ∀ k, k < g.length → kept g k
 ends : ∀ n : Int, 200 ≤ n → Sums g n
theorem spec_l3Gens_l0 (l : List Int) (hl : l.length ≤ 1048576) : ∀ (d i : Nat), i + d = l.length → Ev (fun k => spec_l3Gens.l0 k l (i : Int)) (allIn (l.drop i) 1 60 && decide ((1 : Int) ≤ (l.length : Int) ∧ (l.length : Int) ≤ 20)) := by
 intro d
 induction d with
 | zero =>
  intro i hi
  rw [List.drop_eq_nil_of_le (by omega)]
  refine Ev.one (fun k => by rw [spec_l3Gens.l0]) ?_
  exact Ev.neg (by omega) (Ev.bnd (spec_l1In_ev _ _ _) (Ev.now _))
 | succ d ih =>
  intro i hi
  rw [List.drop_eq_getElem_cons (show i < l.length by omega)]
  refine Ev.one (fun k => by rw [spec_l3Gens.l0]) ?_
  rw [rd_at l i (by omega), w64_succ i (by omega)]
  refine Ev.pos (by omega) (Ev.pos (by omega) (Ev.bnd (spec_l1In_ev _ _ _) ?_))
  by_cases h : (1 : Int) ≤ l[i] ∧ l[i] ≤ 60
  ·rw [allIn_cons _ _ _ _ h]
   exact Ev.pos (decide_eq_true h) (ih (i + 1) (by omega))
  ·rw [allIn_cons_not _ _ _ _ h]
   exact Ev.neg (by rw [decide_eq_false h]; decide) (Ev.now _)
theorem spec_l3Gens_ev (l : List Int) (hl : l.length ≤ 1048576) : Ev (fun k => spec_l3Gens.f k l) (allIn l 1 60 && decide ((1 : Int) ≤ (l.length : Int) ∧ (l.length : Int) ≤ 20)) := by
 unfold spec_l3Gens.f
 exact spec_l3Gens_l0 l hl l.length 0 (by omega)
theorem impl_usable_ev (l : List Int) (hl : l.length ≤ 1048576) : Ev (fun k => impl_usable.f k l) (allIn l 1 60 && decide ((1 : Int) ≤ (l.length : Int) ∧ (l.length : Int) ≤ 20)) := by
 unfold impl_usable.f
 refine Ev.bnd (impl_within_ev _ _ _) ?_
 by_cases h : (1 : Int) ≤ (l.length : Int) ∧ (l.length : Int) ≤ 20
 ·rw [decide_eq_true h, Bool.and_true]
  exact Ev.pos rfl (Ev.bnd (impl_allWithin_ev l 1 60 (by omega)) (Ev.now _))
 ·rw [decide_eq_false h, Bool.and_false]
  exact Ev.neg (by decide) (Ev.now _)
theorem spec_l2Same_l0 (a b : List Int) (hab : a.length = b.length) (hl : a.length ≤ 1048576) : ∀ (d i : Nat), i + d = a.length → ∃ r, (r = true ↔ a.drop i = b.drop i) ∧ Ev (fun k => spec_l2Same.l0 k a b (i : Int)) r := by
 intro d
 induction d with
 | zero =>
  intro i hi
  refine ⟨true, by rw [List.drop_eq_nil_of_le (show a.length ≤ i by omega), List.drop_eq_nil_of_le (show b.length ≤ i by omega)]; simp, Ev.one (fun k => by rw [spec_l2Same.l0]) ?_⟩
  exact Ev.neg (by omega) (Ev.now _)
 | succ d ih =>
  intro i hi
  rw [List.drop_eq_getElem_cons (show i < a.length by omega), List.drop_eq_getElem_cons (show i < b.length by omega)]
  by_cases h : a[i] = b[i]
  ·obtain ⟨r, r1, r2⟩ := ih (i + 1) (by omega)
   refine ⟨r, by rw [r1, h, List.cons.injEq]; simp, Ev.one (fun k => by rw [spec_l2Same.l0]) ?_⟩
   rw [rd_at a i (by omega), rd_at b i (by omega), w64_succ i (by omega)]
   exact Ev.pos (by omega) (Ev.pos (by omega) (Ev.pos (by omega) (Ev.pos h r2)))
  ·refine ⟨false, ⟨(fun e => by cases e), fun e => absurd (List.cons.inj e).1 h⟩, Ev.one (fun k => by rw [spec_l2Same.l0]) ?_⟩
   rw [rd_at a i (by omega), rd_at b i (by omega)]
   exact Ev.pos (by omega) (Ev.pos (by omega) (Ev.pos (by omega) (Ev.neg h (Ev.now _))))
theorem spec_l2Same_ev (a b : List Int) (hl : a.length ≤ 1048576) : ∃ r, (r = true ↔ a = b) ∧ Ev (fun k => spec_l2Same.f k a b) r := by
 unfold spec_l2Same.f
 by_cases h : a.length = b.length
 ·obtain ⟨r, r1, r2⟩ := spec_l2Same_l0 a b h hl a.length 0 (by omega)
  exact ⟨r, by rw [r1]; simp, Ev.pos (by omega) r2⟩
 ·exact ⟨false, ⟨(fun e => by cases e), fun e => absurd (congrArg List.length e) h⟩, Ev.neg (by omega) (Ev.now _)⟩
theorem spec_l3Ends_l0 (g : List Int) (a : Nat) (h0 : 0 < g.length) (hg0 : rd g 0 = (a : Int)) (ha : 1 ≤ a ∧ a ≤ 60) (t : List Bool) (ht : t.length = 261) (hs : ∀ m : Nat, m ≤ 260 → (t.getD m false = true ↔ Sums g (m : Int))) :
  ∀ (d n : Nat), n + d = 200 + a → 200 ≤ n → ∃ r, (r = true ↔ ∀ m : Nat, n ≤ m → m < 200 + a → Sums g (m : Int)) ∧ Ev (fun k => spec_l3Ends.l0 k g t (n : Int)) r := by
 intro d
 have e1 : wrap64 (200 + (a : Int)) = 200 + (a : Int) := w64_of (by omega) (by omega)
 induction d with
 | zero =>
  intro n hn hn2
  refine ⟨true, ⟨fun _ m h1 h2 => by omega, fun _ => rfl⟩, Ev.one (fun k => by rw [spec_l3Ends.l0]) ?_⟩
  rw [hg0, e1]
  exact Ev.pos (by omega) (Ev.neg (by omega) (Ev.now _))
 | succ d ih =>
  intro n hn hn2
  by_cases h : t.getD n false = true
  ·obtain ⟨r, r1, r2⟩ := ih (n + 1) (by omega) (by omega)
   refine ⟨r, ?_, Ev.one (fun k => by rw [spec_l3Ends.l0]) ?_⟩
   ·rw [r1]
    exact ⟨fun q m h1 h2 => by
     by_cases e : m = n
     ·subst e; exact (hs m (by omega)).1 h
     ·exact q m (by omega) h2, fun q m h1 h2 => q m (by omega) h2⟩
   ·rw [hg0, e1, rdOf_at, w64_succ n (by omega)]
    exact Ev.pos (by omega) (Ev.pos (by omega) (Ev.pos (by omega) (Ev.pos (by omega) (Ev.pos h r2))))
  ·refine ⟨false, ⟨(fun e => by cases e), fun q => absurd ((hs n (by omega)).2 (q n (by omega) (by omega))) h⟩, Ev.one (fun k => by rw [spec_l3Ends.l0]) ?_⟩
   rw [hg0, e1, rdOf_at]
   exact Ev.pos (by omega) (Ev.pos (by omega) (Ev.pos (by omega) (Ev.pos (by omega) (Ev.neg h (Ev.now _)))))
theorem ends_iff (g : List Int) (a : Nat) (h0 : 0 < g.length) (hg0 : rd g 0 = (a : Int)) (ha : 1 ≤ a) : (∀ m : Nat, 200 ≤ m → m < 200 + a → Sums g (m : Int)) ↔ ∀ n : Int, 200 ≤ n → Sums g n := by
 have hmem : (a : Int) ∈ g := by
  have : rd g ((0 : Nat) : Int) = g[0] := rd_at g 0 h0
  rw [← hg0]
  exact this ▸ List.getElem_mem h0
 constructor
 ·intro h n hn
  obtain ⟨q, rfl⟩ : ∃ q : Nat, n = 200 + (q : Int) := ⟨(n - 200).toNat, by omega⟩
  have e : (200 : Int) + (q : Int) = ((200 + q % a : Nat) : Int) + ((q / a : Nat) : Int) * (a : Int) := by
   have := Nat.mod_add_div q a
   rw [← Int.natCast_mul, Nat.mul_comm]
   omega
  rw [e]
  exact (h (200 + q % a) (by omega) (by have := Nat.mod_lt q (show 0 < a by omega); omega)).both (Sums.times hmem _)
 ·intro h m h1 _
  exact h m (by omega)
theorem first_of (g : List Int) (h0 : 0 < g.length) (hr : ∀ x ∈ g, 1 ≤ x ∧ x ≤ 60) : ∃ a : Nat, rd g 0 = (a : Int) ∧ 1 ≤ a ∧ a ≤ 60 ∧ (a : Int) ∈ g := by
 have e : rd g ((0 : Nat) : Int) = g[0] := rd_at g 0 h0
 have h := hr g[0] (List.getElem_mem h0)
 refine ⟨g[0].toNat, ?_, by omega, by omega, ?_⟩
 ·show rd g ((0 : Nat) : Int) = _
  rw [e]; omega
 ·rw [show ((g[0].toNat : Nat) : Int) = g[0] from by omega]
  exact List.getElem_mem h0
theorem spec_l3Ends_ev (g : List Int) (h0 : 0 < g.length) (hlen : g.length ≤ 1048576) (hr : ∀ x ∈ g, 1 ≤ x ∧ x ≤ 60) : ∃ r, (r = true ↔ ∀ n : Int, 200 ≤ n → Sums g n) ∧ Ev (fun k => spec_l3Ends.f k g) r := by
 obtain ⟨a, ha, ha1, ha2, _⟩ := first_of g h0 hr
 obtain ⟨t, t1, t2, t3⟩ := spec_l3Table_ev g 260 (fun x hx => (hr x hx).1) hlen (by omega)
 obtain ⟨r, r1, r2⟩ := spec_l3Ends_l0 g a h0 ha ⟨ha1, ha2⟩ t t1 t2 a 200 (by omega) (Nat.le_refl _)
 refine ⟨r, r1.trans (ends_iff g a h0 ha ha1), ?_⟩
 unfold spec_l3Ends.f
 exact Ev.bnd t3 r2
theorem spec_IsSemigroup_ev (g : List Int) (hlen : g.length ≤ 1048576) : ∃ b, (b = true ↔ SG g) ∧ Ev (fun k => spec_IsSemigroup.f k g) b := by
 unfold spec_IsSemigroup.f
 by_cases h1 : allIn g 1 60 = true ∧ ((1 : Int) ≤ (g.length : Int) ∧ (g.length : Int) ≤ 20)
 ·have hr := (allIn_iff g 1 60).1 h1.1
  have e1 : (allIn g 1 60 && decide ((1 : Int) ≤ (g.length : Int) ∧ (g.length : Int) ≤ 20)) = true := by rw [h1.1, decide_eq_true h1.2]; rfl
  by_cases h2 : (g.length : Int) ≤ 12
  ·obtain ⟨b3, b3i, b3e⟩ := spec_IsAscending_ev g hlen
   cases b3 with
   | false => exact ⟨false, ⟨(fun e => by cases e), fun e => by have := b3i.2 e.up; cases this⟩, Ev.bnd (spec_l3Gens_ev g hlen) (Ev.pos e1 (Ev.pos h2 (Ev.bnd b3e (Ev.neg (by decide) (Ev.now _)))))⟩
   | true =>
    have hup := b3i.1 rfl
    by_cases h4 : gcdL g = 1
    ·obtain ⟨s, s1, s2⟩ := spec_l3Minimal_ev g hlen (fun x hx => by have := hr x hx; omega)
     obtain rfl : s = g := asc_uniq s g s1.1 hup s1.2.1
     obtain ⟨b5, b5i, b5e⟩ := spec_l2Same_ev (minL s) s (by have := minL_len s; omega)
     cases b5 with
     | false => exact ⟨false, ⟨(fun e => by cases e), fun e => by have := b5i.2 ((minL_iff s).2 e.free); cases this⟩, Ev.bnd (spec_l3Gens_ev s hlen) (Ev.pos e1 (Ev.pos h2 (Ev.bnd b3e (Ev.pos rfl (Ev.bnd (spec_GcdOfList_ev s hlen) (Ev.pos h4 (Ev.bnd s2 (Ev.bnd b5e (Ev.neg (by decide) (Ev.now _))))))))))⟩
     | true =>
      obtain ⟨b6, b6i, b6e⟩ := spec_l3Ends_ev s (by omega) hlen hr
      refine ⟨b6, ⟨fun e => ⟨by omega, by omega, hr, hup, h4, (minL_iff s).1 (b5i.1 rfl), b6i.1 e⟩, fun e => b6i.2 e.ends⟩, ?_⟩
      exact Ev.bnd (spec_l3Gens_ev s hlen) (Ev.pos e1 (Ev.pos h2 (Ev.bnd b3e (Ev.pos rfl (Ev.bnd (spec_GcdOfList_ev s hlen) (Ev.pos h4 (Ev.bnd s2 (Ev.bnd b5e (Ev.pos rfl (Ev.bnd b6e (Ev.now _)))))))))))
    ·exact ⟨false, ⟨(fun e => by cases e), fun e => absurd e.gcd1 h4⟩, Ev.bnd (spec_l3Gens_ev g hlen) (Ev.pos e1 (Ev.pos h2 (Ev.bnd b3e (Ev.pos rfl (Ev.bnd (spec_GcdOfList_ev g hlen) (Ev.neg h4 (Ev.now _)))))))⟩
  ·exact ⟨false, ⟨(fun e => by cases e), fun e => by have := e.len2; omega⟩, Ev.bnd (spec_l3Gens_ev g hlen) (Ev.pos e1 (Ev.neg h2 (Ev.now _)))⟩
 ·refine ⟨false, ⟨(fun e => by cases e), fun e => absurd ⟨(allIn_iff g 1 60).2 e.rng, by have := e.len1; have := e.len2; omega⟩ h1⟩, Ev.bnd (spec_l3Gens_ev g hlen) (Ev.neg (fun e => h1 ?_) (Ev.now _))⟩
  rw [Bool.and_eq_true, decide_eq_true_eq] at e
  exact e
/-- What Generates answers for numbers that can generate. -/
theorem impl_Generates_ev (g : List Int) (n : Int) (h1 : 1 ≤ g.length) (h2 : g.length ≤ 20) (hr : ∀ x ∈ g, 1 ≤ x ∧ x ≤ 60) (hn0 : 0 ≤ n) (hn1 : n ≤ 1000000) :
  ∃ b, (b = true ↔ Sums g n) ∧ Ev (fun k => impl_Generates.f k g n) b := by
 obtain ⟨a, ha, ha1, ha2, hmem⟩ := first_of g (by omega) hr
 obtain ⟨res, L, e⟩ := impl_leasts_ev g a hr (by omega) ha1 ha2
 have hlr := L.len
 obtain ⟨q, rfl⟩ : ∃ q : Nat, n = (q : Int) := ⟨n.toNat, by omega⟩
 have e1 : (allIn g 1 60 && decide ((1 : Int) ≤ (g.length : Int) ∧ (g.length : Int) ≤ 20)) = true := by rw [(allIn_iff g 1 60).2 hr, decide_eq_true (by omega)]; rfl
 have e2 : Int.tmod (q : Int) (a : Int) = ((q % a : Nat) : Int) := tmod_nat q a
 have hlt := Nat.mod_lt q (show 0 < a by omega)
 have hmod : (q : Int) % (a : Int) = ((q % a : Nat) : Int) := by simp
 have pre : ∀ b, Ev (fun _ : Nat => if rd res ((q % a : Nat) : Int) ≥ 0 then (some (decide (rd res ((q % a : Nat) : Int) ≤ (q : Int)))) else (some false)) b → Ev (fun k => impl_Generates.f k g (q : Int)) b := by
  intro b hb
  unfold impl_Generates.f
  rw [ha, e2]
  exact Ev.bnd (impl_usable_ev g (by omega)) (Ev.pos e1 (Ev.bnd (impl_within_ev _ _ _) (Ev.pos (decide_eq_true ⟨hn0, hn1⟩) (Ev.pos (by omega) (Ev.bnd e (Ev.neg (by omega) (Ev.pos (by omega) (Ev.pos (by omega) hb))))))))
 rcases L.row (q % a) hlt with ⟨h3, h4⟩ | ⟨h3, h4, h5, h6, h7⟩
 ·exact ⟨false, ⟨(fun e => by cases e), fun e => absurd hmod (h4 _ e)⟩, pre _ (Ev.neg (by omega) (Ev.now _))⟩
 ·refine ⟨decide (rd res ((q % a : Nat) : Int) ≤ (q : Int)), ?_, pre _ (Ev.pos h3 (Ev.now _))⟩
  rw [decide_eq_true_eq]
  refine ⟨fun h => ?_, fun h => h7 _ h hmod⟩
  obtain ⟨p, hp⟩ : ∃ p : Nat, rd res ((q % a : Nat) : Int) = (p : Int) := ⟨(rd res ((q % a : Nat) : Int)).toNat, by omega⟩
  rw [hp] at h h5 h6
  have h6' : p % a = q % a := by
   have : ((p % a : Nat) : Int) = ((q % a : Nat) : Int) := by rw [← h6]; simp
   omega
  have e3 : (q : Int) = (p : Int) + ((q / a - p / a : Nat) : Int) * (a : Int) := by
   have m1 := Nat.mod_add_div q a
   have m2 := Nat.mod_add_div p a
   have m3 : p / a ≤ q / a := Nat.div_le_div_right (by omega)
   obtain ⟨c, hc⟩ : ∃ c, q / a = p / a + c := ⟨q / a - p / a, by omega⟩
   rw [hc, Nat.add_sub_cancel_left, ← Int.natCast_mul]
   rw [hc, Nat.mul_add] at m1
   have : a * c = c * a := Nat.mul_comm a c
   omega
  rw [e3]
  exact h5.both (Sums.times hmem _)
theorem impl_IsSemigroup_l1 (g : List Int) (a : Nat) (h0 : 0 < g.length) (hg0 : rd g 0 = (a : Int)) (ha : 1 ≤ a ∧ a ≤ 60) (t : List Int) (ht : t.length = a) (hb : ∀ i : Nat, i < a → -1 ≤ rd t (i : Int) ∧ rd t (i : Int) ≤ 3600) :
  ∀ (d i : Nat), i + d = a → ∃ r, (r = true ↔ ∀ j : Nat, i ≤ j → j < a → rd t (j : Int) - (a : Int) < 200) ∧ Ev (fun k => impl_IsSemigroup.l1 k g t (a : Int) (i : Int)) r := by
 intro d
 induction d with
 | zero =>
  intro i hi
  refine ⟨true, ⟨fun _ j h1 h2 => by omega, fun _ => rfl⟩, Ev.one (fun k => by rw [impl_IsSemigroup.l1]) ?_⟩
  exact Ev.neg (by omega) (Ev.now _)
 | succ d ih =>
  intro i hi
  have hbi := hb i (by omega)
  have e1 : wrap64 (rd t (i : Int) - (a : Int)) = rd t (i : Int) - (a : Int) := w64_of (by omega) (by omega)
  by_cases h : rd t (i : Int) - (a : Int) ≥ 200
  ·refine ⟨false, ⟨(fun e => by cases e), fun q => by have := q i (Nat.le_refl _) (by omega); omega⟩, Ev.one (fun k => by rw [impl_IsSemigroup.l1]) ?_⟩
   rw [hg0, e1]
   exact Ev.pos (by omega) (Ev.pos (by omega) (Ev.pos (by omega) (Ev.pos (by omega) (Ev.pos h (Ev.now _)))))
  ·obtain ⟨r, r1, r2⟩ := ih (i + 1) (by omega)
   refine ⟨r, ?_, Ev.one (fun k => by rw [impl_IsSemigroup.l1]) ?_⟩
   ·rw [r1]
    exact ⟨fun q j h1 h2 => by
     by_cases e : j = i
     ·subst e; omega
     ·exact q j (by omega) h2, fun q j h1 h2 => q j (by omega) h2⟩
   ·rw [hg0, e1, w64_succ i (by omega)]
    exact Ev.pos (by omega) (Ev.pos (by omega) (Ev.pos (by omega) (Ev.pos (by omega) (Ev.neg h r2))))
theorem least_ends (g : List Int) (a : Nat) (t : List Int) (L : Least g a t) (ha1 : 1 ≤ a) (ha : (a : Int) ∈ g) (hg : ∀ x ∈ g, 1 ≤ x ∧ x ≤ 60) (h1 : gcdL g = 1) :
  (∀ j : Nat, 0 ≤ j → j < a → rd t (j : Int) - (a : Int) < 200) ↔ ∀ m : Nat, 200 ≤ m → m < 200 + a → Sums g (m : Int) := by
 constructor
 ·intro h m hm1 hm2
  have hlt := Nat.mod_lt m (show 0 < a by omega)
  have hm := h (m % a) (by omega) hlt
  rcases L.row (m % a) hlt with ⟨_, h4⟩ | ⟨h3, h4, h5, h6, h7⟩
  ·obtain ⟨q, q1, q2⟩ := residues g a ha1 hg h1 m
   exact absurd (q2.trans (by simp)) (h4 q q1)
  ·obtain ⟨p, hp⟩ : ∃ p : Nat, rd t ((m % a : Nat) : Int) = (p : Int) := ⟨(rd t ((m % a : Nat) : Int)).toNat, by omega⟩
   rw [hp] at h5 h6 hm
   have h6' : p % a = m % a := by
    have : ((p % a : Nat) : Int) = ((m % a : Nat) : Int) := by rw [← h6]; simp
    omega
   have m1 := Nat.mod_add_div m a
   have m2 := Nat.mod_add_div p a
   have m3 : p / a ≤ m / a := by
    rcases Nat.lt_or_ge (m / a) (p / a) with hlt2 | hge
    ·obtain ⟨c, hc⟩ : ∃ c, p / a = m / a + 1 + c := ⟨p / a - m / a - 1, by omega⟩
     rw [hc, Nat.mul_add, Nat.mul_add] at m2
     omega
    ·exact hge
   have e3 : (m : Int) = (p : Int) + ((m / a - p / a : Nat) : Int) * (a : Int) := by
    obtain ⟨c, hc⟩ : ∃ c, m / a = p / a + c := ⟨m / a - p / a, by omega⟩
    rw [hc, Nat.add_sub_cancel_left, ← Int.natCast_mul]
    rw [hc, Nat.mul_add] at m1
    have : a * c = c * a := Nat.mul_comm a c
    omega
   rw [e3]
   exact h5.both (Sums.times ha _)
 ·intro h j _ hj
  rcases L.row j hj with ⟨h3, _⟩ | ⟨h3, h4, h5, h6, h7⟩
  ·omega
  ·-- the one number of the range with this remainder
   obtain ⟨m, m1, m2, m3⟩ : ∃ m : Nat, 200 ≤ m ∧ m < 200 + a ∧ m % a = j := by
    by_cases c : 200 % a ≤ j
    ·refine ⟨200 + (j - 200 % a), by omega, by omega, ?_⟩
     have := Nat.mod_add_div 200 a
     rw [show 200 + (j - 200 % a) = j + a * (200 / a) from by omega, Nat.add_mul_mod_self_left, Nat.mod_eq_of_lt hj]
    ·have hlt := Nat.mod_lt 200 (show 0 < a by omega)
     refine ⟨200 + (a + j - 200 % a), by omega, by omega, ?_⟩
     have := Nat.mod_add_div 200 a
     rw [show 200 + (a + j - 200 % a) = j + a * (200 / a + 1) from by rw [Nat.mul_add]; omega, Nat.add_mul_mod_self_left, Nat.mod_eq_of_lt hj]
   have := h7 m (h m m1 m2) (by rw [← m3]; simp)
   omega
theorem impl_IsSemigroup_l0 (g : List Int) (hl : 1 ≤ g.length) (hl2 : g.length ≤ 12) (hr : ∀ x ∈ g, 1 ≤ x ∧ x ≤ 60) (h1 : gcdL g = 1) :
  ∀ (d i : Nat), i + d = g.length → 1 ≤ i → ∃ r, (r = true ↔ (∀ k, i ≤ k → k < g.length → kept g k) ∧ ∀ n : Int, 200 ≤ n → Sums g n) ∧ Ev (fun k => impl_IsSemigroup.l0 k g (i : Int)) r := by
 intro d
 induction d with
 | zero =>
  intro i hi _
  obtain ⟨a, ha, ha1, ha2, hmem⟩ := first_of g (by omega) hr
  obtain ⟨t, L, e⟩ := impl_leasts_ev g a hr (by omega) ha1 ha2
  have hlt := L.len
  obtain ⟨r, r1, r2⟩ := impl_IsSemigroup_l1 g a (by omega) ha ⟨ha1, ha2⟩ t L.len (fun i hi => by rcases L.row i hi with ⟨h3, _⟩ | ⟨h3, h4, _⟩ <;> omega) a 0 (by omega)
  refine ⟨r, ?_, Ev.one (fun k => by rw [impl_IsSemigroup.l0]) ?_⟩
  ·rw [r1, least_ends g a t L ha1 hmem hr h1, ends_iff g a (by omega) ha ha1]
   exact ⟨fun h => ⟨fun k h1 h2 => by omega, h⟩, fun h => h.2⟩
  ·rw [ha]
   refine Ev.neg (by omega) (Ev.pos (by omega) (Ev.bnd e ?_))
   rw [hlt]
   exact r2
 | succ d ih =>
  intro i hi h2
  have hil : i < g.length := by omega
  have hx := hr g[i] (List.getElem_mem hil)
  obtain ⟨b, b1, b2⟩ := impl_Generates_ev (g.take i) g[i] (by rw [List.length_take]; omega) (by rw [List.length_take]; omega) (fun x hx => hr x (List.mem_of_mem_take hx)) (by omega) (by omega)
  cases b with
  | true =>
   refine ⟨false, ⟨(fun e => by cases e), fun e => ?_⟩, Ev.one (fun k => by rw [impl_IsSemigroup.l0]) ?_⟩
   ·rcases e.1 i (Nat.le_refl _) hil with h | h
    ·omega
    ·rw [getD_at g i hil] at h
     exact absurd (b1.1 rfl) h
   ·rw [rd_at g i hil, Int.toNat_natCast]
    exact Ev.pos (by omega) (Ev.pos (by omega) (Ev.pos (by omega) (Ev.bnd b2 (Ev.pos rfl (Ev.now _)))))
  | false =>
   obtain ⟨r, r1, r2⟩ := ih (i + 1) (by omega) (by omega)
   refine ⟨r, ?_, Ev.one (fun k => by rw [impl_IsSemigroup.l0]) ?_⟩
   ·rw [r1]
    refine ⟨fun e => ⟨fun k k1 k2 => ?_, e.2⟩, fun e => ⟨fun k k1 k2 => e.1 k (by omega) k2, e.2⟩⟩
    by_cases ek : k = i
    ·subst ek
     refine .inr ?_
     rw [getD_at g k hil]
     exact fun h => by have := b1.2 h; cases this
    ·exact e.1 k (by omega) k2
   ·rw [rd_at g i hil, Int.toNat_natCast, w64_succ i (by omega)]
    exact Ev.pos (by omega) (Ev.pos (by omega) (Ev.pos (by omega) (Ev.bnd b2 (Ev.neg (by decide) r2))))
theorem impl_IsSemigroup_ev (g : List Int) (hlen : g.length ≤ 1048576) : ∃ b, (b = true ↔ SG g) ∧ Ev (fun k => impl_IsSemigroup.f k g) b := by
 have stop : ∀ x, Ev (fun k => impl_IsSemigroup.j0 k g true) x ↔ x = false := by
  intro x
  have h : Ev (fun k => impl_IsSemigroup.j0 k g true) false := by
   refine Ev.one (fun k => by rw [impl_IsSemigroup.j0]) ?_
   exact Ev.pos rfl (Ev.now _)
  exact ⟨fun e => Ev.uniq e h, fun e => by rw [e]; exact h⟩
 have stop := (stop false).2 rfl
 unfold impl_IsSemigroup.f
 by_cases h1 : (1 : Int) ≤ (g.length : Int) ∧ (g.length : Int) ≤ 12
 ·by_cases h2 : allIn g 1 60 = true
  ·have hr := (allIn_iff g 1 60).1 h2
   obtain ⟨b3, b3i, b3e⟩ := impl_IsAscending_ev g hlen
   cases b3 with
   | false => exact ⟨false, ⟨(fun e => by cases e), fun e => by have := b3i.2 e.up; cases this⟩, Ev.bnd (impl_within_ev _ _ _) (Ev.pos (decide_eq_true h1) (Ev.bnd (impl_allWithin_ev g 1 60 (by omega)) (Ev.pos h2 (Ev.bnd b3e (Ev.neg (by decide) stop)))))⟩
   | true =>
    have hup := b3i.1 rfl
    by_cases h4 : gcdL g = 1
    ·obtain ⟨r, r1, r2⟩ := impl_IsSemigroup_l0 g (by omega) (by omega) hr h4 (g.length - 1) 1 (by omega) (by omega)
     refine ⟨r, ⟨fun e => ⟨by omega, by omega, hr, hup, h4, fun k hk => ?_, (r1.1 e).2⟩, fun e => r1.2 ⟨fun k _ hk => e.free k hk, e.ends⟩⟩, ?_⟩
     ·by_cases e0 : k = 0
      ·exact .inl e0
      ·exact (r1.1 e).1 k (by omega) hk
     ·refine Ev.bnd (impl_within_ev _ _ _) (Ev.pos (decide_eq_true h1) (Ev.bnd (impl_allWithin_ev g 1 60 (by omega)) (Ev.pos h2 (Ev.bnd b3e (Ev.pos rfl (Ev.bnd (impl_GcdOfList_ev g hlen) ?_))))))
      refine Ev.one (fun k => by rw [impl_IsSemigroup.j0]) ?_
      exact Ev.neg (by rw [h4]; decide) r2
    ·refine ⟨false, ⟨(fun e => by cases e), fun e => absurd e.gcd1 h4⟩, Ev.bnd (impl_within_ev _ _ _) (Ev.pos (decide_eq_true h1) (Ev.bnd (impl_allWithin_ev g 1 60 (by omega)) (Ev.pos h2 (Ev.bnd b3e (Ev.pos rfl (Ev.bnd (impl_GcdOfList_ev g hlen) ?_))))))⟩
     rw [show (gcdL g != 1) = true from by simpa using h4]
     exact stop
  ·exact ⟨false, ⟨(fun e => by cases e), fun e => absurd ((allIn_iff g 1 60).2 e.rng) h2⟩, Ev.bnd (impl_within_ev _ _ _) (Ev.pos (decide_eq_true h1) (Ev.bnd (impl_allWithin_ev g 1 60 (by omega)) (Ev.neg h2 stop)))⟩
 ·exact ⟨false, ⟨(fun e => by cases e), fun e => absurd ⟨by have := e.len1; omega, by have := e.len2; omega⟩ h1⟩, Ev.bnd (impl_within_ev _ _ _) (Ev.neg (by rw [decide_eq_false h1]; decide) stop)⟩
/-! shell: two bools that tell the same -/
theorem bool_same {b c : Bool} {p : Prop} (h : b = true ↔ p) (k : c = true ↔ p) : b = c := by
 cases b <;> cases c
 ·rfl
 ·exact absurd (h.2 (k.1 rfl)) (by decide)
 ·exact absurd (k.2 (h.1 rfl)) (by decide)
 ·rfl
/-- Both sides tell the same of every list: whether it is a semigroup. -/
theorem sg_both (g : List Int) (hlen : g.length ≤ 1048576) : ∃ b, (b = true ↔ SG g) ∧ Ev (fun k => spec_IsSemigroup.f k g) b ∧ Ev (fun k => impl_IsSemigroup.f k g) b := by
 obtain ⟨b, b1, b2⟩ := spec_IsSemigroup_ev g hlen
 obtain ⟨c, c1, c2⟩ := impl_IsSemigroup_ev g hlen
 obtain rfl := bool_same b1 c1
 exact ⟨b, b1, b2, c2⟩
/-! leastle: the least numbers and the sums -/
theorem least_le_iff (g : List Int) (a : Nat) (t : List Int) (L : Least g a t) (ha1 : 1 ≤ a) (ha : (a : Int) ∈ g) (hg : ∀ x ∈ g, 1 ≤ x ∧ x ≤ 60) (h1 : gcdL g = 1) (q : Nat) :
  rd t ((q % a : Nat) : Int) ≤ (q : Int) ↔ Sums g (q : Int) := by
 have hlt := Nat.mod_lt q (show 0 < a by omega)
 have hmod : (q : Int) % (a : Int) = ((q % a : Nat) : Int) := by simp
 rcases L.row (q % a) hlt with ⟨h3, h4⟩ | ⟨h3, h4, h5, h6, h7⟩
 ·obtain ⟨m, m1, m2⟩ := residues g a ha1 hg h1 q
  exact absurd (m2.trans hmod) (h4 m m1)
 ·refine ⟨fun h => ?_, fun h => h7 _ h hmod⟩
  obtain ⟨p, hp⟩ : ∃ p : Nat, rd t ((q % a : Nat) : Int) = (p : Int) := ⟨(rd t ((q % a : Nat) : Int)).toNat, by omega⟩
  rw [hp] at h h5 h6
  have h6' : p % a = q % a := by
   have : ((p % a : Nat) : Int) = ((q % a : Nat) : Int) := by rw [← h6]; simp
   omega
  have e3 : (q : Int) = (p : Int) + ((q / a - p / a : Nat) : Int) * (a : Int) := by
   have m1 := Nat.mod_add_div q a
   have m2 := Nat.mod_add_div p a
   have m3 : p / a ≤ q / a := Nat.div_le_div_right (by omega)
   obtain ⟨c, hc⟩ : ∃ c, q / a = p / a + c := ⟨q / a - p / a, by omega⟩
   rw [hc, Nat.add_sub_cancel_left, ← Int.natCast_mul]
   rw [hc, Nat.mul_add] at m1
   have : a * c = c * a := Nat.mul_comm a c
   omega
  rw [e3]
  exact h5.both (Sums.times ha _)
/-! spechas: spec.l3Has -/
theorem spec_l3Has_ev (g : List Int) (h : SG g) (n : Int) : ∃ b, (b = true ↔ Sums g n ∧ (n ≠ 0 ∨ n = 0)) ∧ Ev (fun k => spec_l3Has.f k g n) b := by
 have hp : ∀ x ∈ g, 1 ≤ x := fun x hx => (h.rng x hx).1
 have := h.len2
 unfold spec_l3Has.f
 by_cases h1 : n < 0
 ·exact ⟨decide (n > 0), ⟨fun e => by simp at e; omega, fun e => by have := e.1.nonneg hp; omega⟩, Ev.pos h1 (Ev.now _)⟩
 ·by_cases h2 : n ≥ 200
  ·exact ⟨decide (n > 0), ⟨fun _ => ⟨h.ends n h2, by omega⟩, fun _ => by simp; omega⟩, Ev.neg h1 (Ev.pos h2 (Ev.now _))⟩
  ·obtain ⟨q, rfl⟩ : ∃ q : Nat, n = (q : Int) := ⟨n.toNat, by omega⟩
   obtain ⟨t, t1, t2, t3⟩ := spec_l3Table_ev g q hp (by omega) (by omega)
   refine ⟨t.getD q false, ?_, ?_⟩
   ·rw [t2 q (Nat.le_refl _)]
    exact ⟨fun e => ⟨e, by omega⟩, fun e => e.1⟩
   ·refine Ev.neg h1 (Ev.neg h2 (Ev.bnd t3 (Ev.pos (by omega) (Ev.pos (by omega) ?_))))
    rw [rdOf_at]
    exact Ev.now _
/-! semig: sz, to, eq, mark of a semigroup -/
theorem szSemigroup_in (g : List Int) (hm : g.length ≤ maxLen) (h : (g.length : Int) ≤ 1048576) : Ev (fun _ => laws_szSemigroup.f g 1048576) (1048576 - (g.length : Int)) := by
 unfold laws_szSemigroup.f
 exact Ev.bnd (szIntS_in g _ (by omega) (by omega) hm h) (Ev.neg (by omega) (Ev.now _))
theorem szSemigroup_out (g : List Int) (hm : g.length ≤ maxLen) (h : ¬ (g.length : Int) ≤ 1048576) : Ev (fun _ => laws_szSemigroup.f g 1048576) (-1) := by
 unfold laws_szSemigroup.f
 exact Ev.bnd (szIntS_out g _ (by omega) (by omega) hm h) (Ev.pos (by omega) (Ev.now _))
theorem toSemigroup_ev (g : List Int) (h : g.length ≤ 35184372088832) : Ev (fun k => laws_toSemigroup.f k g) g := by
 unfold laws_toSemigroup.f
 exact Ev.bnd (toIntS_ev g h) (Ev.now _)
theorem eqSemigroup_ev (g : List Int) (h : g.length ≤ 35184372088832) : Ev (fun k => laws_eqSemigroup.f k g g) true := by
 unfold laws_eqSemigroup.f
 exact Ev.bnd (eqIntS_ev g h) (Ev.pos rfl (Ev.now _))
theorem szSemigroup_inn (g : List Int) (x : Int) (h0 : 0 ≤ x) (h1 : x ≤ 1048576) (hm : g.length ≤ maxLen) (h : (g.length : Int) ≤ x) : Ev (fun _ => laws_szSemigroup.f g x) (x - (g.length : Int)) := by
 unfold laws_szSemigroup.f
 exact Ev.bnd (szIntS_in g _ h0 h1 hm h) (Ev.neg (by omega) (Ev.now _))
theorem szSemigroup_outt (g : List Int) (x : Int) (h0 : 0 ≤ x) (h1 : x ≤ 1048576) (hm : g.length ≤ maxLen) (h : ¬ (g.length : Int) ≤ x) : Ev (fun _ => laws_szSemigroup.f g x) (-1) := by
 unfold laws_szSemigroup.f
 exact Ev.bnd (szIntS_out g _ h0 h1 hm h) (Ev.pos (by omega) (Ev.now _))
/-! marksg: markSemigroup -/
theorem markSemigroup_ev (g : List Int) (x : Int) (hg : g.length ≤ 1048576) (h0 : -1 ≤ x) (h1 : x ≤ 1099511627776) : Ev (fun k => laws_markSemigroup.f k g x) (x + (g.length : Int), marks g x) := by
 unfold laws_markSemigroup.f
 exact Ev.bnd (markIntS_ev g x (by omega) h0 (by omega)) (Ev.now _)
/-! elems: tables of elements, of both sides -/
noncomputable def elB (g : List Int) (n : Int) : Bool := @decide (Sums g n) (Classical.propDecidable _)
theorem elB_iff (g : List Int) (n : Int) : elB g n = true ↔ Sums g n := by unfold elB; exact @decide_eq_true_iff (Sums g n) (Classical.propDecidable _)
theorem elB_of {g : List Int} {n : Int} {b : Bool} (h : b = true ↔ Sums g n) : b = elB g n := bool_same h (elB_iff g n)
/-- Of each number below n whether it is a sum. -/
noncomputable def tblL (g : List Int) (n : Nat) : List Bool := (List.range n).map fun m : Nat => elB g (m : Int)
theorem tblL_length (g : List Int) (n : Nat) : (tblL g n).length = n := by simp [tblL]
theorem tblL_at (g : List Int) (n m : Nat) (h : m < n) : (tblL g n).getD m false = elB g (m : Int) := by
 unfold tblL
 rw [List.getD_eq_getElem?_getD, List.getElem?_map, List.getElem?_range h]
 rfl
theorem rdOf_tblL (g : List Int) (n m : Nat) (h : m < n) : rdOf false (tblL g n) (m : Int) = elB g (m : Int) := by rw [rdOf_at, tblL_at g n m h]
theorem tbl_eq (g : List Int) (n : Nat) (t : List Bool) (h1 : t.length = n) (h2 : ∀ m : Nat, m < n → t.getD m false = elB g (m : Int)) : t = tblL g n := by
 apply List.ext_getElem
 ·rw [h1, tblL_length]
 ·intro i hi hi2
  have a := h2 i (by omega)
  have b := tblL_at g n i (by omega)
  rw [List.getD_eq_getElem?_getD, List.getElem?_eq_getElem hi, Option.getD_some] at a
  rw [List.getD_eq_getElem?_getD, List.getElem?_eq_getElem hi2, Option.getD_some] at b
  rw [a, b]
theorem spec_tbl_ev (g : List Int) (most : Nat) (hg : ∀ x ∈ g, 1 ≤ x) (hlen : g.length ≤ 1048576) (hm : most ≤ 2000000) : Ev (fun k => spec_l3Table.f k g (most : Int)) (tblL g (most + 1)) := by
 obtain ⟨t, t1, t2, t3⟩ := spec_l3Table_ev g most hg hlen hm
 rw [← tbl_eq g (most + 1) t t1 (fun m hm => elB_of (t2 m (by omega)))]
 exact t3
/-- What is picked of the numbers below n. -/
def pick {α : Type} (p : Nat → Bool) (f : Nat → α) (n : Nat) : List α := ((List.range n).filter p).map f
theorem pick_pos {α : Type} (p : Nat → Bool) (f : Nat → α) (n : Nat) (h : p n = true) : pick p f (n + 1) = pick p f n ++ [f n] := by
 unfold pick
 rw [List.range_succ, List.filter_append, List.filter_cons_of_pos h, List.filter_nil, List.map_append, List.map_cons, List.map_nil]
theorem pick_neg {α : Type} (p : Nat → Bool) (f : Nat → α) (n : Nat) (h : p n = false) : pick p f (n + 1) = pick p f n := by
 unfold pick
 rw [List.range_succ, List.filter_append, List.filter_cons_of_neg (by rw [h]; decide), List.filter_nil, List.append_nil]
theorem pick_len {α : Type} (p : Nat → Bool) (f : Nat → α) (n : Nat) : (pick p f n).length ≤ n := by
 unfold pick
 rw [List.length_map]
 have := List.length_filter_le p (List.range n)
 rwa [List.length_range] at this
theorem impl_table_l0 (g : List Int) (hS : SG g) (a : Nat) (ha : rd g 0 = (a : Int)) (ha1 : 1 ≤ a) (hmem : (a : Int) ∈ g) (t : List Int) (L : Least g a t) (n : Nat) (hn : n ≤ 2000000) :
  ∀ (d i : Nat) (xs : List Bool), i + d = n → xs.length = n → (∀ m : Nat, m < i → xs.getD m false = elB g (m : Int)) → Ev (fun k => impl_table.l0 k t xs (n : Int) (i : Int) g) (tblL g n) := by
 have hl := hS.len1
 have hlt := L.len
 intro d
 induction d with
 | zero =>
  intro i xs hi hx hs
  rw [← tbl_eq g n xs hx (fun m hm => hs m (by omega))]
  refine Ev.one (fun k => by rw [impl_table.l0]) ?_
  exact Ev.neg (by omega) (Ev.now _)
 | succ d ih =>
  intro i xs hi hx hs
  have hlt2 := Nat.mod_lt i (show 0 < a by omega)
  refine Ev.one (fun k => by rw [impl_table.l0]) ?_
  rw [ha, tmod_nat, w64_succ i (by omega), Int.toNat_natCast]
  refine Ev.pos (by omega) (Ev.pos (by omega) (Ev.neg (by omega) (Ev.pos (by omega) (Ev.pos (by omega) (Ev.pos (by omega) (Ev.pos (by omega) (ih (i + 1) _ (by omega) (by rw [List.length_set]; exact hx) (fun m hm => ?_))))))))
  by_cases e : m = i
  ·subst e
   rw [getD_set_eq _ _ _ _ (by omega)]
   refine elB_of ?_
   rw [decide_eq_true_eq]
   exact least_le_iff g a t L ha1 hmem hS.rng hS.gcd1 m
  ·rw [getD_set_ne _ _ _ _ _ (by omega)]
   exact hs m (by omega)
theorem impl_table_ev (g : List Int) (hS : SG g) (n : Nat) (hn : n ≤ 1000000) : Ev (fun k => impl_table.f k g (n : Int)) (tblL g (n + 1)) := by
 have hl1 := hS.len1
 have hl2 := hS.len2
 obtain ⟨a, ha, ha1, ha2, hmem⟩ := first_of g (by omega) hS.rng
 obtain ⟨t, L, e⟩ := impl_leasts_ev g a hS.rng (by omega) ha1 ha2
 unfold impl_table.f
 rw [ha, w64_succ n (by omega), Int.toNat_natCast]
 refine Ev.pos (by omega) (Ev.bnd e (Ev.pos (by omega) (Ev.pos (by omega) (Ev.some ?_))))
 rw [List.length_replicate]
 exact impl_table_l0 g hS a ha ha1 hmem t L (n + 1) (by omega) (n + 1) 0 _ (by omega) List.length_replicate (fun m hm => by omega)
/-! gapl: the gaps of a semigroup -/
noncomputable def gapL (g : List Int) : List Int := pick (fun n => !elB g (n : Int)) (fun n => (n : Int)) 200
theorem gapL_len (g : List Int) : (gapL g).length ≤ 200 := pick_len _ _ _
theorem gapL_mem (g : List Int) (x : Int) : x ∈ gapL g ↔ 0 ≤ x ∧ x < 200 ∧ ¬ Sums g x := by
 unfold gapL pick
 rw [List.mem_map]
 constructor
 ·rintro ⟨m, hm, rfl⟩
  rw [List.mem_filter, List.mem_range] at hm
  refine ⟨by omega, by omega, fun h => ?_⟩
  rw [(elB_iff g _).2 h] at hm
  exact absurd hm.2 (by decide)
 ·rintro ⟨h0, h1, h2⟩
  refine ⟨x.toNat, ?_, by omega⟩
  rw [List.mem_filter, List.mem_range]
  refine ⟨by omega, ?_⟩
  rw [show ((x.toNat : Nat) : Int) = x from by omega]
  cases hb : elB g x with
  | true => exact absurd ((elB_iff g x).1 hb) h2
  | false => rfl
/-- What Gaps answers. -/
noncomputable def gapsS (b : Bool) (g : List Int) : List Int := if b = true then gapL g else []
theorem gapsS_len (b : Bool) (g : List Int) : (gapsS b g).length ≤ 200 := by
 unfold gapsS
 split
 ·exact gapL_len g
 ·simp
/-- The greatest gap; -1 if there is none. -/
def lastS (l : List Int) : Int := if l.length = 0 then -1 else rd l ((l.length - 1 : Nat) : Int)
theorem gapsS_mem (b : Bool) (g : List Int) : ∀ x ∈ gapsS b g, 0 ≤ x ∧ x < 200 := by
 intro x hx
 unfold gapsS at hx
 cases b with
 | true =>
  rw [if_pos rfl] at hx
  have := (gapL_mem g x).1 hx
  omega
 | false =>
  rw [if_neg (by decide)] at hx
  simp at hx
theorem lastS_gaps (b : Bool) (g : List Int) : -1 ≤ lastS (gapsS b g) ∧ lastS (gapsS b g) ≤ 199 := by
 unfold lastS
 split
 ·omega
 ·rename_i h
  rw [rd_at _ _ (by omega)]
  have := gapsS_mem b g _ (List.getElem_mem (show (gapsS b g).length - 1 < (gapsS b g).length by omega))
  omega
/-! gaps: Gaps of the program -/
theorem impl_Gaps_l0 (g : List Int) (hS : SG g) : ∀ (d i : Nat), i + d = 201 → Ev (fun k => impl_Gaps.l0 k (pick (fun n => !elB g (n : Int)) (fun n => (n : Int)) i) (tblL g 201) 201 (i : Int)) (gapL g) := by
 intro d
 induction d with
 | zero =>
  intro i hi
  obtain rfl : i = 201 := by omega
  refine Ev.one (fun k => by rw [impl_Gaps.l0]) ?_
  rw [pick_neg _ _ 200 (by rw [show elB g ((200 : Nat) : Int) = true from (elB_iff g _).2 (hS.ends _ (by omega))]; rfl)]
  exact Ev.neg (by omega) (Ev.now _)
 | succ d ih =>
  intro i hi
  have ih := ih (i + 1) (by omega)
  have hl := pick_len (fun n => !elB g (n : Int)) (fun n => (n : Int)) i
  have ht := tblL_length g 201
  refine Ev.one (fun k => by rw [impl_Gaps.l0]) ?_
  rw [rdOf_tblL g 201 i (by omega), w64_succ i (by omega)]
  cases hb : elB g (i : Int) with
  | true =>
   rw [pick_neg _ _ i (by rw [hb]; rfl)] at ih
   exact Ev.pos (by omega) (Ev.pos (by omega) (Ev.pos (by omega) (Ev.pos rfl ih)))
  | false =>
   rw [pick_pos _ _ i (by rw [hb]; rfl)] at ih
   exact Ev.pos (by omega) (Ev.pos (by omega) (Ev.pos (by omega) (Ev.neg (by decide) (Ev.pos (by omega) ih))))
theorem impl_gaps_ev (g : List Int) (hlen : g.length ≤ 1048576) : ∃ b, (b = true ↔ SG g) ∧ Ev (fun k => impl_Gaps.f k g) (gapsS b g) := by
 obtain ⟨b, b1, b3⟩ := impl_IsSemigroup_ev g hlen
 refine ⟨b, b1, ?_⟩
 unfold impl_Gaps.f gapsS
 cases b with
 | false => exact Ev.bnd b3 (Ev.neg (by decide) (Ev.now _))
 | true =>
  have hS := b1.1 rfl
  refine Ev.bnd b3 (Ev.pos rfl (Ev.bnd (impl_table_ev g hS 200 (by omega)) ?_))
  rw [tblL_length]
  exact impl_Gaps_l0 g hS 201 0 (by omega)
/-! specgaps: spec.l4Gaps -/
theorem spec_l4Gaps_l0 (g : List Int) : ∀ (d i : Nat), i + d = 200 → Ev (fun k => spec_l4Gaps.l0 k (pick (fun n => !elB g (n : Int)) (fun n => (n : Int)) i) (tblL g 201) (i : Int)) (gapL g) := by
 intro d
 induction d with
 | zero =>
  intro i hi
  obtain rfl : i = 200 := by omega
  refine Ev.one (fun k => by rw [spec_l4Gaps.l0]) ?_
  exact Ev.neg (by omega) (Ev.now _)
 | succ d ih =>
  intro i hi
  have ih := ih (i + 1) (by omega)
  have hl := pick_len (fun n => !elB g (n : Int)) (fun n => (n : Int)) i
  have ht := tblL_length g 201
  refine Ev.one (fun k => by rw [spec_l4Gaps.l0]) ?_
  rw [rdOf_tblL g 201 i (by omega), w64_succ i (by omega)]
  cases hb : elB g (i : Int) with
  | true =>
   rw [pick_neg _ _ i (by rw [hb]; rfl)] at ih
   exact Ev.pos (by omega) (Ev.pos (by omega) (Ev.pos (by omega) (Ev.pos rfl ih)))
  | false =>
   rw [pick_pos _ _ i (by rw [hb]; rfl)] at ih
   exact Ev.pos (by omega) (Ev.pos (by omega) (Ev.pos (by omega) (Ev.neg (by decide) (Ev.pos (by omega) ih))))
theorem spec_l4Gaps_ev (g : List Int) (hg : ∀ x ∈ g, 1 ≤ x) (hlen : g.length ≤ 1048576) : Ev (fun k => spec_l4Gaps.f k g) (gapL g) := by
 unfold spec_l4Gaps.f
 have e : pick (fun n => !elB g (n : Int)) (fun n => (n : Int)) 1 = [] := by
  rw [pick_neg _ _ 0 (by rw [show elB g ((0 : Nat) : Int) = true from (elB_iff g _).2 (Sums.zero g)]; rfl)]
  rfl
 have h := spec_l4Gaps_l0 g 199 1 (by omega)
 rw [e] at h
 exact Ev.bnd (spec_tbl_ev g 200 hg hlen (by omega)) h
/-! gapsboth: Gaps of both sides -/
theorem gaps_both (g : List Int) (hlen : g.length ≤ 1048576) : ∃ b, (b = true ↔ SG g) ∧ Ev (fun k => spec_Gaps.f k g) (gapsS b g) ∧ Ev (fun k => impl_Gaps.f k g) (gapsS b g) := by
 obtain ⟨b, b1, b2, b3⟩ := sg_both g hlen
 refine ⟨b, b1, ?_⟩
 unfold spec_Gaps.f impl_Gaps.f gapsS
 cases b with
 | false => exact ⟨Ev.bnd b2 (Ev.neg (by decide) (Ev.now _)), Ev.bnd b3 (Ev.neg (by decide) (Ev.now _))⟩
 | true =>
  have hS := b1.1 rfl
  refine ⟨Ev.bnd b2 (Ev.pos rfl (Ev.bnd (spec_l4Gaps_ev g (fun x hx => (hS.rng x hx).1) hlen) (Ev.now _))), Ev.bnd b3 (Ev.pos rfl (Ev.bnd (impl_table_ev g hS 200 (by omega)) ?_))⟩
  rw [tblL_length]
  exact impl_Gaps_l0 g hS 201 0 (by omega)
/-! hasnum: spec.HasNumber -/
theorem spec_HasNumber_l0 (l : List Int) (x : Int) (hl : l.length ≤ 100000000000) : ∀ (d i : Nat), i + d = l.length → ∃ b, (b = true ↔ x ∈ l.drop i) ∧ Ev (fun k => spec_HasNumber.l0 k l x (i : Int)) b := by
 intro d
 induction d with
 | zero =>
  intro i hi
  rw [List.drop_eq_nil_of_le (by omega)]
  refine ⟨false, by simp, Ev.one (fun k => by rw [spec_HasNumber.l0]) ?_⟩
  exact Ev.neg (by omega) (Ev.now _)
 | succ d ih =>
  intro i hi
  rw [List.drop_eq_getElem_cons (show i < l.length by omega)]
  by_cases h : l[i] = x
  ·refine ⟨true, ⟨fun _ => by rw [h]; exact List.mem_cons_self .., fun _ => rfl⟩, Ev.one (fun k => by rw [spec_HasNumber.l0]) ?_⟩
   rw [rd_at l i (by omega)]
   exact Ev.pos (by omega) (Ev.pos (by omega) (Ev.pos h (Ev.now _)))
  ·obtain ⟨b, b1, b2⟩ := ih (i + 1) (by omega)
   refine ⟨b, ?_, Ev.one (fun k => by rw [spec_HasNumber.l0]) ?_⟩
   ·rw [b1, List.mem_cons]
    exact ⟨fun e => .inr e, fun e => e.resolve_left (fun e2 => h e2.symm)⟩
   ·rw [rd_at l i (by omega), w64_succ i (by omega)]
    exact Ev.pos (by omega) (Ev.pos (by omega) (Ev.neg h b2))
theorem spec_HasNumber_ev (l : List Int) (x : Int) (hl : l.length ≤ 100000000000) : ∃ b, (b = true ↔ x ∈ l) ∧ Ev (fun k => spec_HasNumber.f k l x) b := by
 unfold spec_HasNumber.f
 exact spec_HasNumber_l0 l x hl l.length 0 (by omega)
end Go.Proofs.Ytlhcpbpcdicleaa.Pure
