/- Plain lemmas (base, within, allwithin, sums, table, gcd, asc, leasts, sortspec, minimal, issg, shell, dot, factor, pigeon, facboth, facsmall, hasnum): no program, no memory. -/
import Derived.Test.YtbbehmbpoilffaaC0
import Derived.Test.YtbbehmbpoilffaaC1
import Derived.Test.YtbbehmbpoilffaaC12
import Derived.Test.YtbbehmbpoilffaaC2
import Derived.Test.YtbbehmbpoilffaaC3
import Derived.Test.YtbbehmbpoilffaaC6
import Derived.Test.YtbbehmbpoilffaaC7
import Derived.Test.YtbbehmbpoilffaaC8
import Derived.Test.YtbbehmbpoilffaaC9
namespace Go.Proofs.Ytbbehmbpoilffaa.Pure
open Go.RowKit Go.Proofs.Ytbbehmbpoilffaa.C Go.Proofs.YtbbehmbpoilffaaW.PrintWords Go.Proofs.YtbbehmbpoilffaaW.PrintLast Go.Proofs.YtbbehmbpoilffaaW.PrintMore
set_option linter.unusedVariables false
set_option linter.unusedSimpArgs false
theorem Ev.pos {α : Type} {c : Prop} [Decidable c] {a b : Nat → Option α} {r : α} (h : c) (e : Ev a r) : Ev (fun k => if c then a k else b k) r :=
 Ev.congr (fun _ => if_pos h) e
theorem Ev.neg {α : Type} {c : Prop} [Decidable c] {a b : Nat → Option α} {r : α} (h : ¬ c) (e : Ev b r) : Ev (fun k => if c then a k else b k) r :=
 Ev.congr (fun _ => if_neg h) e
theorem Ev.some {α β : Type} {x : α} {f : Nat → α → Option β} {r : β} (k : Ev (fun n => f n x) r) : Ev (fun n => (some x).bind (f n)) r := k
theorem Ev.bnd {α β : Type} {g : Nat → Option α} {f : Nat → α → Option β} {a : α} {r : β} (h : Ev g a) (k : Ev (fun n => f n a) r) : Ev (fun n => (g n).bind fun t => f n t) r := Ev.bind h k
theorem Ev.one {α : Type} {g f : Nat → Option α} {r : α} (h : ∀ k, g (k + 1) = f k) (k : Ev f r) : Ev g r := Ev.step h k
theorem Ev.const {α : Type} {x : Option α} {a : α} (h : x = Option.some a) : Ev (fun _ => x) a := Ev.congr (fun _ => h) (Ev.now a)
theorem Ev.uniq {α : Type} {g : Nat → Option α} {a b : α} (h : Ev g a) (k : Ev g b) : a = b := by obtain ⟨K, h⟩ := h; obtain ⟨K', k⟩ := k; have h1 := h (max K K') (by omega); have h2 := k (max K K') (by omega); exact Option.some.inj (h1.symm.trans h2)
theorem rd_at (xs : List Int) (i : Nat) (h : i < xs.length) : rd xs (i : Int) = xs[i] := by unfold rd; rw [Int.toNat_natCast, List.getD_eq_getElem?_getD, List.getElem?_eq_getElem h, Option.getD_some]
theorem w64_of {x : Int} (h0 : -9223372036854775808 ≤ x) (h1 : x < 9223372036854775808) : wrap64 x = x := by unfold wrap64; omega
theorem w64_succ (i : Nat) (h : i < 4611686018427387904) : wrap64 ((i : Int) + 1) = ((i + 1 : Nat) : Int) := by rw [w64_of (by omega) (by omega)]; omega
theorem spec_l1In_eq (a b c : Int) : aD.f a b c = some (decide (b ≤ a ∧ a ≤ c)) := by
 unfold aD.f; by_cases h : a ≥ b
 ·rw [if_pos h]; by_cases h2 : a ≤ c
  ·rw [decide_eq_true h2, decide_eq_true ⟨h, h2⟩]
  ·rw [decide_eq_false h2, decide_eq_false (fun h3 => h2 h3.2)]
 ·rw [if_neg h, decide_eq_false (fun h3 => h h3.1)]
theorem impl_within_eq (a b c : Int) : aU.f a b c = some (decide (b ≤ a ∧ a ≤ c)) := by
 unfold aU.f; by_cases h : a ≥ b
 ·rw [if_pos h]; by_cases h2 : a ≤ c
  ·rw [decide_eq_true h2, decide_eq_true ⟨h, h2⟩]
  ·rw [decide_eq_false h2, decide_eq_false (fun h3 => h2 h3.2)]
 ·rw [if_neg h, decide_eq_false (fun h3 => h h3.1)]
theorem spec_l1In_ev (a b c : Int) : Ev (fun _ => aD.f a b c) (decide (b ≤ a ∧ a ≤ c)) := Ev.const (spec_l1In_eq a b c)
theorem impl_within_ev (a b c : Int) : Ev (fun _ => aU.f a b c) (decide (b ≤ a ∧ a ≤ c)) := Ev.const (impl_within_eq a b c)
def allIn (l : List Int) (a b : Int) : Bool := l.all fun x => decide (a ≤ x ∧ x ≤ b)
theorem allIn_iff (l : List Int) (a b : Int) : allIn l a b = true ↔ ∀ x ∈ l, a ≤ x ∧ x ≤ b := by unfold allIn; rw [List.all_eq_true]; exact ⟨fun h x hx => by simpa using h x hx, fun h x hx => by simpa using h x hx⟩
theorem allIn_cons (x : Int) (l : List Int) (a b : Int) (h : a ≤ x ∧ x ≤ b) : allIn (x :: l) a b = allIn l a b := by simp only [allIn, List.all_cons, decide_eq_true h, Bool.true_and]
theorem allIn_cons_not (x : Int) (l : List Int) (a b : Int) (h : ¬ (a ≤ x ∧ x ≤ b)) : allIn (x :: l) a b = false := by simp only [allIn, List.all_cons, decide_eq_false h, Bool.false_and]
theorem impl_allWithin_l0 (l : List Int) (a b : Int) (hl : l.length ≤ 35184372088832) : ∀ (d i : Nat), i + d = l.length → Ev (fun k => az.l0 k a b l (l.length : Int) (i : Int)) (allIn (l.drop i) a b) := by
 intro d
 induction d with
 | zero => intro i hi; rw [List.drop_eq_nil_of_le (by omega)]; refine Ev.one (fun k => by rw [az.l0]) ?_; exact Ev.neg (by omega) (Ev.now _)
 | succ d ih =>
  intro i hi; rw [List.drop_eq_getElem_cons (show i < l.length by omega)]; refine Ev.one (fun k => by rw [az.l0]) ?_; refine Ev.pos (by omega) (Ev.pos (by omega) (Ev.pos (by omega) ?_)); rw [rd_at l i (by omega), impl_within_eq]; simp only [Option.bind_some]; by_cases h : a ≤ l[i] ∧ l[i] ≤ b
  ·refine Ev.pos (decide_eq_true h) ?_; rw [w64_succ i (by omega)]; rw [allIn_cons _ _ _ _ h]; exact ih (i + 1) (by omega)
  ·refine Ev.neg (by rw [decide_eq_false h]; decide) ?_; rw [allIn_cons_not _ _ _ _ h]; exact Ev.now _
theorem impl_allWithin_ev (l : List Int) (a b : Int) (hl : l.length ≤ 35184372088832) : Ev (fun k => az.f k l a b) (allIn l a b) := by unfold az.f; exact impl_allWithin_l0 l a b hl l.length 0 (by omega)
def Sums (g : List Int) (n : Int) : Prop := ∃ l : List Int, (∀ x ∈ l, x ∈ g) ∧ l.sum = n
theorem Sums.zero (g : List Int) : Sums g 0 := ⟨[], by simp, rfl⟩
theorem Sums.add {g : List Int} {x n : Int} (hx : x ∈ g) (h : Sums g n) : Sums g (n + x) := by
 obtain ⟨l, h1, h2⟩ := h; refine ⟨x :: l, fun y hy => ?_, by rw [List.sum_cons, h2]; omega⟩; rcases List.mem_cons.1 hy with rfl | hy
 ·exact hx
 ·exact h1 y hy
theorem Sums.both {g : List Int} {a b : Int} (h : Sums g a) (h' : Sums g b) : Sums g (a + b) := by
 obtain ⟨l, h1, h2⟩ := h; obtain ⟨l', h1', h2'⟩ := h'; refine ⟨l ++ l', fun y hy => ?_, by rw [List.sum_append, h2, h2']⟩; rcases List.mem_append.1 hy with hy | hy
 ·exact h1 y hy
 ·exact h1' y hy
theorem Sums.one {g : List Int} {x : Int} (hx : x ∈ g) : Sums g x := by have h := Sums.add hx (Sums.zero g); rwa [Int.zero_add] at h
theorem Sums.times {g : List Int} {x : Int} (hx : x ∈ g) (k : Nat) : Sums g ((k : Int) * x) := by
 induction k with
 | zero => rw [show ((0 : Nat) : Int) * x = 0 from by simp]; exact Sums.zero g
 | succ k ih => have h := Sums.add hx ih; rw [show ((k + 1 : Nat) : Int) * x = (k : Int) * x + x from by rw [Int.natCast_add, Int.add_mul]; simp]; exact h
theorem Sums.mono {g g' : List Int} {n : Int} (hg : ∀ x ∈ g, x ∈ g') (h : Sums g n) : Sums g' n := by obtain ⟨l, h1, h2⟩ := h; exact ⟨l, fun x hx => hg x (h1 x hx), h2⟩
theorem Sums.ind {g : List Int} {P : Int → Prop} (h0 : P 0) (hs : ∀ x n, x ∈ g → Sums g n → P n → P (n + x)) {n : Int} (h : Sums g n) : P n := by
 obtain ⟨l, h1, h2⟩ := h; subst h2
 induction l with
 | nil => exact h0
 | cons x l ih => rw [List.sum_cons, Int.add_comm]; exact hs x l.sum (h1 x (List.mem_cons_self ..)) ⟨l, fun y hy => h1 y (List.mem_cons_of_mem _ hy), rfl⟩ (ih (fun y hy => h1 y (List.mem_cons_of_mem _ hy)))
theorem Sums.nonneg {g : List Int} {n : Int} (hp : ∀ x ∈ g, 1 ≤ x) (h : Sums g n) : 0 ≤ n :=
 Sums.ind (P := fun n => 0 ≤ n) (by omega) (fun x n hx _ hn => by have := hp x hx; omega) h
theorem Sums.cut {g : List Int} {n : Int} (hp : ∀ x ∈ g, 1 ≤ x) (h : Sums g n) (hn : n ≠ 0) : ∃ x, x ∈ g ∧ x ≤ n ∧ Sums g (n - x) := by
 obtain ⟨l, h1, h2⟩ := h
 cases l with
 | nil => exact absurd h2.symm (by simpa using hn)
 | cons x l => have hs : Sums g l.sum := ⟨l, fun y hy => h1 y (List.mem_cons_of_mem _ hy), rfl⟩; have := hs.nonneg hp; rw [List.sum_cons] at h2; refine ⟨x, h1 x (List.mem_cons_self ..), by omega, ?_⟩; rw [show n - x = l.sum from by omega]; exact hs
theorem rdOf_at {α : Type} (d : α) (xs : List α) (i : Nat) : rdOf d xs (i : Int) = xs.getD i d := by unfold rdOf; rw [Int.toNat_natCast]
theorem getD_set_eq {α : Type} (d : α) (xs : List α) (i : Nat) (x : α) (h : i < xs.length) : (xs.set i x).getD i d = x := by rw [List.getD_eq_getElem?_getD, List.getElem?_set_self h, Option.getD_some]
theorem getD_set_ne {α : Type} (d : α) (xs : List α) (i j : Nat) (x : α) (h : i ≠ j) : (xs.set i x).getD j d = xs.getD j d := by rw [List.getD_eq_getElem?_getD, List.getElem?_set_ne h, ← List.getD_eq_getElem?_getD]
theorem spec_l3Table_l1 (g : List Int) (most : Nat) (hg : ∀ x ∈ g, 1 ≤ x) (hlen : g.length ≤ 1048576) (hm : most ≤ 2000000) (n : Nat) (h1 : 1 ≤ n) (hn : n ≤ most)
  (fin : ∀ xs : List Bool, xs.length = most + 1 → (∀ m : Nat, m ≤ n → (xs.getD m false = true ↔ Sums g (m : Int))) → (∀ m : Nat, n < m → xs.getD m false = false) →
   ∃ r : List Bool, r.length = most + 1 ∧ (∀ m : Nat, m ≤ most → (r.getD m false = true ↔ Sums g (m : Int))) ∧ Ev (fun k => ay.l0 k g (most : Int) xs ((n + 1 : Nat) : Int)) r) :
  ∀ (d j : Nat) (xs : List Bool), j + d = g.length → xs.length = most + 1 → (∀ m : Nat, m < n → (xs.getD m false = true ↔ Sums g (m : Int))) → (∀ m : Nat, n < m → xs.getD m false = false) →
   (xs.getD n false = true ↔ ∃ x, x ∈ g.take j ∧ x ≤ (n : Int) ∧ Sums g ((n : Int) - x)) →
   ∃ r : List Bool, r.length = most + 1 ∧ (∀ m : Nat, m ≤ most → (r.getD m false = true ↔ Sums g (m : Int))) ∧ Ev (fun k => ay.l1 k g (most : Int) xs (n : Int) (j : Int)) r := by
 intro d
 induction d with
 | zero =>
  intro j xs hj hx hlo hhi hat; rw [List.take_of_length_le (by omega)] at hat
  obtain ⟨r, r1, r2, r3⟩ := fin xs hx (fun m hm => by
   by_cases e : m = n
   ·subst e
    rw [hat]
    constructor
    ·rintro ⟨x, hx, hle, hs⟩
     have := hs.add hx
     rwa [Int.sub_add_cancel] at this
    ·intro hs
     exact hs.cut hg (by omega)
   ·exact hlo m (by omega)) hhi
  refine ⟨r, r1, r2, Ev.one (fun k => by rw [ay.l1]) (Ev.neg (by omega) ?_)⟩; rw [w64_succ n (by omega)]; exact r3
 | succ d ih =>
  intro j xs hj hx hlo hhi hat; have hjl : j < g.length := (by omega); have hgj := hg g[j] (List.getElem_mem hjl); have htake : g.take (j + 1) = g.take j ++ [g[j]] := (by rw [List.take_succ_eq_append_getElem hjl]); by_cases hle : g[j] ≤ (n : Int)
  ·obtain ⟨q, hq⟩ : ∃ q : Nat, (n : Int) - g[j] = (q : Int) := ⟨((n : Int) - g[j]).toNat, by omega⟩; by_cases hb : xs.getD q false = true
   ·have hs : Sums g ((n : Int) - g[j]) := (by rw [hq]; exact (hlo q (by omega)).1 hb)
    obtain ⟨r, r1, r2, r3⟩ := ih (j + 1) (xs.set n true) (by omega) (by rw [List.length_set]; exact hx) (fun m hm => by rw [getD_set_ne _ _ _ _ _ (by omega)]; exact hlo m hm)
     (fun m hm => by rw [getD_set_ne _ _ _ _ _ (by omega)]; exact hhi m hm) (by
      rw [getD_set_eq _ _ _ _ (by omega), htake]
      exact ⟨fun _ => ⟨g[j], List.mem_append_right _ (List.mem_singleton.2 rfl), hle, hs⟩, fun _ => rfl⟩)
    refine ⟨r, r1, r2, Ev.one (fun k => by rw [ay.l1]) ?_⟩; rw [rd_at g j hjl, w64_of (x := (n : Int) - g[j]) (by omega) (by omega), hq, rdOf_at, w64_succ j (by omega), Int.toNat_natCast]; exact Ev.pos (by omega) (Ev.pos (by omega) (Ev.pos hle (Ev.pos (by omega) (Ev.pos (by omega) (Ev.pos hb (Ev.pos (by omega) (Ev.pos (by omega) r3)))))))
   ·obtain ⟨r, r1, r2, r3⟩ := ih (j + 1) xs (by omega) hx hlo hhi (by
      rw [hat, htake]
      constructor
      ·rintro ⟨x, hx, h⟩
       exact ⟨x, List.mem_append_left _ hx, h⟩
      ·rintro ⟨x, hx, hxl, hs⟩
       rcases List.mem_append.1 hx with hx | hx
       ·exact ⟨x, hx, hxl, hs⟩
       ·obtain rfl := List.mem_singleton.1 hx
        rw [hq] at hs
        exact absurd ((hlo q (by omega)).2 hs) hb)
    refine ⟨r, r1, r2, Ev.one (fun k => by rw [ay.l1]) ?_⟩; rw [rd_at g j hjl, w64_of (x := (n : Int) - g[j]) (by omega) (by omega), hq, rdOf_at, w64_succ j (by omega)]; exact Ev.pos (by omega) (Ev.pos (by omega) (Ev.pos hle (Ev.pos (by omega) (Ev.pos (by omega) (Ev.neg hb r3)))))
  ·obtain ⟨r, r1, r2, r3⟩ := ih (j + 1) xs (by omega) hx hlo hhi (by
     rw [hat, htake]
     constructor
     ·rintro ⟨x, hx, h⟩
      exact ⟨x, List.mem_append_left _ hx, h⟩
     ·rintro ⟨x, hx, hxl, hs⟩
      rcases List.mem_append.1 hx with hx | hx
      ·exact ⟨x, hx, hxl, hs⟩
      ·obtain rfl := List.mem_singleton.1 hx
       exact absurd hxl hle)
   refine ⟨r, r1, r2, Ev.one (fun k => by rw [ay.l1]) ?_⟩; rw [rd_at g j hjl, w64_succ j (by omega)]; exact Ev.pos (by omega) (Ev.pos (by omega) (Ev.neg (by omega) r3))
theorem spec_l3Table_l0 (g : List Int) (most : Nat) (hg : ∀ x ∈ g, 1 ≤ x) (hlen : g.length ≤ 1048576) (hm : most ≤ 2000000) :
  ∀ (d n : Nat) (xs : List Bool), n + d = most → xs.length = most + 1 → (∀ m : Nat, m ≤ n → (xs.getD m false = true ↔ Sums g (m : Int))) → (∀ m : Nat, n < m → xs.getD m false = false) →
   ∃ r : List Bool, r.length = most + 1 ∧ (∀ m : Nat, m ≤ most → (r.getD m false = true ↔ Sums g (m : Int))) ∧ Ev (fun k => ay.l0 k g (most : Int) xs ((n + 1 : Nat) : Int)) r := by
 intro d
 induction d with
 | zero => intro n xs hd hx hlo hhi; refine ⟨xs, hx, fun m hm => hlo m (by omega), Ev.one (fun k => by rw [ay.l0]) (Ev.neg (by omega) (Ev.now _))⟩
 | succ d ih =>
  intro n xs hd hx hlo hhi
  obtain ⟨r, r1, r2, r3⟩ := spec_l3Table_l1 g most hg hlen hm (n + 1) (by omega) (by omega) (fun xs hx hlo hhi => ih (n + 1) xs (by omega) hx hlo hhi) g.length 0 xs (by omega) hx (fun m hm => hlo m (by omega)) (fun m hm => hhi m (by omega))
   ⟨(fun h => by rw [hhi (n + 1) (by omega)] at h; cases h), (fun ⟨x, hx, _⟩ => by simp at hx)⟩
  refine ⟨r, r1, r2, Ev.one (fun k => by rw [ay.l0]) ?_⟩; exact Ev.pos (by omega) r3
theorem spec_l3Table_ev (g : List Int) (most : Nat) (hg : ∀ x ∈ g, 1 ≤ x) (hlen : g.length ≤ 1048576) (hm : most ≤ 2000000) :
  ∃ r : List Bool, r.length = most + 1 ∧ (∀ m : Nat, m ≤ most → (r.getD m false = true ↔ Sums g (m : Int))) ∧ Ev (fun k => ay.f k g (most : Int)) r := by
 have e : (List.replicate (most + 1) false).length = most + 1 := List.length_replicate; have eg : ∀ m : Nat, (List.replicate (most + 1) false).getD m false = false := fun m => (by rw [List.getD_eq_getElem?_getD, List.getElem?_replicate]; split <;> rfl)
 obtain ⟨r, r1, r2, r3⟩ := spec_l3Table_l0 g most hg hlen hm most 0 ((List.replicate (most + 1) false).set 0 true) (by omega) (by rw [List.length_set, e])
  (fun m hm => by
   obtain rfl : m = 0 := by omega
   rw [getD_set_eq _ _ _ _ (by omega)]
   exact ⟨fun _ => Sums.zero g, fun _ => rfl⟩)
  (fun m hm => by rw [getD_set_ne _ _ _ _ _ (by omega)]; exact eg m)
 refine ⟨r, r1, r2, ?_⟩; unfold ay.f; rw [w64_succ most (by omega), Int.toNat_natCast]; exact Ev.pos (by omega) (Ev.pos (by omega) (Ev.some (Ev.pos (by omega) r3)))
theorem tmod_nat (a b : Nat) : Int.tmod (a : Int) (b : Int) = ((a % b : Nat) : Int) := by rw [Int.tmod_eq_emod_of_nonneg (by omega)]; simp
theorem spec_GcdOf_l0 : ∀ (b a : Nat), Ev (fun k => bn.l0 k (a : Int) (b : Int)) ((Nat.gcd a b : Nat) : Int) := by
 intro b
 induction b using Nat.strongRecOn with
 | ind b ih =>
  intro a; refine Ev.one (fun k => by rw [bn.l0]) ?_; by_cases h : b = 0
  ·subst h; rw [Nat.gcd_zero_right]; exact Ev.neg (by omega) (Ev.now _)
  ·rw [tmod_nat, Nat.gcd_comm, Nat.gcd_rec, Nat.gcd_comm]; exact Ev.pos (by omega) (Ev.neg (by omega) (ih (a % b) (Nat.mod_lt _ (by omega)) b))
theorem impl_GcdOf_l0 : ∀ (a b : Nat), Ev (fun k => bA.l0 k (a : Int) (b : Int)) ((Nat.gcd a b : Nat) : Int) := by
 intro a
 induction a using Nat.strongRecOn with
 | ind a ih =>
  intro b; refine Ev.one (fun k => by rw [bA.l0]) ?_; by_cases h : a = 0
  ·subst h; rw [Nat.gcd_zero_left]; exact Ev.pos (by omega) (Ev.now _)
  ·rw [tmod_nat, Nat.gcd_rec]; exact Ev.neg (by omega) (ih (b % a) (Nat.mod_lt _ (by omega)) a)
def gcdS (a b : Int) : Int := if (-1000000 ≤ a ∧ a ≤ 1000000) ∧ (-1000000 ≤ b ∧ b ≤ 1000000) then ((Int.gcd a b : Nat) : Int) else 0
theorem spec_l2Small_ev (a : Int) : Ev (fun _ => bK.f a) (decide (-1000000 ≤ a ∧ a ≤ 1000000)) := by unfold bK.f; exact Ev.bnd (spec_l1In_ev _ _ _) (Ev.now _)
theorem l1Max_abs (a : Int) (h : -1000000 ≤ a ∧ a ≤ 1000000) : Ev (fun _ => bF.f a (wrap64 (-a))) ((a.natAbs : Nat) : Int) := by
 refine Ev.const ?_; rw [w64_of (by omega) (by omega)]; unfold bF.f; by_cases g : a > -a
 ·rw [if_pos g]; congr 1; omega
 ·rw [if_neg g]; congr 1; omega
theorem spec_GcdOf_ev (a b : Int) : Ev (fun k => bn.f k a b) (gcdS a b) := by
 unfold bn.f gcdS; by_cases h1 : -1000000 ≤ a ∧ a ≤ 1000000
 ·refine Ev.bnd (spec_l2Small_ev a) (Ev.pos (decide_eq_true h1) (Ev.bnd (spec_l2Small_ev b) (Ev.one (fun k => by rw [bn.j0]) ?_))); by_cases h2 : -1000000 ≤ b ∧ b ≤ 1000000
  ·rw [if_pos ⟨h1, h2⟩]; exact Ev.neg (by rw [decide_eq_true h2]; simp) (Ev.bnd (l1Max_abs a h1) (Ev.bnd (l1Max_abs b h2) (spec_GcdOf_l0 b.natAbs a.natAbs)))
  ·rw [if_neg (fun g => h2 g.2)]; exact Ev.pos (by rw [decide_eq_false h2]; simp) (Ev.now _)
 ·rw [if_neg (fun g => h1 g.1)]; exact Ev.bnd (spec_l2Small_ev a) (Ev.neg (by rw [decide_eq_false h1]; simp) (Ev.one (fun k => by rw [bn.j0]) (Ev.pos rfl (Ev.now _))))
theorem mx_abs (a : Int) (h : -1000000 ≤ a ∧ a ≤ 1000000) : mx a (wrap64 (-a)) = ((a.natAbs : Nat) : Int) := by
 rw [w64_of (by omega) (by omega)]; unfold mx; by_cases g : a < -a
 ·rw [if_pos g]; omega
 ·rw [if_neg g]; omega
theorem impl_GcdOf_ev (a b : Int) : Ev (fun k => bA.f k a b) (gcdS a b) := by
 unfold bA.f gcdS; refine Ev.bnd (impl_allWithin_ev _ _ _ (by simp)) ?_; by_cases h : (-1000000 ≤ a ∧ a ≤ 1000000) ∧ (-1000000 ≤ b ∧ b ≤ 1000000)
 ·rw [if_pos h, mx_abs a h.1, mx_abs b h.2]; exact Ev.pos (by rw [allIn_iff]; simp only [List.mem_cons, List.not_mem_nil, or_false]; rintro x (rfl | rfl); exact h.1; exact h.2) (impl_GcdOf_l0 a.natAbs b.natAbs)
 ·rw [if_neg h]; refine Ev.neg (fun g => h ?_) (Ev.now _); rw [allIn_iff] at g; exact ⟨g a (by simp), g b (by simp)⟩
def gcdL (l : List Int) : Int := l.foldl gcdS 0
theorem spec_GcdOfList_l0 (l : List Int) (hl : l.length ≤ 1048576) : ∀ (d i : Nat) (x : Int), i + d = l.length → Ev (fun k => bh.l0 k l x (i : Int)) ((l.drop i).foldl gcdS x) := by
 intro d
 induction d with
 | zero => intro i x hi; rw [List.drop_eq_nil_of_le (by omega)]; refine Ev.one (fun k => by rw [bh.l0]) ?_; exact Ev.neg (by omega) (Ev.now _)
 | succ d ih => intro i x hi; rw [List.drop_eq_getElem_cons (show i < l.length by omega), List.foldl_cons]; refine Ev.one (fun k => by rw [bh.l0]) ?_; refine Ev.pos (by omega) (Ev.pos (by omega) (Ev.bnd (spec_GcdOf_ev _ _) ?_)); rw [rd_at l i (by omega), w64_succ i (by omega)]; exact ih (i + 1) _ (by omega)
theorem spec_GcdOfList_ev (l : List Int) (hl : l.length ≤ 1048576) : Ev (fun k => bh.f k l) (gcdL l) := by unfold bh.f; exact spec_GcdOfList_l0 l hl l.length 0 0 (by omega)
theorem impl_GcdOfList_l0 (l : List Int) (hl : l.length ≤ 1048576) : ∀ (d i : Nat) (x : Int), i + d = l.length → Ev (fun k => bm.l0 k x l (l.length : Int) (i : Int)) ((l.drop i).foldl gcdS x) := by
 intro d
 induction d with
 | zero => intro i x hi; rw [List.drop_eq_nil_of_le (by omega)]; refine Ev.one (fun k => by rw [bm.l0]) ?_; exact Ev.neg (by omega) (Ev.now _)
 | succ d ih => intro i x hi; rw [List.drop_eq_getElem_cons (show i < l.length by omega), List.foldl_cons]; refine Ev.one (fun k => by rw [bm.l0]) ?_; refine Ev.pos (by omega) (Ev.pos (by omega) (Ev.pos (by omega) (Ev.bnd (impl_GcdOf_ev _ _) ?_))); rw [rd_at l i (by omega), w64_succ i (by omega)]; exact ih (i + 1) _ (by omega)
theorem impl_GcdOfList_ev (l : List Int) (hl : l.length ≤ 1048576) : Ev (fun k => bm.f k l) (gcdL l) := by unfold bm.f; exact impl_GcdOfList_l0 l hl l.length 0 0 (by omega)
def asc (l : List Int) : Prop := l.Pairwise (· < ·)
theorem asc_iff (l : List Int) : asc l ↔ ∀ i (h : i + 1 < l.length), l[i] < l[i + 1] := by
 unfold asc; rw [List.pairwise_iff_getElem]; constructor
 ·intro h i hi; exact h i (i + 1) (by omega) hi (by omega)
 ·intro h i j hi hj hij; obtain ⟨d, rfl⟩ : ∃ d, j = i + 1 + d := ⟨j - i - 1, by omega⟩
  induction d with
  | zero => exact h i hj
  | succ d ih => exact Int.lt_trans (ih (by omega) (by omega)) (h (i + 1 + d) (by omega))
theorem spec_IsAscending_l0 (l : List Int) (hl : l.length ≤ 1048576) : ∀ (d i : Nat), i + d = l.length → 1 ≤ i → (∀ j (h : j + 1 < l.length), j + 1 < i → l[j] < l[j + 1]) →
  ∃ b, (b = true ↔ asc l) ∧ Ev (fun k => aH.l0 k l (i : Int)) b := by
 intro d
 induction d with
 | zero => intro i hi h1 hs; exact ⟨true, ⟨fun _ => (asc_iff l).2 (fun j hj => hs j hj (by omega)), fun _ => rfl⟩, Ev.one (fun k => by rw [aH.l0]) (Ev.neg (by omega) (Ev.now _))⟩
 | succ d ih =>
  intro i hi h1 hs; have e1 : wrap64 ((i : Int) - 1) = ((i - 1 : Nat) : Int) := (by rw [w64_of (by omega) (by omega)]; omega); obtain ⟨j, rfl⟩ : ∃ j, i = j + 1 := ⟨i - 1, by omega⟩; by_cases h : l[j] < l[j + 1]
  ·obtain ⟨b, b1, b2⟩ := ih (j + 1 + 1) (by omega) (by omega) (fun q hq hq' => by
    by_cases e : q = j
    ·subst e; exact h
    ·exact hs q hq (by omega))
   refine ⟨b, b1, Ev.one (fun k => by rw [aH.l0]) ?_⟩; rw [e1, w64_succ (j + 1) (by omega), Nat.add_sub_cancel, rd_at l j (by omega), rd_at l (j + 1) (by omega)]; exact Ev.pos (by omega) (Ev.pos (by omega) (Ev.pos (by omega) (Ev.pos (by omega) (Ev.neg (by omega) b2))))
  ·refine ⟨false, ⟨(fun g => by cases g), fun g => absurd ((asc_iff l).1 g j (by omega)) h⟩, Ev.one (fun k => by rw [aH.l0]) ?_⟩; rw [e1, Nat.add_sub_cancel, rd_at l j (by omega), rd_at l (j + 1) (by omega)]; exact Ev.pos (by omega) (Ev.pos (by omega) (Ev.pos (by omega) (Ev.pos (by omega) (Ev.pos (by omega) (Ev.now _)))))
theorem asc_short (l : List Int) (h : l.length = 0) : asc l := by rw [List.length_eq_zero_iff] at h; subst h; exact List.Pairwise.nil
theorem spec_IsAscending_ev (l : List Int) (hl : l.length ≤ 1048576) : ∃ b, (b = true ↔ asc l) ∧ Ev (fun k => aH.f k l) b := by
 unfold aH.f; by_cases h : l.length = 0
 ·exact ⟨true, ⟨fun _ => asc_short l h, fun _ => rfl⟩, Ev.one (fun k => by rw [aH.l0]) (Ev.neg (by omega) (Ev.now _))⟩
 ·exact spec_IsAscending_l0 l hl (l.length - 1) 1 (by omega) (by omega) (fun j _ hj => by omega)
theorem impl_IsAscending_l0 (l : List Int) (hl : l.length ≤ 1048576) : ∀ (d i : Nat), i + d = l.length → 1 ≤ i → (∀ j (h : j + 1 < l.length), j + 1 < i → l[j] < l[j + 1]) →
  ∃ b, (b = true ↔ asc l) ∧ Ev (fun k => aM.l0 k l (i : Int)) b := by
 intro d
 induction d with
 | zero => intro i hi h1 hs; exact ⟨true, ⟨fun _ => (asc_iff l).2 (fun j hj => hs j hj (by omega)), fun _ => rfl⟩, Ev.one (fun k => by rw [aM.l0]) (Ev.neg (by omega) (Ev.now _))⟩
 | succ d ih =>
  intro i hi h1 hs; have e1 : wrap64 ((i : Int) - 1) = ((i - 1 : Nat) : Int) := (by rw [w64_of (by omega) (by omega)]; omega); obtain ⟨j, rfl⟩ : ∃ j, i = j + 1 := ⟨i - 1, by omega⟩; by_cases h : l[j] < l[j + 1]
  ·obtain ⟨b, b1, b2⟩ := ih (j + 1 + 1) (by omega) (by omega) (fun q hq hq' => by
    by_cases e : q = j
    ·subst e; exact h
    ·exact hs q hq (by omega))
   refine ⟨b, b1, Ev.one (fun k => by rw [aM.l0]) ?_⟩; rw [e1, w64_succ (j + 1) (by omega), Nat.add_sub_cancel, rd_at l j (by omega), rd_at l (j + 1) (by omega)]; exact Ev.pos (by omega) (Ev.pos (by omega) (Ev.pos (by omega) (Ev.pos (by omega) (Ev.neg (by omega) b2))))
  ·refine ⟨false, ⟨(fun g => by cases g), fun g => absurd ((asc_iff l).1 g j (by omega)) h⟩, Ev.one (fun k => by rw [aM.l0]) ?_⟩; rw [e1, Nat.add_sub_cancel, rd_at l j (by omega), rd_at l (j + 1) (by omega)]; exact Ev.pos (by omega) (Ev.pos (by omega) (Ev.pos (by omega) (Ev.pos (by omega) (Ev.pos (by omega) (Ev.now _)))))
theorem impl_IsAscending_ev (l : List Int) (hl : l.length ≤ 1048576) : ∃ b, (b = true ↔ asc l) ∧ Ev (fun k => aM.f k l) b := by
 unfold aM.f; by_cases h : l.length = 0
 ·exact ⟨true, ⟨fun _ => asc_short l h, fun _ => rfl⟩, Ev.one (fun k => by rw [aM.l0]) (Ev.neg (by omega) (Ev.now _))⟩
 ·exact impl_IsAscending_l0 l hl (l.length - 1) 1 (by omega) (by omega) (fun j _ hj => by omega)
theorem rd_set_eq (xs : List Int) (i : Nat) (v : Int) (h : i < xs.length) : rd (xs.set i v) (i : Int) = v := by unfold rd; rw [Int.toNat_natCast]; exact getD_set_eq 0 xs i v h
theorem rd_set_ne (xs : List Int) (i j : Nat) (v : Int) (h : i ≠ j) : rd (xs.set i v) (j : Int) = rd xs (j : Int) := by unfold rd; rw [Int.toNat_natCast]; exact getD_set_ne 0 xs i j v h
def tot (f : Int → Nat) (xs : List Int) : Nat := (xs.map f).sum
theorem tot_set (f : Int → Nat) (v : Int) : ∀ (xs : List Int) (i : Nat), i < xs.length → tot f (xs.set i v) + f (rd xs (i : Int)) = tot f xs + f v
 | [], _, h => by simp at h
 | x :: xs, 0, _ => by
  show tot f (v :: xs) + f x = tot f (x :: xs) + f v
  unfold tot
  rw [List.map_cons, List.map_cons, List.sum_cons, List.sum_cons]
  omega
 | x :: xs, i + 1, h => by
  have ih := tot_set f v xs i (by simpa using h)
  have e : rd (x :: xs) ((i + 1 : Nat) : Int) = rd xs (i : Int) := by
   unfold rd
   rw [Int.toNat_natCast, Int.toNat_natCast]
   rfl
  show tot f (x :: xs.set i v) + f (rd (x :: xs) ((i + 1 : Nat) : Int)) = tot f (x :: xs) + f v
  rw [e]
  unfold tot at ih ⊢
  rw [List.map_cons, List.map_cons, List.sum_cons, List.sum_cons]
  omega
def neg1 (x : Int) : Nat := if x < 0 then 1 else 0
def phi (x : Int) : Nat := if x < 0 then 5000 else x.toNat
structure Mid (g : List Int) (a : Nat) (xs : List Int) : Prop where
 len : xs.length = a
 zero : rd xs 0 = 0
 row : ∀ i : Nat, i < a → rd xs (i : Int) = -1 ∨ (0 ≤ rd xs (i : Int) ∧ Sums g (rd xs (i : Int)) ∧ rd xs (i : Int) % (a : Int) = (i : Int))
 room : ∀ i : Nat, i < a → rd xs (i : Int) + 60 * ((tot neg1 xs : Nat) : Int) ≤ 60 * ((a : Int) - 1)
theorem Mid.le {g : List Int} {a : Nat} {xs : List Int} (h : Mid g a xs) (ha : a ≤ 60) (i : Nat) (hi : i < a) : -1 ≤ rd xs (i : Int) ∧ rd xs (i : Int) ≤ 3600 := by have h1 := h.room i hi; have h2 := h.row i hi; omega
theorem Mid.set {g : List Int} {a : Nat} {xs : List Int} (h : Mid g a xs) (ha : a ≤ 60) {r t : Nat} (hr : r < a) (ht : t < a) {x : Int} (hx : x ∈ g) (hx1 : 1 ≤ x) (hx2 : x ≤ 60)
  (hn : 0 ≤ rd xs (r : Int)) (htr : ((r : Int) + x) % (a : Int) = (t : Int)) (hlt : rd xs (t : Int) < 0 ∨ rd xs (r : Int) + x < rd xs (t : Int)) :
  Mid g a (xs.set t (rd xs (r : Int) + x)) ∧ tot phi (xs.set t (rd xs (r : Int) + x)) < tot phi xs := by
 have hl := h.len; have hb := h.le ha r hr; have hbt := h.le ha t ht; have hroom := h.room r hr; have hroomt := h.room t ht; have n1 := tot_set neg1 (rd xs (r : Int) + x) xs t (by omega); have p1 := tot_set phi (rd xs (r : Int) + x) xs t (by omega); have e1 : neg1 (rd xs (r : Int) + x) = 0 := (by unfold neg1; rw [if_neg (by omega)]); have e2 : phi (rd xs (r : Int) + x) = (rd xs (r : Int) + x).toNat := (by unfold phi; rw [if_neg (by omega)]); have ht0 : t ≠ 0 := (by intro e; subst e; have hz := h.zero; have : rd xs ((0 : Nat) : Int) = 0 := hz; omega)
 have hmono : ∀ i : Nat, i < a → rd (xs.set t (rd xs (r : Int) + x)) (i : Int) + 60 * ((tot neg1 (xs.set t (rd xs (r : Int) + x)) : Nat) : Int) ≤ 60 * ((a : Int) - 1) := by
  intro i hi; have hroomi := h.room i hi; by_cases c : rd xs (t : Int) < 0
  ·have e3 : neg1 (rd xs (t : Int)) = 1 := (by unfold neg1; rw [if_pos c]); by_cases e : i = t
   ·subst e; rw [rd_set_eq _ _ _ (by omega)]; omega
   ·rw [rd_set_ne _ _ _ _ (fun q => e q.symm)]; omega
  ·have e3 : neg1 (rd xs (t : Int)) = 0 := (by unfold neg1; rw [if_neg c]); by_cases e : i = t
   ·subst e; rw [rd_set_eq _ _ _ (by omega)]; omega
   ·rw [rd_set_ne _ _ _ _ (fun q => e q.symm)]; omega
 refine ⟨⟨by rw [List.length_set]; exact hl, ?_, ?_, hmono⟩, ?_⟩
 ·have := rd_set_ne xs t 0 (rd xs (r : Int) + x) ht0; exact this.trans h.zero
 ·intro i hi; by_cases e : i = t
  ·subst e; rw [rd_set_eq _ _ _ (by omega)]; rcases h.row r hr with h1 | ⟨_, h2, h3⟩
   ·omega
   ·refine .inr ⟨by omega, h2.add hx, ?_⟩; rw [← htr, ← Int.emod_add_emod, h3]
  ·rw [rd_set_ne _ _ _ _ (fun q => e q.symm)]; exact h.row i hi
 ·by_cases c : rd xs (t : Int) < 0
  ·have e3 : phi (rd xs (t : Int)) = 5000 := (by unfold phi; rw [if_pos c]); omega
  ·have e3 : phi (rd xs (t : Int)) = (rd xs (t : Int)).toNat := (by unfold phi; rw [if_neg c]); omega
def shut1 (a : Nat) (xs : List Int) (r : Nat) (x : Int) : Prop := 0 ≤ rd xs (((r : Int) + x) % (a : Int)) ∧ rd xs (((r : Int) + x) % (a : Int)) ≤ rd xs (r : Int) + x
def shutR (g : List Int) (a : Nat) (xs : List Int) (r : Nat) : Prop := rd xs (r : Int) < 0 ∨ ∀ x ∈ g, shut1 a xs r x
structure Least (g : List Int) (a : Nat) (xs : List Int) : Prop where
 len : xs.length = a
 row : ∀ i : Nat, i < a → (rd xs (i : Int) = -1 ∧ ∀ n, Sums g n → n % (a : Int) ≠ (i : Int)) ∨
  (0 ≤ rd xs (i : Int) ∧ rd xs (i : Int) ≤ 3600 ∧ Sums g (rd xs (i : Int)) ∧ rd xs (i : Int) % (a : Int) = (i : Int) ∧ ∀ n, Sums g n → n % (a : Int) = (i : Int) → rd xs (i : Int) ≤ n)
theorem Least.of {g : List Int} {a : Nat} {xs : List Int} (h : Mid g a xs) (ha1 : 1 ≤ a) (ha : a ≤ 60) (hs : ∀ r : Nat, r < a → shutR g a xs r) : Least g a xs := by
 have key : ∀ n, Sums g n → 0 ≤ rd xs (n % (a : Int)) ∧ rd xs (n % (a : Int)) ≤ n := by
  intro n hn; refine Sums.ind (P := fun n => 0 ≤ rd xs (n % (a : Int)) ∧ rd xs (n % (a : Int)) ≤ n) ?_ ?_ hn
  ·have e : (0 : Int) % (a : Int) = 0 := (by simp); have hz := h.zero; simp only [e, hz]; omega
  ·intro x n hx _ ⟨h1, h2⟩; obtain ⟨r, hr⟩ : ∃ r : Nat, n % (a : Int) = (r : Int) := ⟨(n % (a : Int)).toNat, by have := Int.emod_nonneg n (show (a : Int) ≠ 0 by omega); omega⟩; have hra : r < a := (by have := Int.emod_lt_of_pos n (show (0 : Int) < (a : Int) by omega); omega); rw [hr] at h1 h2; rcases hs r hra with h3 | h3
   ·omega
   ·have h4 := h3 x hx; unfold shut1 at h4; rw [← hr, Int.emod_add_emod] at h4; rw [hr] at h4; exact ⟨h4.1, by omega⟩
 refine ⟨h.len, fun i hi => ?_⟩; have hb := h.le ha i hi; rcases h.row i hi with h1 | ⟨h1, h2, h3⟩
 ·refine .inl ⟨h1, fun n hn e => ?_⟩; have := key n hn; rw [e] at this; omega
 ·refine .inr ⟨h1, hb.2, h2, h3, fun n hn e => ?_⟩; have := key n hn; rw [e] at this; exact this.2
section
variable (g : List Int) (a : Nat) (hg : ∀ x ∈ g, 1 ≤ x ∧ x ≤ 60) (hlen : g.length ≤ 1048576) (ha1 : 1 ≤ a) (ha : a ≤ 60)
include hg hlen ha1 ha
theorem impl_leasts_l3 (m : Nat) (r : Nat) (hr : r < a) (n : Int)
  (next : ∀ (xs : List Int) (c : Bool), Mid g a xs → tot phi xs ≤ m → (c = true → tot phi xs < m) → (c = false → ∀ q : Nat, q < r + 1 → shutR g a xs q) →
   ∃ res, Least g a res ∧ Ev (fun k => aj.l2 k g (a : Int) xs c (a : Int) ((r + 1 : Nat) : Int)) res) :
  ∀ (d j : Nat) (xs : List Int) (c : Bool), j + d = g.length → Mid g a xs → rd xs (r : Int) = n → 0 ≤ n → tot phi xs ≤ m → (c = true → tot phi xs < m) →
   (c = false → (∀ q : Nat, q < r → shutR g a xs q) ∧ ∀ x ∈ g.take j, shut1 a xs r x) →
   ∃ res, Least g a res ∧ Ev (fun k => aj.l3 k g (a : Int) xs c (r : Int) n (a : Int) (r : Int) g (g.length : Int) (j : Int)) res := by
 intro d
 induction d with
 | zero =>
  intro j xs c hj hM hrn hn hm hc hs
  obtain ⟨res, r1, r2⟩ := next xs c hM hm hc (fun e q hq => by
   have hs := hs e
   by_cases e : q = r
   ·subst e
    rw [List.take_of_length_le (by omega)] at hs
    exact .inr hs.2
   ·exact hs.1 q (by omega))
  refine ⟨res, r1, Ev.one (fun k => by rw [aj.l3]) ?_⟩; rw [w64_succ r (by omega)]; exact Ev.neg (by omega) r2
 | succ d ih =>
  intro j xs c hj hM hrn hn hm hc hs; have hjl : j < g.length := (by omega); have hgj := hg g[j] (List.getElem_mem hjl); have hbr := hM.le ha r hr; have hlenx := hM.len; obtain ⟨t, ht⟩ : ∃ t : Nat, ((r : Int) + g[j]) % (a : Int) = (t : Int) := ⟨(((r : Int) + g[j]) % (a : Int)).toNat, by have := Int.emod_nonneg ((r : Int) + g[j]) (show (a : Int) ≠ 0 by omega); omega⟩; have hta : t < a := (by have := Int.emod_lt_of_pos ((r : Int) + g[j]) (show (0 : Int) < (a : Int) by omega); omega); have e1 : Int.tmod (wrap64 ((r : Int) + g[j])) (a : Int) = (t : Int) := (by rw [w64_of (by omega) (by omega), Int.tmod_eq_emod_of_nonneg (by omega), ht]); have e2 : wrap64 (n + g[j]) = n + g[j] := w64_of (by omega) (by omega); have htake : g.take (j + 1) = g.take j ++ [g[j]] := (by rw [List.take_succ_eq_append_getElem hjl]); by_cases hlt : rd xs (t : Int) < 0 ∨ n + g[j] < rd xs (t : Int)
  ·obtain ⟨M1, M2⟩ := hM.set ha hr hta (List.getElem_mem hjl) hgj.1 hgj.2 (by omega) ht (by rw [hrn]; exact hlt); rw [hrn] at M1 M2; have htr : t ≠ r := (by intro e; subst e; omega); obtain ⟨res, r1, r2⟩ := ih (j + 1) (xs.set t (n + g[j])) true (by omega) M1 (by rw [rd_set_ne _ _ _ _ htr]; exact hrn) hn (by omega) (fun _ => by omega) (fun e => by cases e); refine ⟨res, r1, Ev.one (fun k => by rw [aj.l3]) ?_⟩; rw [rd_at g j hjl, e1, e2, w64_succ j (by omega), Int.toNat_natCast]; refine Ev.pos (by omega) (Ev.pos (by omega) (Ev.pos (by omega) (Ev.neg (by omega) (Ev.pos (by omega) (Ev.pos (by omega) ?_))))); by_cases c1 : rd xs (t : Int) < 0
   ·exact Ev.pos c1 r2
   ·exact Ev.neg c1 (Ev.pos (by omega) r2)
  ·obtain ⟨res, r1, r2⟩ := ih (j + 1) xs c (by omega) hM hrn hn hm hc (fun e => ⟨(hs e).1, fun x hx => by
    rw [htake] at hx
    rcases List.mem_append.1 hx with hx | hx
    ·exact (hs e).2 x hx
    ·obtain rfl := List.mem_singleton.1 hx
     unfold shut1
     rw [ht]
     omega⟩)
   refine ⟨res, r1, Ev.one (fun k => by rw [aj.l3]) ?_⟩; rw [rd_at g j hjl, e1, e2, w64_succ j (by omega)]; exact Ev.pos (by omega) (Ev.pos (by omega) (Ev.pos (by omega) (Ev.neg (by omega) (Ev.pos (by omega) (Ev.pos (by omega) (Ev.neg (by omega) (Ev.neg (by omega) r2)))))))
theorem impl_leasts_l2 (m : Nat)
  (again : ∀ (xs : List Int), Mid g a xs → tot phi xs < m → ∃ res, Least g a res ∧ Ev (fun k => aj.l1 k g (a : Int) xs true) res) :
  ∀ (d r : Nat) (xs : List Int) (c : Bool), r + d = a → Mid g a xs → tot phi xs ≤ m → (c = true → tot phi xs < m) → (c = false → ∀ q : Nat, q < r → shutR g a xs q) →
   ∃ res, Least g a res ∧ Ev (fun k => aj.l2 k g (a : Int) xs c (a : Int) (r : Int)) res := by
 intro d
 induction d with
 | zero =>
  intro r xs c hr hM hm hc hs
  cases c with
  | true => obtain ⟨res, r1, r2⟩ := again xs hM (hc rfl); refine ⟨res, r1, Ev.one (fun k => by rw [aj.l2]) ?_⟩; exact Ev.neg (by omega) r2
  | false => refine ⟨xs, Least.of hM ha1 ha (fun q hq => hs rfl q (by omega)), Ev.one (fun k => by rw [aj.l2]) (Ev.neg (by omega) (Ev.one (fun k => by rw [aj.l1]) ?_))⟩; exact Ev.neg (by simp) (Ev.now _)
 | succ d ih =>
  intro r xs c hr hM hm hc hs; have hra : r < a := (by omega); have hlenx := hM.len; by_cases hn : rd xs (r : Int) < 0
  ·obtain ⟨res, r1, r2⟩ := ih (r + 1) xs c (by omega) hM hm hc (fun e q hq => by
    by_cases eq : q = r
    ·subst eq; exact .inl hn
    ·exact hs e q (by omega))
   refine ⟨res, r1, Ev.one (fun k => by rw [aj.l2]) ?_⟩; rw [w64_succ r (by omega)]; exact Ev.pos (by omega) (Ev.pos (by omega) (Ev.pos (by omega) (Ev.pos hn r2)))
  ·obtain ⟨res, r1, r2⟩ := impl_leasts_l3 g a hg hlen ha1 ha m r hra (rd xs (r : Int)) (fun xs c h1 h2 h3 h4 => ih (r + 1) xs c (by omega) h1 h2 h3 h4) g.length 0 xs c (by omega) hM rfl (by omega) hm hc
    (fun e => ⟨hs e, fun x hx => by simp at hx⟩)
   refine ⟨res, r1, Ev.one (fun k => by rw [aj.l2]) ?_⟩; exact Ev.pos (by omega) (Ev.pos (by omega) (Ev.pos (by omega) (Ev.neg hn r2)))
theorem impl_leasts_l1 : ∀ (m : Nat) (xs : List Int), Mid g a xs → tot phi xs = m → ∃ res, Least g a res ∧ Ev (fun k => aj.l1 k g (a : Int) xs true) res := by
 intro m
 induction m using Nat.strongRecOn with
 | ind m ih => intro xs hM hm; have hlenx := hM.len; obtain ⟨res, r1, r2⟩ := impl_leasts_l2 g a hg hlen ha1 ha m (fun xs h1 h2 => ih _ h2 xs h1 rfl) a 0 xs false (by omega) hM (by omega) (fun e => by cases e) (fun _ q hq => by omega); refine ⟨res, r1, Ev.one (fun k => by rw [aj.l1]) ?_⟩; rw [hlenx]; exact Ev.pos rfl r2
omit hg hlen ha1 in
theorem impl_leasts_l0 : ∀ (d i : Nat) (xs : List Int), i + d = a → xs.length = a → (∀ j : Nat, j < i → rd xs (j : Int) = -1) → (res : List Int) →
  (∀ ys : List Int, ys.length = a → (∀ j : Nat, j < a → rd ys (j : Int) = -1) → Ev (fun k => aj.l1 k g (a : Int) (ys.set 0 0) true) res) → 1 ≤ a →
  Ev (fun k => aj.l0 k g (a : Int) xs (a : Int) (i : Int)) res := by
 intro d
 induction d with
 | zero => intro i xs hi hx hs res next h1; refine Ev.one (fun k => by rw [aj.l0]) ?_; exact Ev.neg (by omega) (Ev.pos (by omega) (next xs hx (fun j hj => hs j (by omega))))
 | succ d ih =>
  intro i xs hi hx hs res next h1; refine Ev.one (fun k => by rw [aj.l0]) ?_; rw [w64_succ i (by omega), Int.toNat_natCast]; refine Ev.pos (by omega) (Ev.pos (by omega) (Ev.pos (by omega) (ih (i + 1) _ (by omega) (by rw [List.length_set]; exact hx) (fun j hj => ?_) res next h1))); by_cases e : j = i
  ·subst e; rw [rd_set_eq _ _ _ (by omega)]
  ·rw [rd_set_ne _ _ _ _ (by omega)]; exact hs j (by omega)
theorem impl_leasts_ev : ∃ res, Least g a res ∧ Ev (fun k => aj.f k g (a : Int)) res := by
 have first : ∀ ys : List Int, ys.length = a → (∀ j : Nat, j < a → rd ys (j : Int) = -1) → ys.set 0 0 = (List.replicate a (-1)).set 0 (0 : Int) := by
  intro ys hl hy; congr 1; apply List.ext_getElem
  ·rw [hl, List.length_replicate]
  ·intro j h1 h2; rw [List.getElem_replicate]; have := hy j (by omega); rwa [rd_at _ _ h1] at this
 have hrep : ∀ j : Nat, j < a → rd (List.replicate a (-1)) (j : Int) = -1 := fun j hj => (by rw [rd_at _ _ (by rw [List.length_replicate]; exact hj), List.getElem_replicate])
 have hM : Mid g a ((List.replicate a (-1)).set 0 (0 : Int)) := by
  have hl : (List.replicate a (-1 : Int)).length = a := List.length_replicate; have hz : rd ((List.replicate a (-1)).set 0 (0 : Int)) ((0 : Nat) : Int) = 0 := rd_set_eq _ 0 0 (by omega); have ht := tot_set neg1 0 (List.replicate a (-1)) 0 (by omega); have ht2 : tot neg1 (List.replicate a (-1)) = a := (by unfold tot; rw [List.map_replicate]; simp [neg1]); have e1 : neg1 0 = 0 := rfl; have e2 : neg1 (rd (List.replicate a (-1)) ((0 : Nat) : Int)) = 1 := (by rw [hrep 0 (by omega)]; rfl); refine ⟨by rw [List.length_set, hl], hz, fun i hi => ?_, fun i hi => ?_⟩
  ·by_cases e : i = 0
   ·subst e; rw [hz]; exact .inr ⟨by omega, Sums.zero g, by simp⟩
   ·rw [rd_set_ne _ _ _ _ (fun q => e q.symm)]; exact .inl (hrep i hi)
  ·by_cases e : i = 0
   ·subst e; rw [hz]; omega
   ·rw [rd_set_ne _ _ _ _ (fun q => e q.symm), hrep i hi]; omega
 obtain ⟨res, r1, r2⟩ := impl_leasts_l1 g a hg hlen ha1 ha _ _ hM rfl; refine ⟨res, r1, ?_⟩; unfold aj.f; rw [Int.toNat_natCast]; refine Ev.pos (by omega) (Ev.pos (by omega) (Ev.some ?_)); rw [List.length_replicate]; exact impl_leasts_l0 g a ha a 0 (List.replicate a 0) (by omega) List.length_replicate (fun j hj => by omega) res (fun ys h1 h2 => by rw [first ys h1 h2]; exact r2) ha1
end
theorem asc_uniq : ∀ (l l' : List Int), asc l → asc l' → (∀ x, x ∈ l ↔ x ∈ l') → l = l'
 | [], [], _, _, _ => rfl
 | [], y :: l', _, _, h => absurd ((h y).2 (List.mem_cons_self ..)) (by simp)
 | x :: l, [], _, _, h => absurd ((h x).1 (List.mem_cons_self ..)) (by simp)
 | x :: l, y :: l', h1, h2, h => by
  have h1' := List.pairwise_cons.1 h1
  have h2' := List.pairwise_cons.1 h2
  have e : x = y := by
   rcases List.mem_cons.1 ((h x).1 (List.mem_cons_self ..)) with e | hx
   ·exact e
   ·rcases List.mem_cons.1 ((h y).2 (List.mem_cons_self ..)) with e | hy
    ·exact e.symm
    ·have a := h2'.1 x hx
     have b := h1'.1 y hy
     omega
  subst e
  rw [asc_uniq l l' h1'.2 h2'.2 (fun z => ⟨fun hz => by
   rcases List.mem_cons.1 ((h z).1 (List.mem_cons_of_mem _ hz)) with e | hz'
   ·subst e; exact absurd (h1'.1 z hz) (by omega)
   ·exact hz', fun hz => by
   rcases List.mem_cons.1 ((h z).2 (List.mem_cons_of_mem _ hz)) with e | hz'
   ·subst e; exact absurd (h2'.1 z hz) (by omega)
   ·exact hz'⟩)]
theorem asc_put (s : List Int) (hs : asc s) (x : Int) (p : Nat) (hp : p ≤ s.length) (hlo : ∀ h : 0 < p, s[p - 1] < x) (hhi : ∀ q (h : q < s.length), p ≤ q → x < s[q]) :
  asc ((s.take p ++ [x]) ++ s.drop p) ∧ ∀ y, y ∈ (s.take p ++ [x]) ++ s.drop p ↔ (y ∈ s ∨ y = x) := by
 have hm : ∀ y, y ∈ (s.take p ++ [x]) ++ s.drop p ↔ (y ∈ s ∨ y = x) := by
  intro y; rw [List.mem_append, List.mem_append, List.mem_singleton]; constructor
  ·rintro ((h | h) | h)
   ·exact .inl (List.mem_of_mem_take h)
   ·exact .inr h
   ·exact .inl (List.mem_of_mem_drop h)
  ·rintro (h | h)
   ·rw [← List.take_append_drop p s] at h; rcases List.mem_append.1 h with h | h
    ·exact .inl (.inl h)
    ·exact .inr h
   ·exact .inl (.inr h)
 refine ⟨?_, hm⟩; unfold asc at hs ⊢; have hs2 := hs; rw [← List.take_append_drop p s, List.pairwise_append] at hs2
 have hlt : ∀ y ∈ s.take p, y < x := by
  intro y hy; obtain ⟨q, hq, rfl⟩ := List.getElem_of_mem hy; rw [List.length_take] at hq; rw [List.getElem_take]; have h1 := hlo (by omega); by_cases e : q = p - 1
  ·subst e; exact h1
  ·exact Int.lt_trans (List.pairwise_iff_getElem.1 hs q (p - 1) (by omega) (by omega) (by omega)) h1
 have hgt : ∀ y ∈ s.drop p, x < y := (by intro y hy; obtain ⟨q, hq, rfl⟩ := List.getElem_of_mem hy; rw [List.length_drop] at hq; rw [List.getElem_drop]; exact hhi (p + q) (by omega) (by omega)); rw [List.pairwise_append, List.pairwise_append]; refine ⟨⟨hs2.1, List.pairwise_singleton _ _, fun a ha b hb => ?_⟩, hs2.2.1, fun a ha b hb => ?_⟩
 ·rw [List.mem_singleton.1 hb]; exact hlt a ha
 ·rcases List.mem_append.1 ha with ha | ha
  ·exact hs2.2.2 a ha b hb
  ·rw [List.mem_singleton.1 ha]; exact hgt b hb
theorem spec_SortList_l1 (l : List Int) (hl : l.length ≤ 1000000000000) (i : Nat) (hi : i < l.length) (s : List Int) (hs : asc s) (hsl : s.length ≤ i) (R : List Int → Prop)
  (next : ∀ s' : List Int, asc s' → s'.length ≤ i + 1 → (∀ y, y ∈ s' ↔ (y ∈ s ∨ y = l[i])) → ∃ r, R r ∧ Ev (fun k => af.l0 k l s' ((i + 1 : Nat) : Int)) r) :
  ∀ (p : Nat), p ≤ s.length → (∀ q (h : q < s.length), p ≤ q → l[i] < s[q]) → ∃ r, R r ∧ Ev (fun k => af.l1 k l s (i : Int) (p : Int)) r := by
 intro p
 have put : ∀ (p : Nat) (hp : p ≤ s.length), (∀ h : 0 < p, s[p - 1] < l[i]) → (∀ q (h : q < s.length), p ≤ q → l[i] < s[q]) →
   ∃ r, R r ∧ Ev (fun k => af.l0 k l ((s.take p ++ [l[i]]) ++ ([] ++ s.drop p)) ((i + 1 : Nat) : Int)) r := by
  intro p hp hlo hhi
  obtain ⟨h1, h2⟩ := asc_put s hs l[i] p hp hlo hhi
  rw [List.nil_append]
  exact next _ h1 (by simp; omega) h2
 induction p with
 | zero => intro hp hhi; obtain ⟨r, r1, r2⟩ := put 0 hp (fun h => by omega) hhi; refine ⟨r, r1, Ev.one (fun k => by rw [af.l1]) ?_⟩; rw [rd_at l i hi, w64_succ i (by omega), Int.toNat_natCast]; refine Ev.neg (by omega) (Ev.some (Ev.pos (by omega) (Ev.pos (by omega) (Ev.some (Ev.pos (by simp; omega) (Ev.some (Ev.some (Ev.pos (by omega) (Ev.pos (by omega) (Ev.pos (by simp) (Ev.some (Ev.pos (by simp; omega) r2))))))))))))
 | succ p ih =>
  intro hp hhi; have e1 : wrap64 (((p + 1 : Nat) : Int) - 1) = (p : Int) := (by rw [w64_of (by omega) (by omega)]; omega); by_cases hgt : s[p] > l[i]
  ·obtain ⟨r, r1, r2⟩ := ih (by omega) (fun q h hq => by
    by_cases e : q = p
    ·subst e; exact hgt
    ·exact hhi q h (by omega))
   refine ⟨r, r1, Ev.one (fun k => by rw [af.l1]) ?_⟩; rw [rd_at l i hi, e1, rd_at s p (by omega)]; exact Ev.pos (by omega) (Ev.pos (by omega) (Ev.pos (by omega) (Ev.pos (by omega) (Ev.pos (by omega) (Ev.pos hgt r2)))))
  ·by_cases heq : s[p] = l[i]
   ·obtain ⟨r, r1, r2⟩ := next s hs (by omega) (fun y => ⟨fun h => .inl h, fun h => by
     rcases h with h | h
     ·exact h
     ·rw [h, ← heq]; exact List.getElem_mem _⟩)
    refine ⟨r, r1, Ev.one (fun k => by rw [af.l1]) ?_⟩; rw [rd_at l i hi, e1, rd_at s p (by omega), w64_succ i (by omega)]; exact Ev.pos (by omega) (Ev.pos (by omega) (Ev.pos (by omega) (Ev.pos (by omega) (Ev.pos (by omega) (Ev.neg hgt (Ev.pos heq r2))))))
   ·obtain ⟨r, r1, r2⟩ := put (p + 1) hp (fun _ => by show s[p] < l[i]; omega) hhi; refine ⟨r, r1, Ev.one (fun k => by rw [af.l1]) ?_⟩; rw [rd_at l i hi, e1, rd_at s p (by omega), w64_succ i (by omega), Int.toNat_natCast]; refine Ev.pos (by omega) (Ev.pos (by omega) (Ev.pos (by omega) (Ev.pos (by omega) (Ev.pos (by omega) (Ev.neg hgt (Ev.neg heq ?_)))))); exact Ev.some (Ev.pos (by omega) (Ev.pos (by omega) (Ev.some (Ev.pos (by simp; omega) (Ev.some (Ev.some (Ev.pos (by simp; omega) (Ev.some (Ev.pos (by simp; omega) r2)))))))))
theorem spec_SortList_l0 (l : List Int) (hl : l.length ≤ 1000000000000) : ∀ (d i : Nat) (s : List Int), i + d = l.length → asc s → s.length ≤ i → (∀ y, y ∈ s ↔ y ∈ l.take i) →
  ∃ r, (asc r ∧ (∀ y, y ∈ r ↔ y ∈ l) ∧ r.length ≤ l.length) ∧ Ev (fun k => af.l0 k l s (i : Int)) r := by
 intro d
 induction d with
 | zero => intro i s hi hs hsl hm; rw [List.take_of_length_le (by omega)] at hm; refine ⟨s, ⟨hs, hm, by omega⟩, Ev.one (fun k => by rw [af.l0]) ?_⟩; exact Ev.neg (by omega) (Ev.now _)
 | succ d ih =>
  intro i s hi hs hsl hm; have hil : i < l.length := (by omega); have htake : l.take (i + 1) = l.take i ++ [l[i]] := (by rw [List.take_succ_eq_append_getElem hil])
  obtain ⟨r, r1, r2⟩ := spec_SortList_l1 l hl i hil s hs hsl (fun r => asc r ∧ (∀ y, y ∈ r ↔ y ∈ l) ∧ r.length ≤ l.length) (fun s' h1 h2 h3 => ih (i + 1) s' (by omega) h1 h2 (fun y => by
   rw [h3, htake, List.mem_append, List.mem_singleton, hm])) s.length (Nat.le_refl _) (fun q h hq => by omega)
  refine ⟨r, r1, Ev.one (fun k => by rw [af.l0]) ?_⟩; exact Ev.pos (by omega) r2
theorem spec_SortList_big (l : List Int) (hl : l.length ≤ 1000000000000) : ∃ r, (asc r ∧ (∀ y, y ∈ r ↔ y ∈ l) ∧ r.length ≤ l.length) ∧ Ev (fun k => af.f k l) r := by unfold af.f; exact spec_SortList_l0 l hl l.length 0 [] (by omega) List.Pairwise.nil (by simp) (fun y => by simp)
theorem spec_SortList_ev (l : List Int) (hl : l.length ≤ 1048576) : ∃ r, (asc r ∧ (∀ y, y ∈ r ↔ y ∈ l) ∧ r.length ≤ l.length) ∧ Ev (fun k => af.f k l) r := spec_SortList_big l (by omega)
def kept (l : List Int) (k : Nat) : Prop := k = 0 ∨ ¬ Sums (l.take k) (l.getD k 0)
noncomputable def keptB (l : List Int) (k : Nat) : Bool := @decide (kept l k) (Classical.propDecidable _)
theorem keptB_iff (l : List Int) (k : Nat) : keptB l k = true ↔ kept l k := by unfold keptB; exact @decide_eq_true_iff (kept l k) (Classical.propDecidable _)
noncomputable def minL (l : List Int) : List Int := ((List.range l.length).filter (keptB l)).map fun k => l.getD k 0
theorem range_getD (l : List Int) : (List.range l.length).map (fun k => l.getD k 0) = l := by
 apply List.ext_getElem
 ·simp
 ·intro i h1 h2; rw [List.getElem_map, List.getElem_range, List.getD_eq_getElem?_getD, List.getElem?_eq_getElem h2, Option.getD_some]
theorem minL_iff (l : List Int) : minL l = l ↔ ∀ k, k < l.length → kept l k := by
 constructor
 ·intro h k hk; have h1 : ((List.range l.length).filter (keptB l)).length = (List.range l.length).length := (by have := congrArg List.length h; unfold minL at this; rw [List.length_map] at this; rw [this, List.length_range]); rw [List.length_filter_eq_length_iff] at h1; exact (keptB_iff l k).1 (h1 k (List.mem_range.2 hk))
 ·intro h; unfold minL; rw [List.filter_eq_self.2 (fun k hk => (keptB_iff l k).2 (h k (List.mem_range.1 hk))), range_getD]
theorem minL_len (l : List Int) : (minL l).length ≤ l.length := by unfold minL; rw [List.length_map]; have := List.length_filter_le (keptB l) (List.range l.length); rwa [List.length_range] at this
theorem getD_at (l : List Int) (k : Nat) (h : k < l.length) : l.getD k 0 = l[k] := by rw [List.getD_eq_getElem?_getD, List.getElem?_eq_getElem h, Option.getD_some]
theorem spec_l3Minimal_l0 (l : List Int) (hl : l.length ≤ 1048576) (hr : ∀ x ∈ l, 1 ≤ x ∧ x ≤ 2000000) : ∀ (d i : Nat), i + d = l.length →
  Ev (fun k => al.l0 k (((List.range i).filter (keptB l)).map fun k => l.getD k 0) l (i : Int)) (minL l) := by
 intro d
 induction d with
 | zero => intro i hi; obtain rfl : i = l.length := (by omega); refine Ev.one (fun k => by rw [al.l0]) ?_; exact Ev.neg (by omega) (Ev.now _)
 | succ d ih =>
  intro i hi; have hil : i < l.length := (by omega); have hx := hr l[i] (List.getElem_mem hil); have hacc : (((List.range i).filter (keptB l)).map fun k => l.getD k 0).length < 17592186044416 := (by rw [List.length_map]; have := List.length_filter_le (keptB l) (List.range i); rw [List.length_range] at this; omega); have step : keptB l i = true → (((List.range (i + 1)).filter (keptB l)).map fun k => l.getD k 0) = (((List.range i).filter (keptB l)).map fun k => l.getD k 0) ++ [l[i]] := (by intro h; rw [List.range_succ, List.filter_append, List.filter_cons_of_pos h, List.filter_nil, List.map_append, List.map_cons, List.map_nil, getD_at l i hil]); have stay : keptB l i = false → (((List.range (i + 1)).filter (keptB l)).map fun k => l.getD k 0) = (((List.range i).filter (keptB l)).map fun k => l.getD k 0) := (by intro h; rw [List.range_succ, List.filter_append, List.filter_cons_of_neg (by rw [h]; decide), List.filter_nil, List.append_nil]); have ih := ih (i + 1) (by omega); refine Ev.one (fun k => by rw [al.l0]) ?_; rw [rd_at l i hil, w64_succ i (by omega), Int.toNat_natCast]; refine Ev.pos (by omega) ?_; by_cases h0 : i = 0
  ·subst h0; rw [step ((keptB_iff l 0).2 (.inl rfl))] at ih; exact Ev.pos (by omega) (Ev.pos (by omega) (Ev.pos hacc ih))
  ·obtain ⟨q, hq⟩ : ∃ q : Nat, l[i] = (q : Int) := ⟨l[i].toNat, by omega⟩; obtain ⟨t, t1, t2, t3⟩ := spec_l3Table_ev (l.take i) q (fun x hx => (hr x (List.mem_of_mem_take hx)).1) (by rw [List.length_take]; omega) (by omega); rw [hq]; rw [hq] at step; refine Ev.neg (by omega) (Ev.pos (by omega) (Ev.pos (by omega) (Ev.bnd t3 (Ev.pos (by omega) (Ev.pos (by omega) ?_))))); rw [rdOf_at]; by_cases hb : t.getD q false = true
   ·have hk : keptB l i = false := by
     rw [Bool.eq_false_iff]; intro h; rcases (keptB_iff l i).1 h with h | h
     ·exact h0 h
     ·rw [getD_at l i hil, hq] at h; exact h ((t2 q (Nat.le_refl _)).1 hb)
    rw [stay hk] at ih; exact Ev.pos hb ih
   ·have hk : keptB l i = true := (keptB_iff l i).2 (.inr (by
     rw [getD_at l i hil, hq]
     exact fun h => hb ((t2 q (Nat.le_refl _)).2 h)))
    rw [step hk] at ih; exact Ev.neg hb (Ev.pos hacc ih)
theorem spec_l3Minimal_ev (l : List Int) (hl : l.length ≤ 1048576) (hr : ∀ x ∈ l, 1 ≤ x ∧ x ≤ 2000000) :
  ∃ s, (asc s ∧ (∀ y, y ∈ s ↔ y ∈ l) ∧ s.length ≤ l.length) ∧ Ev (fun k => al.f k l) (minL s) := by obtain ⟨s, s1, s2⟩ := spec_SortList_ev l hl; refine ⟨s, s1, ?_⟩; unfold al.f; exact Ev.bnd s2 (spec_l3Minimal_l0 s (by have := s1.2.2; omega) (fun x hx => hr x ((s1.2.1 x).1 hx)) s.length 0 (by omega))
theorem gcdS_nat (x y : Nat) (hx : x ≤ 1000000) (hy : y ≤ 1000000) : gcdS (x : Int) (y : Int) = ((Nat.gcd x y : Nat) : Int) := by unfold gcdS; rw [if_pos ⟨by omega, by omega⟩]; rfl
structure Way (g : List Int) (a : Int) (d : Int) : Prop where
 up : ∀ n, (∃ m, Sums g m ∧ m % a = n % a) → ∃ m, Sums g m ∧ m % a = (n + d) % a
 down : ∀ n, (∃ m, Sums g m ∧ m % a = n % a) → ∃ m, Sums g m ∧ m % a = (n - d) % a
theorem Way.zero (g : List Int) (a : Int) : Way g a 0 := ⟨fun n h => by rwa [Int.add_zero], fun n h => by rwa [Int.sub_zero]⟩
theorem Way.add {g : List Int} {a d e : Int} (h : Way g a d) (k : Way g a e) : Way g a (d + e) :=
 ⟨fun n hn => by rw [← Int.add_assoc]; exact k.up _ (h.up n hn), fun n hn => by rw [show n - (d + e) = (n - d) - e from by omega]; exact k.down _ (h.down n hn)⟩
theorem Way.neg {g : List Int} {a d : Int} (h : Way g a d) : Way g a (-d) :=
 ⟨fun n hn => by have := h.down n hn; rwa [show n - d = n + -d from by omega] at this, fun n hn => by have := h.up n hn; rwa [show n + d = n - -d from by omega] at this⟩
theorem Way.mul {g : List Int} {a d : Int} (h : Way g a d) (k : Nat) : Way g a (d * (k : Int)) := by
 induction k with
 | zero => rw [show d * ((0 : Nat) : Int) = 0 from by simp]; exact Way.zero g a
 | succ k ih => rw [show d * ((k + 1 : Nat) : Int) = d * (k : Int) + d from by rw [Int.natCast_add, Int.mul_add]; simp]; exact ih.add h
theorem Way.mem {g : List Int} {a : Nat} {x : Int} (ha : 1 ≤ a) (hx : x ∈ g) : Way g (a : Int) x := by have up : ∀ n, (∃ m, Sums g m ∧ m % (a : Int) = n % (a : Int)) → ∃ m, Sums g m ∧ m % (a : Int) = (n + x) % (a : Int) := (by rintro n ⟨m, h1, h2⟩; exact ⟨m + x, h1.add hx, by rw [Int.add_emod, h2, ← Int.add_emod]⟩); refine ⟨up, fun n hn => ?_⟩; obtain ⟨m, h1, h2⟩ := hn; refine ⟨m + ((a - 1 : Nat) : Int) * x, h1.both (Sums.times hx (a - 1)), ?_⟩; have e : n - x + (a : Int) * x = n + ((a - 1 : Nat) : Int) * x := (by obtain ⟨b, rfl⟩ : ∃ b, a = b + 1 := ⟨a - 1, by omega⟩; rw [Nat.add_sub_cancel, Int.natCast_add, Int.add_mul]; simp; omega); rw [Int.add_emod, h2, ← Int.add_emod, ← e, Int.add_mul_emod_self_left]
theorem Way.gcd {g : List Int} {a : Int} (x y : Nat) : Way g a (x : Int) → Way g a (y : Int) → Way g a ((Nat.gcd x y : Nat) : Int) := by
 induction x, y using Nat.gcd.induction with
 | H0 y => intro _ h; rw [Nat.gcd_zero_left]; exact h
 | H1 x y hx ih => intro h1 h2; rw [Nat.gcd_rec]; refine ih ?_ h1; have e : ((y % x : Nat) : Int) = (y : Int) + -((x : Int) * ((y / x : Nat) : Int)) := (by have := Nat.mod_add_div y x; rw [← Int.natCast_mul]; omega); rw [e]; exact h2.add (h1.mul (y / x)).neg
theorem Way.list {g : List Int} {a : Int} : ∀ (l : List Int) (x : Nat), x ≤ 1000000 → (∀ y ∈ l, 1 ≤ y ∧ y ≤ 1000000) → Way g a (x : Int) → (∀ y ∈ l, Way g a y) → Way g a (l.foldl gcdS (x : Int))
 | [], x, _, _, h, _ => h
 | y :: l, x, hx, hl, h, hw => by
  have hy := hl y (List.mem_cons_self ..)
  obtain ⟨z, rfl⟩ : ∃ z : Nat, y = (z : Int) := ⟨y.toNat, by omega⟩
  rw [List.foldl_cons, gcdS_nat x z hx (by omega)]
  refine Way.list l _ ?_ (fun w hw' => hl w (List.mem_cons_of_mem _ hw')) (Way.gcd x z h (hw _ (List.mem_cons_self ..))) (fun w hw' => hw w (List.mem_cons_of_mem _ hw'))
  exact Nat.le_trans (Nat.gcd_le_right x (by omega)) (by omega)
theorem residues (g : List Int) (a : Nat) (ha : 1 ≤ a) (hg : ∀ x ∈ g, 1 ≤ x ∧ x ≤ 60) (h1 : gcdL g = 1) (i : Nat) : ∃ m, Sums g m ∧ m % (a : Int) = (i : Int) % (a : Int) := by
 have w : Way g (a : Int) 1 := (by rw [← h1]; exact Way.list g 0 (by omega) (fun y hy => by have := hg y hy; omega) (Way.zero g a) (fun y hy => Way.mem ha hy))
 induction i with
 | zero => exact ⟨0, Sums.zero g, by simp⟩
 | succ i ih => exact w.up _ ih
structure SG (g : List Int) : Prop where
 len1 : 1 ≤ g.length
 len2 : g.length ≤ 12
 rng : ∀ x ∈ g, 1 ≤ x ∧ x ≤ 60
 up : asc g
 gcd1 : gcdL g = 1
 free : ∀ k, k < g.length → kept g k
 ends : ∀ n : Int, 200 ≤ n → Sums g n
theorem spec_l3Gens_l0 (l : List Int) (hl : l.length ≤ 1048576) : ∀ (d i : Nat), i + d = l.length → Ev (fun k => ba.l0 k l (i : Int)) (allIn (l.drop i) 1 60 && decide ((1 : Int) ≤ (l.length : Int) ∧ (l.length : Int) ≤ 20)) := by
 intro d
 induction d with
 | zero => intro i hi; rw [List.drop_eq_nil_of_le (by omega)]; refine Ev.one (fun k => by rw [ba.l0]) ?_; exact Ev.neg (by omega) (Ev.bnd (spec_l1In_ev _ _ _) (Ev.now _))
 | succ d ih =>
  intro i hi; rw [List.drop_eq_getElem_cons (show i < l.length by omega)]; refine Ev.one (fun k => by rw [ba.l0]) ?_; rw [rd_at l i (by omega), w64_succ i (by omega)]; refine Ev.pos (by omega) (Ev.pos (by omega) (Ev.bnd (spec_l1In_ev _ _ _) ?_)); by_cases h : (1 : Int) ≤ l[i] ∧ l[i] ≤ 60
  ·rw [allIn_cons _ _ _ _ h]; exact Ev.pos (decide_eq_true h) (ih (i + 1) (by omega))
  ·rw [allIn_cons_not _ _ _ _ h]; exact Ev.neg (by rw [decide_eq_false h]; decide) (Ev.now _)
theorem spec_l3Gens_ev (l : List Int) (hl : l.length ≤ 1048576) : Ev (fun k => ba.f k l) (allIn l 1 60 && decide ((1 : Int) ≤ (l.length : Int) ∧ (l.length : Int) ≤ 20)) := by unfold ba.f; exact spec_l3Gens_l0 l hl l.length 0 (by omega)
theorem impl_usable_ev (l : List Int) (hl : l.length ≤ 1048576) : Ev (fun k => bM.f k l) (allIn l 1 60 && decide ((1 : Int) ≤ (l.length : Int) ∧ (l.length : Int) ≤ 20)) := by
 unfold bM.f; refine Ev.bnd (impl_within_ev _ _ _) ?_; by_cases h : (1 : Int) ≤ (l.length : Int) ∧ (l.length : Int) ≤ 20
 ·rw [decide_eq_true h, Bool.and_true]; exact Ev.pos rfl (Ev.bnd (impl_allWithin_ev l 1 60 (by omega)) (Ev.now _))
 ·rw [decide_eq_false h, Bool.and_false]; exact Ev.neg (by decide) (Ev.now _)
theorem spec_l2Same_l0 (a b : List Int) (hab : a.length = b.length) (hl : a.length ≤ 1048576) : ∀ (d i : Nat), i + d = a.length → ∃ r, (r = true ↔ a.drop i = b.drop i) ∧ Ev (fun k => bl.l0 k a b (i : Int)) r := by
 intro d
 induction d with
 | zero => intro i hi; refine ⟨true, by rw [List.drop_eq_nil_of_le (show a.length ≤ i by omega), List.drop_eq_nil_of_le (show b.length ≤ i by omega)]; simp, Ev.one (fun k => by rw [bl.l0]) ?_⟩; exact Ev.neg (by omega) (Ev.now _)
 | succ d ih =>
  intro i hi; rw [List.drop_eq_getElem_cons (show i < a.length by omega), List.drop_eq_getElem_cons (show i < b.length by omega)]; by_cases h : a[i] = b[i]
  ·obtain ⟨r, r1, r2⟩ := ih (i + 1) (by omega); refine ⟨r, by rw [r1, h, List.cons.injEq]; simp, Ev.one (fun k => by rw [bl.l0]) ?_⟩; rw [rd_at a i (by omega), rd_at b i (by omega), w64_succ i (by omega)]; exact Ev.pos (by omega) (Ev.pos (by omega) (Ev.pos (by omega) (Ev.pos h r2)))
  ·refine ⟨false, ⟨(fun e => by cases e), fun e => absurd (List.cons.inj e).1 h⟩, Ev.one (fun k => by rw [bl.l0]) ?_⟩; rw [rd_at a i (by omega), rd_at b i (by omega)]; exact Ev.pos (by omega) (Ev.pos (by omega) (Ev.pos (by omega) (Ev.neg h (Ev.now _))))
theorem spec_l2Same_ev (a b : List Int) (hl : a.length ≤ 1048576) : ∃ r, (r = true ↔ a = b) ∧ Ev (fun k => bl.f k a b) r := by
 unfold bl.f; by_cases h : a.length = b.length
 ·obtain ⟨r, r1, r2⟩ := spec_l2Same_l0 a b h hl a.length 0 (by omega); exact ⟨r, by rw [r1]; simp, Ev.pos (by omega) r2⟩
 ·exact ⟨false, ⟨(fun e => by cases e), fun e => absurd (congrArg List.length e) h⟩, Ev.neg (by omega) (Ev.now _)⟩
theorem spec_l3Ends_l0 (g : List Int) (a : Nat) (h0 : 0 < g.length) (hg0 : rd g 0 = (a : Int)) (ha : 1 ≤ a ∧ a ≤ 60) (t : List Bool) (ht : t.length = 261) (hs : ∀ m : Nat, m ≤ 260 → (t.getD m false = true ↔ Sums g (m : Int))) :
  ∀ (d n : Nat), n + d = 200 + a → 200 ≤ n → ∃ r, (r = true ↔ ∀ m : Nat, n ≤ m → m < 200 + a → Sums g (m : Int)) ∧ Ev (fun k => b8.l0 k g t (n : Int)) r := by
 intro d; have e1 : wrap64 (200 + (a : Int)) = 200 + (a : Int) := w64_of (by omega) (by omega)
 induction d with
 | zero => intro n hn hn2; refine ⟨true, ⟨fun _ m h1 h2 => by omega, fun _ => rfl⟩, Ev.one (fun k => by rw [b8.l0]) ?_⟩; rw [hg0, e1]; exact Ev.pos (by omega) (Ev.neg (by omega) (Ev.now _))
 | succ d ih =>
  intro n hn hn2; by_cases h : t.getD n false = true
  ·obtain ⟨r, r1, r2⟩ := ih (n + 1) (by omega) (by omega); refine ⟨r, ?_, Ev.one (fun k => by rw [b8.l0]) ?_⟩
   ·rw [r1]
    exact ⟨fun q m h1 h2 => by
     by_cases e : m = n
     ·subst e; exact (hs m (by omega)).1 h
     ·exact q m (by omega) h2, fun q m h1 h2 => q m (by omega) h2⟩
   ·rw [hg0, e1, rdOf_at, w64_succ n (by omega)]; exact Ev.pos (by omega) (Ev.pos (by omega) (Ev.pos (by omega) (Ev.pos (by omega) (Ev.pos h r2))))
  ·refine ⟨false, ⟨(fun e => by cases e), fun q => absurd ((hs n (by omega)).2 (q n (by omega) (by omega))) h⟩, Ev.one (fun k => by rw [b8.l0]) ?_⟩; rw [hg0, e1, rdOf_at]; exact Ev.pos (by omega) (Ev.pos (by omega) (Ev.pos (by omega) (Ev.pos (by omega) (Ev.neg h (Ev.now _)))))
theorem ends_iff (g : List Int) (a : Nat) (h0 : 0 < g.length) (hg0 : rd g 0 = (a : Int)) (ha : 1 ≤ a) : (∀ m : Nat, 200 ≤ m → m < 200 + a → Sums g (m : Int)) ↔ ∀ n : Int, 200 ≤ n → Sums g n := by
 have hmem : (a : Int) ∈ g := (by have : rd g ((0 : Nat) : Int) = g[0] := rd_at g 0 h0; rw [← hg0]; exact this ▸ List.getElem_mem h0); constructor
 ·intro h n hn; obtain ⟨q, rfl⟩ : ∃ q : Nat, n = 200 + (q : Int) := ⟨(n - 200).toNat, by omega⟩; have e : (200 : Int) + (q : Int) = ((200 + q % a : Nat) : Int) + ((q / a : Nat) : Int) * (a : Int) := (by have := Nat.mod_add_div q a; rw [← Int.natCast_mul, Nat.mul_comm]; omega); rw [e]; exact (h (200 + q % a) (by omega) (by have := Nat.mod_lt q (show 0 < a by omega); omega)).both (Sums.times hmem _)
 ·intro h m h1 _; exact h m (by omega)
theorem first_of (g : List Int) (h0 : 0 < g.length) (hr : ∀ x ∈ g, 1 ≤ x ∧ x ≤ 60) : ∃ a : Nat, rd g 0 = (a : Int) ∧ 1 ≤ a ∧ a ≤ 60 ∧ (a : Int) ∈ g := by
 have e : rd g ((0 : Nat) : Int) = g[0] := rd_at g 0 h0; have h := hr g[0] (List.getElem_mem h0); refine ⟨g[0].toNat, ?_, by omega, by omega, ?_⟩
 ·show rd g ((0 : Nat) : Int) = _; rw [e]; omega
 ·rw [show ((g[0].toNat : Nat) : Int) = g[0] from by omega]; exact List.getElem_mem h0
theorem spec_l3Ends_ev (g : List Int) (h0 : 0 < g.length) (hlen : g.length ≤ 1048576) (hr : ∀ x ∈ g, 1 ≤ x ∧ x ≤ 60) : ∃ r, (r = true ↔ ∀ n : Int, 200 ≤ n → Sums g n) ∧ Ev (fun k => b8.f k g) r := by obtain ⟨a, ha, ha1, ha2, _⟩ := first_of g h0 hr; obtain ⟨t, t1, t2, t3⟩ := spec_l3Table_ev g 260 (fun x hx => (hr x hx).1) hlen (by omega); obtain ⟨r, r1, r2⟩ := spec_l3Ends_l0 g a h0 ha ⟨ha1, ha2⟩ t t1 t2 a 200 (by omega) (Nat.le_refl _); refine ⟨r, r1.trans (ends_iff g a h0 ha ha1), ?_⟩; unfold b8.f; exact Ev.bnd t3 r2
theorem spec_IsSemigroup_ev (g : List Int) (hlen : g.length ≤ 1048576) : ∃ b, (b = true ↔ SG g) ∧ Ev (fun k => ak.f k g) b := by
 unfold ak.f; by_cases h1 : allIn g 1 60 = true ∧ ((1 : Int) ≤ (g.length : Int) ∧ (g.length : Int) ≤ 20)
 ·have hr := (allIn_iff g 1 60).1 h1.1; have e1 : (allIn g 1 60 && decide ((1 : Int) ≤ (g.length : Int) ∧ (g.length : Int) ≤ 20)) = true := (by rw [h1.1, decide_eq_true h1.2]; rfl); by_cases h2 : (g.length : Int) ≤ 12
  ·obtain ⟨b3, b3i, b3e⟩ := spec_IsAscending_ev g hlen
   cases b3 with
   | false => exact ⟨false, ⟨(fun e => by cases e), fun e => by have := b3i.2 e.up; cases this⟩, Ev.bnd (spec_l3Gens_ev g hlen) (Ev.pos e1 (Ev.pos h2 (Ev.bnd b3e (Ev.neg (by decide) (Ev.now _)))))⟩
   | true =>
    have hup := b3i.1 rfl; by_cases h4 : gcdL g = 1
    ·obtain ⟨s, s1, s2⟩ := spec_l3Minimal_ev g hlen (fun x hx => by have := hr x hx; omega); obtain rfl : s = g := asc_uniq s g s1.1 hup s1.2.1; obtain ⟨b5, b5i, b5e⟩ := spec_l2Same_ev (minL s) s (by have := minL_len s; omega)
     cases b5 with
     | false => exact ⟨false, ⟨(fun e => by cases e), fun e => by have := b5i.2 ((minL_iff s).2 e.free); cases this⟩, Ev.bnd (spec_l3Gens_ev s hlen) (Ev.pos e1 (Ev.pos h2 (Ev.bnd b3e (Ev.pos rfl (Ev.bnd (spec_GcdOfList_ev s hlen) (Ev.pos h4 (Ev.bnd s2 (Ev.bnd b5e (Ev.neg (by decide) (Ev.now _))))))))))⟩
     | true => obtain ⟨b6, b6i, b6e⟩ := spec_l3Ends_ev s (by omega) hlen hr; refine ⟨b6, ⟨fun e => ⟨by omega, by omega, hr, hup, h4, (minL_iff s).1 (b5i.1 rfl), b6i.1 e⟩, fun e => b6i.2 e.ends⟩, ?_⟩; exact Ev.bnd (spec_l3Gens_ev s hlen) (Ev.pos e1 (Ev.pos h2 (Ev.bnd b3e (Ev.pos rfl (Ev.bnd (spec_GcdOfList_ev s hlen) (Ev.pos h4 (Ev.bnd s2 (Ev.bnd b5e (Ev.pos rfl (Ev.bnd b6e (Ev.now _)))))))))))
    ·exact ⟨false, ⟨(fun e => by cases e), fun e => absurd e.gcd1 h4⟩, Ev.bnd (spec_l3Gens_ev g hlen) (Ev.pos e1 (Ev.pos h2 (Ev.bnd b3e (Ev.pos rfl (Ev.bnd (spec_GcdOfList_ev g hlen) (Ev.neg h4 (Ev.now _)))))))⟩
  ·exact ⟨false, ⟨(fun e => by cases e), fun e => by have := e.len2; omega⟩, Ev.bnd (spec_l3Gens_ev g hlen) (Ev.pos e1 (Ev.neg h2 (Ev.now _)))⟩
 ·refine ⟨false, ⟨(fun e => by cases e), fun e => absurd ⟨(allIn_iff g 1 60).2 e.rng, by have := e.len1; have := e.len2; omega⟩ h1⟩, Ev.bnd (spec_l3Gens_ev g hlen) (Ev.neg (fun e => h1 ?_) (Ev.now _))⟩; rw [Bool.and_eq_true, decide_eq_true_eq] at e; exact e
theorem impl_Generates_ev (g : List Int) (n : Int) (h1 : 1 ≤ g.length) (h2 : g.length ≤ 20) (hr : ∀ x ∈ g, 1 ≤ x ∧ x ≤ 60) (hn0 : 0 ≤ n) (hn1 : n ≤ 1000000) :
  ∃ b, (b = true ↔ Sums g n) ∧ Ev (fun k => aZ.f k g n) b := by
 obtain ⟨a, ha, ha1, ha2, hmem⟩ := first_of g (by omega) hr; obtain ⟨res, L, e⟩ := impl_leasts_ev g a hr (by omega) ha1 ha2; have hlr := L.len; obtain ⟨q, rfl⟩ : ∃ q : Nat, n = (q : Int) := ⟨n.toNat, by omega⟩; have e1 : (allIn g 1 60 && decide ((1 : Int) ≤ (g.length : Int) ∧ (g.length : Int) ≤ 20)) = true := (by rw [(allIn_iff g 1 60).2 hr, decide_eq_true (by omega)]; rfl); have e2 : Int.tmod (q : Int) (a : Int) = ((q % a : Nat) : Int) := tmod_nat q a; have hlt := Nat.mod_lt q (show 0 < a by omega); have hmod : (q : Int) % (a : Int) = ((q % a : Nat) : Int) := (by simp); have pre : ∀ b, Ev (fun _ : Nat => if rd res ((q % a : Nat) : Int) ≥ 0 then (some (decide (rd res ((q % a : Nat) : Int) ≤ (q : Int)))) else (some false)) b → Ev (fun k => aZ.f k g (q : Int)) b := (by intro b hb; unfold aZ.f; rw [ha, e2]; exact Ev.bnd (impl_usable_ev g (by omega)) (Ev.pos e1 (Ev.bnd (impl_within_ev _ _ _) (Ev.pos (decide_eq_true ⟨hn0, hn1⟩) (Ev.pos (by omega) (Ev.bnd e (Ev.neg (by omega) (Ev.pos (by omega) (Ev.pos (by omega) hb))))))))); rcases L.row (q % a) hlt with ⟨h3, h4⟩ | ⟨h3, h4, h5, h6, h7⟩
 ·exact ⟨false, ⟨(fun e => by cases e), fun e => absurd hmod (h4 _ e)⟩, pre _ (Ev.neg (by omega) (Ev.now _))⟩
 ·refine ⟨decide (rd res ((q % a : Nat) : Int) ≤ (q : Int)), ?_, pre _ (Ev.pos h3 (Ev.now _))⟩; rw [decide_eq_true_eq]; refine ⟨fun h => ?_, fun h => h7 _ h hmod⟩; obtain ⟨p, hp⟩ : ∃ p : Nat, rd res ((q % a : Nat) : Int) = (p : Int) := ⟨(rd res ((q % a : Nat) : Int)).toNat, by omega⟩; rw [hp] at h h5 h6; have h6' : p % a = q % a := (by have : ((p % a : Nat) : Int) = ((q % a : Nat) : Int) := (by rw [← h6]; simp); omega); have e3 : (q : Int) = (p : Int) + ((q / a - p / a : Nat) : Int) * (a : Int) := (by have m1 := Nat.mod_add_div q a; have m2 := Nat.mod_add_div p a; have m3 : p / a ≤ q / a := Nat.div_le_div_right (by omega); obtain ⟨c, hc⟩ : ∃ c, q / a = p / a + c := ⟨q / a - p / a, by omega⟩; rw [hc, Nat.add_sub_cancel_left, ← Int.natCast_mul]; rw [hc, Nat.mul_add] at m1; have : a * c = c * a := Nat.mul_comm a c; omega); rw [e3]; exact h5.both (Sums.times hmem _)
theorem impl_IsSemigroup_l1 (g : List Int) (a : Nat) (h0 : 0 < g.length) (hg0 : rd g 0 = (a : Int)) (ha : 1 ≤ a ∧ a ≤ 60) (t : List Int) (ht : t.length = a) (hb : ∀ i : Nat, i < a → -1 ≤ rd t (i : Int) ∧ rd t (i : Int) ≤ 3600) :
  ∀ (d i : Nat), i + d = a → ∃ r, (r = true ↔ ∀ j : Nat, i ≤ j → j < a → rd t (j : Int) - (a : Int) < 200) ∧ Ev (fun k => ag.l1 k g t (a : Int) (i : Int)) r := by
 intro d
 induction d with
 | zero => intro i hi; refine ⟨true, ⟨fun _ j h1 h2 => by omega, fun _ => rfl⟩, Ev.one (fun k => by rw [ag.l1]) ?_⟩; exact Ev.neg (by omega) (Ev.now _)
 | succ d ih =>
  intro i hi; have hbi := hb i (by omega); have e1 : wrap64 (rd t (i : Int) - (a : Int)) = rd t (i : Int) - (a : Int) := w64_of (by omega) (by omega); by_cases h : rd t (i : Int) - (a : Int) ≥ 200
  ·refine ⟨false, ⟨(fun e => by cases e), fun q => by have := q i (Nat.le_refl _) (by omega); omega⟩, Ev.one (fun k => by rw [ag.l1]) ?_⟩; rw [hg0, e1]; exact Ev.pos (by omega) (Ev.pos (by omega) (Ev.pos (by omega) (Ev.pos (by omega) (Ev.pos h (Ev.now _)))))
  ·obtain ⟨r, r1, r2⟩ := ih (i + 1) (by omega); refine ⟨r, ?_, Ev.one (fun k => by rw [ag.l1]) ?_⟩
   ·rw [r1]
    exact ⟨fun q j h1 h2 => by
     by_cases e : j = i
     ·subst e; omega
     ·exact q j (by omega) h2, fun q j h1 h2 => q j (by omega) h2⟩
   ·rw [hg0, e1, w64_succ i (by omega)]; exact Ev.pos (by omega) (Ev.pos (by omega) (Ev.pos (by omega) (Ev.pos (by omega) (Ev.neg h r2))))
theorem least_ends (g : List Int) (a : Nat) (t : List Int) (L : Least g a t) (ha1 : 1 ≤ a) (ha : (a : Int) ∈ g) (hg : ∀ x ∈ g, 1 ≤ x ∧ x ≤ 60) (h1 : gcdL g = 1) :
  (∀ j : Nat, 0 ≤ j → j < a → rd t (j : Int) - (a : Int) < 200) ↔ ∀ m : Nat, 200 ≤ m → m < 200 + a → Sums g (m : Int) := by
 constructor
 ·intro h m hm1 hm2; have hlt := Nat.mod_lt m (show 0 < a by omega); have hm := h (m % a) (by omega) hlt; rcases L.row (m % a) hlt with ⟨_, h4⟩ | ⟨h3, h4, h5, h6, h7⟩
  ·obtain ⟨q, q1, q2⟩ := residues g a ha1 hg h1 m; exact absurd (q2.trans (by simp)) (h4 q q1)
  ·obtain ⟨p, hp⟩ : ∃ p : Nat, rd t ((m % a : Nat) : Int) = (p : Int) := ⟨(rd t ((m % a : Nat) : Int)).toNat, by omega⟩; rw [hp] at h5 h6 hm; have h6' : p % a = m % a := (by have : ((p % a : Nat) : Int) = ((m % a : Nat) : Int) := (by rw [← h6]; simp); omega); have m1 := Nat.mod_add_div m a; have m2 := Nat.mod_add_div p a
   have m3 : p / a ≤ m / a := by
    rcases Nat.lt_or_ge (m / a) (p / a) with hlt2 | hge
    ·obtain ⟨c, hc⟩ : ∃ c, p / a = m / a + 1 + c := ⟨p / a - m / a - 1, by omega⟩; rw [hc, Nat.mul_add, Nat.mul_add] at m2; omega
    ·exact hge
   have e3 : (m : Int) = (p : Int) + ((m / a - p / a : Nat) : Int) * (a : Int) := (by obtain ⟨c, hc⟩ : ∃ c, m / a = p / a + c := ⟨m / a - p / a, by omega⟩; rw [hc, Nat.add_sub_cancel_left, ← Int.natCast_mul]; rw [hc, Nat.mul_add] at m1; have : a * c = c * a := Nat.mul_comm a c; omega); rw [e3]; exact h5.both (Sums.times ha _)
 ·intro h j _ hj; rcases L.row j hj with ⟨h3, _⟩ | ⟨h3, h4, h5, h6, h7⟩
  ·omega
  ·-- the one number of the range with this remainder
   obtain ⟨m, m1, m2, m3⟩ : ∃ m : Nat, 200 ≤ m ∧ m < 200 + a ∧ m % a = j := by
    by_cases c : 200 % a ≤ j
    ·refine ⟨200 + (j - 200 % a), by omega, by omega, ?_⟩; have := Nat.mod_add_div 200 a; rw [show 200 + (j - 200 % a) = j + a * (200 / a) from by omega, Nat.add_mul_mod_self_left, Nat.mod_eq_of_lt hj]
    ·have hlt := Nat.mod_lt 200 (show 0 < a by omega); refine ⟨200 + (a + j - 200 % a), by omega, by omega, ?_⟩; have := Nat.mod_add_div 200 a; rw [show 200 + (a + j - 200 % a) = j + a * (200 / a + 1) from by rw [Nat.mul_add]; omega, Nat.add_mul_mod_self_left, Nat.mod_eq_of_lt hj]
   have := h7 m (h m m1 m2) (by rw [← m3]; simp); omega
theorem impl_IsSemigroup_l0 (g : List Int) (hl : 1 ≤ g.length) (hl2 : g.length ≤ 12) (hr : ∀ x ∈ g, 1 ≤ x ∧ x ≤ 60) (h1 : gcdL g = 1) :
  ∀ (d i : Nat), i + d = g.length → 1 ≤ i → ∃ r, (r = true ↔ (∀ k, i ≤ k → k < g.length → kept g k) ∧ ∀ n : Int, 200 ≤ n → Sums g n) ∧ Ev (fun k => ag.l0 k g (i : Int)) r := by
 intro d
 induction d with
 | zero =>
  intro i hi _; obtain ⟨a, ha, ha1, ha2, hmem⟩ := first_of g (by omega) hr; obtain ⟨t, L, e⟩ := impl_leasts_ev g a hr (by omega) ha1 ha2; have hlt := L.len; obtain ⟨r, r1, r2⟩ := impl_IsSemigroup_l1 g a (by omega) ha ⟨ha1, ha2⟩ t L.len (fun i hi => by rcases L.row i hi with ⟨h3, _⟩ | ⟨h3, h4, _⟩ <;> omega) a 0 (by omega); refine ⟨r, ?_, Ev.one (fun k => by rw [ag.l0]) ?_⟩
  ·rw [r1, least_ends g a t L ha1 hmem hr h1, ends_iff g a (by omega) ha ha1]; exact ⟨fun h => ⟨fun k h1 h2 => by omega, h⟩, fun h => h.2⟩
  ·rw [ha]; refine Ev.neg (by omega) (Ev.pos (by omega) (Ev.bnd e ?_)); rw [hlt]; exact r2
 | succ d ih =>
  intro i hi h2; have hil : i < g.length := (by omega); have hx := hr g[i] (List.getElem_mem hil); obtain ⟨b, b1, b2⟩ := impl_Generates_ev (g.take i) g[i] (by rw [List.length_take]; omega) (by rw [List.length_take]; omega) (fun x hx => hr x (List.mem_of_mem_take hx)) (by omega) (by omega)
  cases b with
  | true =>
   refine ⟨false, ⟨(fun e => by cases e), fun e => ?_⟩, Ev.one (fun k => by rw [ag.l0]) ?_⟩
   ·rcases e.1 i (Nat.le_refl _) hil with h | h
    ·omega
    ·rw [getD_at g i hil] at h; exact absurd (b1.1 rfl) h
   ·rw [rd_at g i hil, Int.toNat_natCast]; exact Ev.pos (by omega) (Ev.pos (by omega) (Ev.pos (by omega) (Ev.bnd b2 (Ev.pos rfl (Ev.now _)))))
  | false =>
   obtain ⟨r, r1, r2⟩ := ih (i + 1) (by omega) (by omega); refine ⟨r, ?_, Ev.one (fun k => by rw [ag.l0]) ?_⟩
   ·rw [r1]; refine ⟨fun e => ⟨fun k k1 k2 => ?_, e.2⟩, fun e => ⟨fun k k1 k2 => e.1 k (by omega) k2, e.2⟩⟩; by_cases ek : k = i
    ·subst ek; refine .inr ?_; rw [getD_at g k hil]; exact fun h => (by have := b1.2 h; cases this)
    ·exact e.1 k (by omega) k2
   ·rw [rd_at g i hil, Int.toNat_natCast, w64_succ i (by omega)]; exact Ev.pos (by omega) (Ev.pos (by omega) (Ev.pos (by omega) (Ev.bnd b2 (Ev.neg (by decide) r2))))
theorem impl_IsSemigroup_ev (g : List Int) (hlen : g.length ≤ 1048576) : ∃ b, (b = true ↔ SG g) ∧ Ev (fun k => ag.f k g) b := by
 have stop : ∀ x, Ev (fun k => ag.j0 k g true) x ↔ x = false := (by intro x; have h : Ev (fun k => ag.j0 k g true) false := (by refine Ev.one (fun k => by rw [ag.j0]) ?_; exact Ev.pos rfl (Ev.now _)); exact ⟨fun e => Ev.uniq e h, fun e => by rw [e]; exact h⟩); have stop := (stop false).2 rfl; unfold ag.f; by_cases h1 : (1 : Int) ≤ (g.length : Int) ∧ (g.length : Int) ≤ 12
 ·by_cases h2 : allIn g 1 60 = true
  ·have hr := (allIn_iff g 1 60).1 h2; obtain ⟨b3, b3i, b3e⟩ := impl_IsAscending_ev g hlen
   cases b3 with
   | false => exact ⟨false, ⟨(fun e => by cases e), fun e => by have := b3i.2 e.up; cases this⟩, Ev.bnd (impl_within_ev _ _ _) (Ev.pos (decide_eq_true h1) (Ev.bnd (impl_allWithin_ev g 1 60 (by omega)) (Ev.pos h2 (Ev.bnd b3e (Ev.neg (by decide) stop)))))⟩
   | true =>
    have hup := b3i.1 rfl; by_cases h4 : gcdL g = 1
    ·obtain ⟨r, r1, r2⟩ := impl_IsSemigroup_l0 g (by omega) (by omega) hr h4 (g.length - 1) 1 (by omega) (by omega); refine ⟨r, ⟨fun e => ⟨by omega, by omega, hr, hup, h4, fun k hk => ?_, (r1.1 e).2⟩, fun e => r1.2 ⟨fun k _ hk => e.free k hk, e.ends⟩⟩, ?_⟩
     ·by_cases e0 : k = 0
      ·exact .inl e0
      ·exact (r1.1 e).1 k (by omega) hk
     ·refine Ev.bnd (impl_within_ev _ _ _) (Ev.pos (decide_eq_true h1) (Ev.bnd (impl_allWithin_ev g 1 60 (by omega)) (Ev.pos h2 (Ev.bnd b3e (Ev.pos rfl (Ev.bnd (impl_GcdOfList_ev g hlen) ?_)))))); refine Ev.one (fun k => by rw [ag.j0]) ?_; exact Ev.neg (by rw [h4]; decide) r2
    ·refine ⟨false, ⟨(fun e => by cases e), fun e => absurd e.gcd1 h4⟩, Ev.bnd (impl_within_ev _ _ _) (Ev.pos (decide_eq_true h1) (Ev.bnd (impl_allWithin_ev g 1 60 (by omega)) (Ev.pos h2 (Ev.bnd b3e (Ev.pos rfl (Ev.bnd (impl_GcdOfList_ev g hlen) ?_))))))⟩; rw [show (gcdL g != 1) = true from by simpa using h4]; exact stop
  ·exact ⟨false, ⟨(fun e => by cases e), fun e => absurd ((allIn_iff g 1 60).2 e.rng) h2⟩, Ev.bnd (impl_within_ev _ _ _) (Ev.pos (decide_eq_true h1) (Ev.bnd (impl_allWithin_ev g 1 60 (by omega)) (Ev.neg h2 stop)))⟩
 ·exact ⟨false, ⟨(fun e => by cases e), fun e => absurd ⟨by have := e.len1; omega, by have := e.len2; omega⟩ h1⟩, Ev.bnd (impl_within_ev _ _ _) (Ev.neg (by rw [decide_eq_false h1]; decide) stop)⟩
theorem bool_same {b c : Bool} {p : Prop} (h : b = true ↔ p) (k : c = true ↔ p) : b = c := by
 cases b <;> cases c
 ·rfl
 ·exact absurd (h.2 (k.1 rfl)) (by decide)
 ·exact absurd (k.2 (h.1 rfl)) (by decide)
 ·rfl
theorem sg_both (g : List Int) (hlen : g.length ≤ 1048576) : ∃ b, (b = true ↔ SG g) ∧ Ev (fun k => ak.f k g) b ∧ Ev (fun k => ag.f k g) b := by obtain ⟨b, b1, b2⟩ := spec_IsSemigroup_ev g hlen; obtain ⟨c, c1, c2⟩ := impl_IsSemigroup_ev g hlen; obtain rfl := bool_same b1 c1; exact ⟨b, b1, b2, c2⟩
def dot : List Int → List Int → Int
 | x :: a, y :: b => x * y + dot a b
 | _, _ => 0
theorem dot_cons (x : Int) (a : List Int) (y : Int) (b : List Int) : dot (x :: a) (y :: b) = x * y + dot a b := rfl
theorem dot_nil (b : List Int) : dot [] b = 0 := by cases b <;> rfl
theorem mul_le60 {x y : Int} (hx : 0 ≤ x ∧ x ≤ 1000000) (hy : 1 ≤ y ∧ y ≤ 60) : 0 ≤ x * y ∧ x * y ≤ 60000000 := by have h1 : 0 ≤ x * y := Int.mul_nonneg hx.1 (by omega); have h2 : x * y ≤ 1000000 * 60 := Int.mul_le_mul hx.2 hy.2 (by omega) (by omega); omega
def downF (F : Int → List (List Int)) : Nat → List (List Int)
 | 0 => F 0
 | q + 1 => F ((q + 1 : Nat) : Int) ++ downF F q
def facL : List Int → Int → List (List Int)
 | [], n => if n = 0 then [[]] else []
 | g :: gs, n => downF (fun k => (facL gs (n - k * g)).map fun l => k :: l) (n / g).toNat
theorem downF_nil (F : Int → List (List Int)) : ∀ q : Nat, (∀ k : Nat, k ≤ q → F (k : Int) = []) → downF F q = []
 | 0, h => h 0 (Nat.le_refl _)
 | q + 1, h => by
  show F _ ++ downF F q = []
  rw [h (q + 1) (Nat.le_refl _), downF_nil F q (fun k hk => h k (by omega))]
  rfl
theorem downF_len (F : Int → List (List Int)) (c : Nat) : ∀ q : Nat, (∀ k : Nat, k ≤ q → (F (k : Int)).length ≤ c) → (downF F q).length ≤ c * (q + 1)
 | 0, h => by have := h 0 (Nat.le_refl _); show (F 0).length ≤ _; simpa using this
 | q + 1, h => by
  have h1 := h (q + 1) (Nat.le_refl _)
  have h2 := downF_len F c q (fun k hk => h k (by omega))
  show (F _ ++ downF F q).length ≤ _
  rw [List.length_append, Nat.mul_succ]
  omega
theorem downF_mem (F : Int → List (List Int)) (l : List Int) : ∀ q : Nat, l ∈ downF F q ↔ ∃ k : Nat, k ≤ q ∧ l ∈ F (k : Int)
 | 0 => by
  show l ∈ F 0 ↔ _
  exact ⟨fun h => ⟨0, Nat.le_refl _, h⟩, fun ⟨k, hk, h⟩ => by
   obtain rfl : k = 0 := by omega
   exact h⟩
 | q + 1 => by
  show l ∈ F _ ++ downF F q ↔ _
  rw [List.mem_append, downF_mem F l q]
  constructor
  ·rintro (h | ⟨k, hk, h⟩)
   ·exact ⟨q + 1, Nat.le_refl _, h⟩
   ·exact ⟨k, by omega, h⟩
  ·rintro ⟨k, hk, h⟩
   by_cases e : k = q + 1
   ·subst e; exact .inl h
   ·exact .inr ⟨k, by omega, h⟩
theorem facL_one (g : Nat) (hg : 1 ≤ g) (n : Nat) : facL [(g : Int)] (n : Int) = if n % g = 0 then [[((n / g : Nat) : Int)]] else [] := by
 have hd : ((n : Int) / (g : Int)).toNat = n / g := (by rw [← Int.natCast_ediv, Int.toNat_natCast]); show downF (fun k => (facL [] ((n : Int) - k * (g : Int))).map fun l => k :: l) ((n : Int) / (g : Int)).toNat = _; rw [hd]; have hm := Nat.div_add_mod n g; have hmlt := Nat.mod_lt n (show 0 < g by omega); have key : ∀ k : Nat, (n : Int) - (k : Int) * (g : Int) = 0 ↔ n = k * g := fun k => (by rw [← Int.natCast_mul]; omega); by_cases h : n % g = 0
 ·rw [if_pos h]; have hq : n = n / g * g := (by rw [Nat.mul_comm]; omega)
  cases hc : n / g with
  | zero => rw [hc] at hq; show (facL [] ((n : Int) - 0 * (g : Int))).map _ = _; have e : (n : Int) - 0 * (g : Int) = 0 := (by omega); rw [e]; rfl
  | succ q =>
   rw [hc] at hq; have e : (n : Int) - ((q + 1 : Nat) : Int) * (g : Int) = 0 := (key (q + 1)).2 hq; show (facL [] ((n : Int) - ((q + 1 : Nat) : Int) * (g : Int))).map _ ++ downF _ q = _
   rw [e, downF_nil _ q (fun k hk => by
    have e2 : ¬ (n : Int) - (k : Int) * (g : Int) = 0 := fun e3 => by
     have e4 := (key k).1 e3
     have : k * g < (q + 1) * g := Nat.mul_lt_mul_of_pos_right (by omega) (by omega)
     omega
    show (facL [] _).map _ = []
    unfold facL
    rw [if_neg e2]
    rfl)]
   rfl
 ·rw [if_neg h]; refine downF_nil _ _ (fun k hk => ?_); have e2 : ¬ (n : Int) - (k : Int) * (g : Int) = 0 := fun e3 => (by have e4 := (key k).1 e3; apply h; rw [e4, Nat.mul_mod_left]); show (facL [] _).map _ = []; unfold facL; rw [if_neg e2]; rfl
theorem facL_len (m : Nat) (hm : 1 ≤ m) : ∀ (gs : List Int) (n : Nat), gs ≠ [] → (∀ x ∈ gs, (m : Int) ≤ x) → n ≤ 100 → (facL gs (n : Int)).length ≤ (100 / m + 1) ^ (gs.length - 1)
 | [], _, h, _, _ => absurd rfl h
 | [x], n, _, hg, hn => by
  have hx := hg x (List.mem_cons_self ..)
  obtain ⟨g, rfl⟩ : ∃ g : Nat, x = (g : Int) := ⟨x.toNat, by omega⟩
  rw [facL_one g (by omega) n]
  split <;> simp
 | x :: y :: gs, n, _, hg, hn => by
  have hx := hg x (List.mem_cons_self ..)
  obtain ⟨g, rfl⟩ : ∃ g : Nat, x = (g : Int) := ⟨x.toNat, by omega⟩
  have hd : ((n : Int) / (g : Int)).toNat = n / g := by rw [← Int.natCast_ediv, Int.toNat_natCast]
  show (downF (fun k => (facL (y :: gs) ((n : Int) - k * (g : Int))).map fun l => k :: l) ((n : Int) / (g : Int)).toNat).length ≤ _
  rw [hd]
  refine Nat.le_trans (downF_len _ ((100 / m + 1) ^ ((y :: gs).length - 1)) (n / g) (fun k hk => ?_)) ?_
  ·rw [List.length_map]
   have hk2 : k * g ≤ n := Nat.le_trans (Nat.mul_le_mul_right g hk) (Nat.div_mul_le_self n g)
   have e : (n : Int) - (k : Int) * (g : Int) = ((n - k * g : Nat) : Int) := by rw [← Int.natCast_mul]; omega
   rw [e]
   exact facL_len m hm (y :: gs) (n - k * g) (by simp) (fun z hz => hg z (List.mem_cons_of_mem _ hz)) (by omega)
  ·have h1 : n / g ≤ 100 / m := Nat.le_trans (Nat.div_le_div_right hn) (Nat.div_le_div_left (by omega) (by omega))
   show (100 / m + 1) ^ gs.length * (n / g + 1) ≤ (100 / m + 1) ^ (gs.length + 1)
   rw [Nat.pow_succ]
   exact Nat.mul_le_mul_left _ (by omega)
theorem dot_nonneg : ∀ (l gs : List Int), (∀ x ∈ l, 0 ≤ x) → (∀ x ∈ gs, 0 ≤ x) → 0 ≤ dot l gs
 | [], gs, _, _ => by rw [dot_nil]; omega
 | _ :: _, [], _, _ => by show (0 : Int) ≤ 0; omega
 | x :: l, y :: gs, h1, h2 => by
  rw [dot_cons]
  have a := Int.mul_nonneg (h1 x (List.mem_cons_self ..)) (h2 y (List.mem_cons_self ..))
  have b := dot_nonneg l gs (fun z hz => h1 z (List.mem_cons_of_mem _ hz)) (fun z hz => h2 z (List.mem_cons_of_mem _ hz))
  omega
theorem facL_mem : ∀ (gs : List Int) (n : Nat) (l : List Int), (∀ x ∈ gs, 1 ≤ x) → (l ∈ facL gs (n : Int) ↔ l.length = gs.length ∧ (∀ x ∈ l, 0 ≤ x) ∧ dot l gs = (n : Int))
 | [], n, l, _ => by
  unfold facL
  constructor
  ·intro h
   split at h
   ·obtain rfl := List.mem_singleton.1 h
    rename_i h0
    exact ⟨rfl, by simp, by rw [dot_nil]; omega⟩
   ·simp at h
  ·rintro ⟨h1, _, h2⟩
   have : l = [] := List.length_eq_zero_iff.1 h1
   subst this
   rw [dot_nil] at h2
   rw [if_pos (by omega)]
   simp
 | x :: gs, n, l, hg => by
  have hx := hg x (List.mem_cons_self ..)
  obtain ⟨g, rfl⟩ : ∃ g : Nat, x = (g : Int) := ⟨x.toNat, by omega⟩
  have hd : ((n : Int) / (g : Int)).toNat = n / g := by rw [← Int.natCast_ediv, Int.toNat_natCast]
  show l ∈ downF (fun k => (facL gs ((n : Int) - k * (g : Int))).map fun l => k :: l) ((n : Int) / (g : Int)).toNat ↔ _
  rw [hd, downF_mem]
  constructor
  ·rintro ⟨k, hk, h⟩
   have hk2 : k * g ≤ n := Nat.le_trans (Nat.mul_le_mul_right g hk) (Nat.div_mul_le_self n g)
   have e : (n : Int) - (k : Int) * (g : Int) = ((n - k * g : Nat) : Int) := by rw [← Int.natCast_mul]; omega
   obtain ⟨l', hl', rfl⟩ := List.mem_map.1 h
   rw [e] at hl'
   obtain ⟨h1, h2, h3⟩ := (facL_mem gs (n - k * g) l' (fun z hz => hg z (List.mem_cons_of_mem _ hz))).1 hl'
   refine ⟨by rw [List.length_cons, List.length_cons, h1], fun z hz => ?_, ?_⟩
   ·rcases List.mem_cons.1 hz with rfl | hz
    ·omega
    ·exact h2 z hz
   ·rw [dot_cons, h3, ← Int.natCast_mul]
    omega
  ·rintro ⟨h1, h2, h3⟩
   cases l with
   | nil => simp at h1
   | cons y l' =>
    have hy := h2 y (List.mem_cons_self ..)
    obtain ⟨k, rfl⟩ : ∃ k : Nat, y = (k : Int) := ⟨y.toNat, by omega⟩
    rw [dot_cons, ← Int.natCast_mul] at h3
    have hdot : 0 ≤ dot l' gs := dot_nonneg l' gs (fun z hz => h2 z (List.mem_cons_of_mem _ hz)) (fun z hz => by have := hg z (List.mem_cons_of_mem _ hz); omega)
    have hk2 : k * g ≤ n := by omega
    have e : (n : Int) - (k : Int) * (g : Int) = ((n - k * g : Nat) : Int) := by rw [← Int.natCast_mul]; omega
    refine ⟨k, (Nat.le_div_iff_mul_le (by omega)).2 hk2, List.mem_map.2 ⟨l', ?_, rfl⟩⟩
    rw [e]
    exact (facL_mem gs (n - k * g) l' (fun z hz => hg z (List.mem_cons_of_mem _ hz))).2 ⟨by simpa using h1, fun z hz => h2 z (List.mem_cons_of_mem _ hz), by omega⟩
theorem nodup_len : ∀ (m : Nat) (l : List Nat), l.Nodup → (∀ x ∈ l, x < m) → l.length ≤ m
 | 0, l, _, h => by
  cases l with
  | nil => simp
  | cons x l => have := h x (List.mem_cons_self ..); omega
 | m + 1, l, hn, h => by
  have h1 := nodup_len m (l.erase m) (hn.erase m) (fun x hx => by
   have := (hn.mem_erase_iff).1 hx
   have := h x this.2
   omega)
  by_cases hm : m ∈ l
  ·rw [List.length_erase_of_mem hm] at h1
   omega
  ·rw [List.erase_of_not_mem hm] at h1
   omega
theorem SG.len_le (g : List Int) (h : SG g) (a : Nat) (ha : rd g 0 = (a : Int)) (ha1 : 1 ≤ a) : g.length ≤ a := by
 have hmem : ∀ i (hi : i < g.length), 1 ≤ g[i] ∧ g[i] ≤ 60 := fun i hi => h.rng _ (List.getElem_mem hi); have h0 : rd g ((0 : Nat) : Int) = g[0]'(by have := h.len1; omega) := rd_at g 0 (by have := h.len1; omega); have h0' : g[0]'(by have := h.len1; omega) = (a : Int) := (by rw [← h0]; exact ha)
 have key := nodup_len a (g.map fun x => x.toNat % a) ?_ (fun x hx => by
  obtain ⟨y, _, rfl⟩ := List.mem_map.1 hx
  exact Nat.mod_lt _ (by omega))
 ·rwa [List.length_map] at key
 ·rw [List.nodup_iff_pairwise_ne, List.pairwise_map, List.pairwise_iff_getElem]; intro i j hi hj hij e; have hlt := List.pairwise_iff_getElem.1 h.up i j hi hj hij; have hi1 := hmem i hi; have hj1 := hmem j hj; obtain ⟨x, hx⟩ : ∃ x : Nat, g[i] = (x : Int) := ⟨g[i].toNat, by omega⟩; obtain ⟨y, hy⟩ : ∃ y : Nat, g[j] = (y : Int) := ⟨g[j].toNat, by omega⟩; rw [hx, hy, Int.toNat_natCast, Int.toNat_natCast] at e; rw [hx, hy] at hlt; rcases h.free j hj with h1 | h1
  ·omega
  ·rw [getD_at g j hj, hy] at h1; apply h1; have m1 := Nat.mod_add_div x a; have m2 := Nat.mod_add_div y a; have m3 : x / a ≤ y / a := Nat.div_le_div_right (by omega); obtain ⟨c, hc⟩ : ∃ c, y / a = x / a + c := ⟨y / a - x / a, by omega⟩; have e3 : (y : Int) = (x : Int) + ((c : Nat) : Int) * (a : Int) := (by rw [hc, Nat.mul_add] at m2; have : a * c = c * a := Nat.mul_comm a c; rw [← Int.natCast_mul]; omega); rw [e3]; refine (Sums.one ?_).both (Sums.times ?_ c)
   ·rw [← hx]; have : g[i] = (g.take j)[i]'(by rw [List.length_take]; omega) := (by rw [List.getElem_take]); rw [this]; exact List.getElem_mem _
   ·rw [← h0']; have : g[0]'(by omega) = (g.take j)[0]'(by rw [List.length_take]; omega) := (by rw [List.getElem_take]); rw [this]; exact List.getElem_mem _
theorem asc_first (g : List Int) (h : asc g) (h0 : 0 < g.length) : ∀ x ∈ g, g[0] ≤ x := by
 intro x hx; obtain ⟨i, hi, rfl⟩ := List.getElem_of_mem hx; by_cases e : i = 0
 ·subst e; omega
 ·have := List.pairwise_iff_getElem.1 h 0 i h0 hi (by omega); omega
theorem pow_room : ∀ k : Nat, k ≤ 12 → 1 ≤ k → (100 / k + 1) ^ (k - 1) ≤ 100000000000 := by decide
theorem facL_room (g : List Int) (h : SG g) (gs : List Int) (hs : ∀ x ∈ gs, x ∈ g) (hl : gs.length ≤ g.length) (n : Nat) (hn : n ≤ 100) : (facL gs (n : Int)).length ≤ 100000000000 := by
 have hl1 := h.len1; have hl2 := h.len2; obtain ⟨a, ha, ha1, ha2, hmem⟩ := first_of g (by omega) h.rng; have hk := h.len_le g a ha ha1; have h0 : rd g ((0 : Nat) : Int) = g[0] := rd_at g 0 (by omega); have h0' : g[0] = (a : Int) := (by rw [← h0]; exact ha); by_cases e : gs = []
 ·subst e; unfold facL; split <;> simp
 ·have h1 := facL_len g.length hl1 gs n e (fun x hx => by
   have := asc_first g h.up (by omega) x (hs x hx)
   omega) hn
  have h2 : (100 / g.length + 1) ^ (gs.length - 1) ≤ (100 / g.length + 1) ^ (g.length - 1) := Nat.pow_le_pow_right (Nat.succ_pos _) (by omega); have h3 := pow_room g.length hl2 hl1; omega
theorem rd_L2_at (xs : List (List Int)) (i : Nat) (h : i < xs.length) : rd_L2 xs (i : Int) = xs[i] := by unfold rd_L2; rw [Int.toNat_natCast, List.getD_eq_getElem?_getD, List.getElem?_eq_getElem h, Option.getD_some]
theorem tdiv_nat (a b : Nat) : Int.tdiv (a : Int) (b : Int) = ((a / b : Nat) : Int) := by rw [Int.tdiv_eq_ediv_of_nonneg (by omega)]; simp
theorem left_nat (n q a : Nat) (hk2 : q * a ≤ n) (hn : n ≤ 100) : (n : Int) - (q : Int) * (a : Int) = ((n - q * a : Nat) : Int) ∧ wrap64 ((q : Int) * (a : Int)) = (q : Int) * (a : Int) ∧ wrap64 ((n : Int) - (q : Int) * (a : Int)) = ((n - q * a : Nat) : Int) ∧ n - q * a ≤ 100 := by generalize hx : q * a = x at hk2; have e0 : (q : Int) * (a : Int) = (x : Int) := (by rw [← hx, Int.natCast_mul]); rw [e0]; have e : (n : Int) - (x : Int) = ((n - x : Nat) : Int) := (by omega); exact ⟨e, w64_of (by omega) (by omega), by rw [e]; exact w64_of (by omega) (by omega), by omega⟩
theorem w64_pred (q : Nat) (h : q ≤ 1000000000000) : wrap64 (((q + 1 : Nat) : Int) - 1) = (q : Int) := by rw [w64_of (by omega) (by omega)]; omega
theorem w64_pred0 : wrap64 (((0 : Nat) : Int) - 1) = -1 := w64_of (by omega) (by omega)
theorem len_left {α : Type} (a b : List α) (c : Nat) (h : (a ++ b).length ≤ c) : a.length ≤ c := by rw [List.length_append] at h; omega
theorem downF_zero (F : Int → List (List Int)) : downF F 0 = F ((0 : Nat) : Int) := rfl
theorem fac_prefix (F : Int → List (List Int)) (acc : List (List Int)) (q : Nat) : (acc ++ F ((q + 1 : Nat) : Int)) ++ downF F q = acc ++ downF F (q + 1) := by rw [List.append_assoc]; rfl
section
variable (g : List Int) (hS : SG g)
include hS
theorem impl_factored_ev : ∀ (gs : List Int), (∀ x ∈ gs, x ∈ g) → gs.length ≤ g.length → ∀ n : Nat, n ≤ 100 → Ev (fun k => ao.f k gs (n : Int)) (facL gs (n : Int))
 | [], _, _, n, hn => by
  refine Ev.one (fun k => by rw [ao.f]) ?_
  unfold facL
  refine Ev.pos rfl ?_
  by_cases h : (n : Int) = 0
  ·simp only [if_pos h]; exact Ev.now _
  ·simp only [if_neg h]; exact Ev.now _
 | x :: gs, hs, hl, n, hn => by
  have ih := fun m hm => impl_factored_ev gs (fun y hy => hs y (List.mem_cons_of_mem _ hy)) (by simp at hl; omega) m hm
  have hx := hS.rng x (hs x (List.mem_cons_self ..))
  have hl12 := hS.len2
  have hlg : gs.length ≤ 12 := by simp at hl; omega
  obtain ⟨a, rfl⟩ : ∃ a : Nat, x = (a : Int) := ⟨x.toNat, by omega⟩
  have hd : ((n : Int) / (a : Int)).toNat = n / a := by rw [← Int.natCast_ediv, Int.toNat_natCast]
  have hroom := facL_room g hS ((a : Int) :: gs) hs hl n hn
  have e0 : rd ((a : Int) :: gs) 0 = (a : Int) := rfl
  have hdn : n / a ≤ n := Nat.div_le_self n a
  have hdw : wrap64 ((n / a : Nat) : Int) = ((n / a : Nat) : Int) := by
   generalize n / a = x at hdn
   exact w64_of (by omega) (by omega)
  refine Ev.one (fun k => by rw [ao.f]) ?_
  rw [e0, tdiv_nat, hdw]
  refine Ev.neg (by rw [List.length_cons]; omega) (Ev.pos (by rw [List.length_cons]; omega) (Ev.neg (by omega) ?_))
  have hfull : facL ((a : Int) :: gs) (n : Int) = downF (fun k => (facL gs ((n : Int) - k * (a : Int))).map fun l => k :: l) (n / a) := by rw [← hd]; rfl
  rw [hfull] at hroom ⊢
  have loop : ∀ (q : Nat) (acc : List (List Int)), q ≤ n / a → (acc ++ downF (fun k => (facL gs ((n : Int) - k * (a : Int))).map fun l => k :: l) q).length ≤ 100000000000 →
    Ev (fun k => ao.l0 k ((a : Int) :: gs) (n : Int) acc (q : Int)) (acc ++ downF (fun k => (facL gs ((n : Int) - k * (a : Int))).map fun l => k :: l) q) := by
   intro q
   have round : ∀ (q : Nat) (acc : List (List Int)) (res : List (List Int)), q ≤ n / a → (acc ++ (facL gs ((n : Int) - (q : Int) * (a : Int))).map fun l => (q : Int) :: l).length ≤ 100000000000 →
     Ev (fun k => ao.l0 k ((a : Int) :: gs) (n : Int) (acc ++ (facL gs ((n : Int) - (q : Int) * (a : Int))).map fun l => (q : Int) :: l) (wrap64 ((q : Int) - 1))) res →
     Ev (fun k => ao.l0 k ((a : Int) :: gs) (n : Int) acc (q : Int)) res := by
    intro q acc res hq hlen hrest
    have hk2 : q * a ≤ n := Nat.le_trans (Nat.mul_le_mul_right a hq) (Nat.div_mul_le_self n a)
    obtain ⟨e, e1, e2, hle⟩ := left_nat n q a hk2 hn
    rw [e] at hlen hrest
    have hmem := facL_mem gs (n - q * a)
    have ih := ih (n - q * a) hle
    generalize facL gs ((n - q * a : Nat) : Int) = sub at hlen hrest ih hmem
    have hsl : ∀ l ∈ sub, l.length = gs.length := fun l hl => ((hmem l (fun y hy => (hS.rng y (hs y (List.mem_cons_of_mem _ hy))).1)).1 hl).1
    rw [List.length_append, List.length_map] at hlen
    refine Ev.one (fun k => by rw [ao.l0]) ?_
    rw [e0, e1, e2, show List.drop 1 ((a : Int) :: gs) = gs from rfl]
    refine Ev.pos (by omega) (Ev.pos (by rw [List.length_cons]; omega) (Ev.pos (by rw [List.length_cons]; omega) (Ev.bnd ih ?_)))
    have inner : ∀ (d i : Nat), i + d = sub.length → Ev (fun k => ao.l1 k ((a : Int) :: gs) (n : Int) (acc ++ (sub.take i).map fun l => (q : Int) :: l) (q : Int) sub (sub.length : Int) (i : Int)) res := by
     intro d
     induction d with
     | zero =>
      intro i hi
      rw [List.take_of_length_le (by omega)]
      refine Ev.one (fun k => by rw [ao.l1]) ?_
      exact Ev.neg (by omega) hrest
     | succ d ihd =>
      intro i hi
      have hil : i < sub.length := by omega
      have ihd := ihd (i + 1) (by omega)
      rw [List.take_succ_eq_append_getElem hil, List.map_append, List.map_cons, List.map_nil, ← List.append_assoc] at ihd
      refine Ev.one (fun k => by rw [ao.l1]) ?_
      rw [rd_L2_at sub i hil, w64_succ i (by omega)]
      have := hsl sub[i] (List.getElem_mem hil)
      exact Ev.pos (by omega) (Ev.pos (by omega) (Ev.pos (by omega) (Ev.some (Ev.pos (by rw [List.length_singleton]; omega) (Ev.pos (by rw [List.length_append, List.length_map, List.length_take]; omega) ihd)))))
    have h := inner sub.length 0 (by omega)
    rw [List.take_zero, List.map_nil, List.append_nil] at h
    exact h
   induction q with
   | zero =>
    intro acc hq hlen
    rw [downF_zero] at hlen ⊢
    refine round 0 acc _ hq hlen ?_
    rw [w64_pred0]
    refine Ev.one (fun k => by rw [ao.l0]) ?_
    exact Ev.neg (by decide) (Ev.now _)
   | succ q ihq =>
    intro acc hq hlen
    rw [← fac_prefix] at hlen ⊢
    refine round (q + 1) acc _ hq (len_left _ _ _ hlen) ?_
    rw [w64_pred q (Nat.le_trans (Nat.le_of_succ_le hq) (Nat.le_trans hdn (Nat.le_trans hn (by decide))))]
    exact ihq _ (Nat.le_of_succ_le hq) hlen
  have h := loop (n / a) [] (Nat.le_refl _) (by rw [List.nil_append]; exact hroom)
  rw [List.nil_append] at h
  exact h
theorem spec_l11Find_ev (hp : g ≠ []) : ∀ (gs : List Int) (done : List Int), g = g.take done.length ++ gs → gs ≠ [] → done.length + gs.length = g.length → ∀ n : Nat, n ≤ 100 →
  Ev (fun k => ar.f k g (n : Int) done) ((facL gs (n : Int)).map fun l => done ++ l)
 | [], _, _, h, _, _, _ => absurd rfl h
 | [x], done, hg, _, hl, n, hn => by
  have hl12 := hS.len2
  have hlt : done.length < g.length := by simp at hl; omega
  have hx : g[done.length] = x := by
   have h1 : (g.take done.length ++ [x])[done.length]? = some x := by
    rw [List.getElem?_append_right (by rw [List.length_take]; omega), List.length_take, Nat.min_eq_left (by omega), Nat.sub_self]
    rfl
   rw [← hg, List.getElem?_eq_getElem hlt] at h1
   exact Option.some.inj h1
  have hr := hS.rng _ (List.getElem_mem hlt)
  rw [hx] at hr
  obtain ⟨a, rfl⟩ : ∃ a : Nat, x = (a : Int) := ⟨x.toNat, by omega⟩
  have e1 : rd g (done.length : Int) = (a : Int) := by rw [rd_at g _ hlt, hx]
  have e2 : wrap64 ((g.length : Int) - 1) = (done.length : Int) := by rw [w64_of (by omega) (by omega)]; simp at hl; omega
  have hdn : n / a ≤ n := Nat.div_le_self n a
  have hdw : wrap64 ((n / a : Nat) : Int) = ((n / a : Nat) : Int) := by
   generalize n / a = x at hdn
   exact w64_of (by omega) (by omega)
  rw [facL_one a (by omega) n]
  refine Ev.one (fun k => by rw [ar.f]) ?_
  rw [e1, e2, tmod_nat, tdiv_nat, hdw]
  refine Ev.neg (by omega) (Ev.some (Ev.pos rfl (Ev.pos (by omega) (Ev.pos (by omega) (Ev.neg (by omega) ?_)))))
  by_cases h : n % a = 0
  ·rw [if_pos h]
   refine Ev.pos (by omega) (Ev.some (Ev.pos (by simp; omega) (Ev.some (Ev.some (Ev.pos (by simp; omega) (Ev.some (Ev.pos (by simp) ?_)))))))
   exact Ev.now _
  ·rw [if_neg h]
   exact Ev.neg (by omega) (Ev.now _)
 | x :: y :: gs, done, hg, _, hl, n, hn => by
  have hl12 := hS.len2
  have hlt : done.length < g.length := by simp at hl; omega
  have hx : g[done.length] = x := by
   have h1 : (g.take done.length ++ (x :: y :: gs))[done.length]? = some x := by
    rw [List.getElem?_append_right (by rw [List.length_take]; omega), List.length_take, Nat.min_eq_left (by omega), Nat.sub_self]
    rfl
   rw [← hg, List.getElem?_eq_getElem hlt] at h1
   exact Option.some.inj h1
  have hr := hS.rng _ (List.getElem_mem hlt)
  rw [hx] at hr
  obtain ⟨a, rfl⟩ : ∃ a : Nat, x = (a : Int) := ⟨x.toNat, by omega⟩
  have e1 : rd g (done.length : Int) = (a : Int) := by rw [rd_at g _ hlt, hx]
  have e2 : wrap64 ((g.length : Int) - 1) = (g.length : Int) - 1 := w64_of (by omega) (by omega)
  have hd : ((n : Int) / (a : Int)).toNat = n / a := by rw [← Int.natCast_ediv, Int.toNat_natCast]
  have hdn : n / a ≤ n := Nat.div_le_self n a
  have hdw : wrap64 ((n / a : Nat) : Int) = ((n / a : Nat) : Int) := by
   generalize n / a = x at hdn
   exact w64_of (by omega) (by omega)
  have hsub : ∀ z ∈ (a : Int) :: y :: gs, z ∈ g := fun z hz => by rw [hg]; exact List.mem_append_right _ hz
  have hroom := facL_room g hS ((a : Int) :: y :: gs) hsub (by omega) n hn
  have hnext : ∀ k : Int, g = g.take (done ++ [k]).length ++ (y :: gs) := by
   intro k
   have h2 : g.take (done.length + 1) = g.take done.length ++ [(a : Int)] := by rw [List.take_succ_eq_append_getElem hlt, hx]
   rw [List.length_append, List.length_singleton, h2, List.append_assoc]
   exact hg
  have hfull : facL ((a : Int) :: y :: gs) (n : Int) = downF (fun k => (facL (y :: gs) ((n : Int) - k * (a : Int))).map fun l => k :: l) (n / a) := by rw [← hd]; rfl
  refine Ev.one (fun k => by rw [ar.f]) ?_
  rw [e1, e2, tdiv_nat, hdw]
  refine Ev.neg (by omega) (Ev.some (Ev.neg (by simp at hl; omega) (Ev.pos (by omega) (Ev.pos (by omega) (Ev.neg (by omega) ?_)))))
  rw [hfull] at hroom ⊢
  have loop : ∀ (q : Nat) (acc : List (List Int)), q ≤ n / a → (acc ++ downF (fun k => (facL (y :: gs) ((n : Int) - k * (a : Int))).map fun l => k :: l) q).length ≤ 100000000000 →
    Ev (fun k => ar.l0 k g (n : Int) done (done.length : Int) (acc.map fun l => done ++ l) (q : Int)) ((acc ++ downF (fun k => (facL (y :: gs) ((n : Int) - k * (a : Int))).map fun l => k :: l) q).map fun l => done ++ l) := by
   intro q
   have round : ∀ (q : Nat) (acc : List (List Int)) (res : List (List Int)), q ≤ n / a → (acc ++ (facL (y :: gs) ((n : Int) - (q : Int) * (a : Int))).map fun l => (q : Int) :: l).length ≤ 100000000000 →
     Ev (fun k => ar.l0 k g (n : Int) done (done.length : Int) ((acc ++ (facL (y :: gs) ((n : Int) - (q : Int) * (a : Int))).map fun l => (q : Int) :: l).map fun l => done ++ l) (wrap64 ((q : Int) - 1))) res →
     Ev (fun k => ar.l0 k g (n : Int) done (done.length : Int) (acc.map fun l => done ++ l) (q : Int)) res := by
    intro q acc res hq hlen hrest
    have hk2 : q * a ≤ n := Nat.le_trans (Nat.mul_le_mul_right a hq) (Nat.div_mul_le_self n a)
    obtain ⟨e, e3, e4, hle⟩ := left_nat n q a hk2 hn
    rw [e] at hlen hrest
    have ih := spec_l11Find_ev hp (y :: gs) (done ++ [(q : Int)]) (hnext _) (by simp) (by simp at hl ⊢; omega) (n - q * a) hle
    have emap : ((facL (y :: gs) ((n - q * a : Nat) : Int)).map fun l => (done ++ [(q : Int)]) ++ l) = (((facL (y :: gs) ((n - q * a : Nat) : Int)).map fun l => (q : Int) :: l).map fun l => done ++ l) := by
     rw [List.map_map]
     apply List.map_congr_left
     intro l _
     simp
    rw [emap] at ih
    generalize facL (y :: gs) ((n - q * a : Nat) : Int) = sub at hlen hrest ih
    rw [List.length_append, List.length_map] at hlen
    rw [List.map_append] at hrest
    refine Ev.one (fun k => by rw [ar.l0]) ?_
    rw [e1, e3, e4]
    refine Ev.pos (by omega) (Ev.pos (by omega) (Ev.pos (by omega) (Ev.some (Ev.pos (by simp; omega) (Ev.some (Ev.some (Ev.pos (by simp; omega) (Ev.bnd ih (Ev.pos (by simp; omega) hrest)))))))))
   induction q with
   | zero =>
    intro acc hq hlen
    rw [downF_zero] at hlen ⊢
    refine round 0 acc _ hq hlen ?_
    rw [w64_pred0]
    refine Ev.one (fun k => by rw [ar.l0]) ?_
    exact Ev.neg (by decide) (Ev.now _)
   | succ q ihq =>
    intro acc hq hlen
    rw [← fac_prefix] at hlen ⊢
    refine round (q + 1) acc _ hq (len_left _ _ _ hlen) ?_
    rw [w64_pred q (Nat.le_trans (Nat.le_of_succ_le hq) (Nat.le_trans hdn (Nat.le_trans hn (by decide))))]
    exact ihq _ (Nat.le_of_succ_le hq) hlen
  have h := loop (n / a) [] (Nat.le_refl _) (by rw [List.nil_append]; exact hroom)
  rw [List.nil_append] at h
  exact h
end
def facS (b : Bool) (g : List Int) (n : Int) : List (List Int) := if b = true ∧ (0 ≤ n ∧ n ≤ 100) then facL g n else []
theorem fac_both (g : List Int) (hlen : g.length ≤ 1048576) (n : Int) : ∃ b, (b = true ↔ SG g) ∧ Ev (fun k => aE.f k g n) (facS b g n) ∧ Ev (fun k => b9.f k g n) (facS b g n) := by
 obtain ⟨b, b1, b2, b3⟩ := sg_both g hlen; refine ⟨b, b1, ?_⟩; unfold aE.f b9.f facS
 cases b with
 | false => rw [if_neg (fun e => by cases e.1)]; exact ⟨Ev.bnd b2 (Ev.neg (by decide) (Ev.now _)), Ev.bnd b3 (Ev.neg (by decide) (Ev.now _))⟩
 | true =>
  have hS := b1.1 rfl; have hl1 := hS.len1; by_cases h : 0 ≤ n ∧ n ≤ 100
  ·obtain ⟨m, rfl⟩ : ∃ m : Nat, n = (m : Int) := ⟨n.toNat, by omega⟩; rw [if_pos ⟨rfl, h⟩]; have hne : g ≠ [] := fun e => (by subst e; simp at hl1); have h1 := spec_l11Find_ev g hS hne g [] (by simp) hne (by simp) m (by omega); have e1 : ((facL g (m : Int)).map fun l => [] ++ l) = facL g (m : Int) := (by simp); rw [e1] at h1
   exact ⟨Ev.bnd b2 (Ev.pos rfl (Ev.bnd (spec_l1In_ev _ _ _) (Ev.pos (decide_eq_true h) (Ev.bnd h1 (Ev.now _))))),
    Ev.bnd b3 (Ev.pos rfl (Ev.bnd (impl_within_ev _ _ _) (Ev.pos (decide_eq_true h) (Ev.bnd (impl_factored_ev g hS g (fun x hx => hx) (Nat.le_refl _) m (by omega)) (Ev.now _)))))⟩
  ·rw [if_neg (fun e => h e.2)]
   exact ⟨Ev.bnd b2 (Ev.pos rfl (Ev.bnd (spec_l1In_ev _ _ _) (Ev.neg (by rw [decide_eq_false h]; decide) (Ev.now _)))),
    Ev.bnd b3 (Ev.pos rfl (Ev.bnd (impl_within_ev _ _ _) (Ev.neg (by rw [decide_eq_false h]; decide) (Ev.now _))))⟩
theorem facS_small (b : Bool) (g : List Int) (hS : b = true → SG g) (n : Int) : (facS b g n).length ≤ 100000000000 ∧ ∀ x ∈ facS b g n, x.length ≤ 1000 := by
 unfold facS; split
 ·rename_i h; obtain ⟨hb, hn⟩ := h; have hS := hS hb; obtain ⟨m, rfl⟩ : ∃ m : Nat, n = (m : Int) := ⟨n.toNat, by omega⟩; have h2 := hS.len2; refine ⟨facL_room g hS g (fun x hx => hx) (Nat.le_refl _) m (by omega), fun x hx => ?_⟩; have := ((facL_mem g m x (fun y hy => (hS.rng y hy).1)).1 hx).1; omega
 ·exact ⟨by simp, fun x hx => by cases hx⟩
theorem spec_HasNumber_l0 (l : List Int) (x : Int) (hl : l.length ≤ 100000000000) : ∀ (d i : Nat), i + d = l.length → ∃ b, (b = true ↔ x ∈ l.drop i) ∧ Ev (fun k => aX.l0 k l x (i : Int)) b := by
 intro d
 induction d with
 | zero => intro i hi; rw [List.drop_eq_nil_of_le (by omega)]; refine ⟨false, by simp, Ev.one (fun k => by rw [aX.l0]) ?_⟩; exact Ev.neg (by omega) (Ev.now _)
 | succ d ih =>
  intro i hi; rw [List.drop_eq_getElem_cons (show i < l.length by omega)]; by_cases h : l[i] = x
  ·refine ⟨true, ⟨fun _ => by rw [h]; exact List.mem_cons_self .., fun _ => rfl⟩, Ev.one (fun k => by rw [aX.l0]) ?_⟩; rw [rd_at l i (by omega)]; exact Ev.pos (by omega) (Ev.pos (by omega) (Ev.pos h (Ev.now _)))
  ·obtain ⟨b, b1, b2⟩ := ih (i + 1) (by omega); refine ⟨b, ?_, Ev.one (fun k => by rw [aX.l0]) ?_⟩
   ·rw [b1, List.mem_cons]; exact ⟨fun e => .inr e, fun e => e.resolve_left (fun e2 => h e2.symm)⟩
   ·rw [rd_at l i (by omega), w64_succ i (by omega)]; exact Ev.pos (by omega) (Ev.pos (by omega) (Ev.neg h b2))
theorem spec_HasNumber_ev (l : List Int) (x : Int) (hl : l.length ≤ 100000000000) : ∃ b, (b = true ↔ x ∈ l) ∧ Ev (fun k => aX.f k l x) b := by unfold aX.f; exact spec_HasNumber_l0 l x hl l.length 0 (by omega)
end Go.Proofs.Ytbbehmbpoilffaa.Pure
