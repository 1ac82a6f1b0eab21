/- Plain lemmas (facount, cntval, mCountFactorizations, isfac, spechas, spechas2, plaw, samelists, draw, drawsg, draw11, draw11l, dectext, ftext): no program, no memory. -/
import Derived.Test.YtbbehmbpoilffaaDoorC0
import Derived.Test.YtbbehmbpoilffaaDoorC1
import Derived.Test.YtbbehmbpoilffaaDoorC11
import Derived.Test.YtbbehmbpoilffaaDoorC12
import Derived.Test.YtbbehmbpoilffaaDoorC13
import Derived.Test.YtbbehmbpoilffaaDoorC14
import Derived.Test.YtbbehmbpoilffaaDoorC3
import Derived.Test.YtbbehmbpoilffaaDoorC4
import Derived.Test.YtbbehmbpoilffaaDoorC5
import Derived.Test.YtbbehmbpoilffaaDoorC6
import Derived.Test.YtbbehmbpoilffaaDoorC9
import Derived.Test.YtbbehmbpoilffaaDoorBbase
namespace Go.Proofs.YtbbehmbpoilffaaDoor.Pure
open Go.RowKit Go.Proofs.YtbbehmbpoilffaaDoor.C Go.Proofs.YtbbehmbpoilffaaDoorW.PrintWords Go.Proofs.YtbbehmbpoilffaaDoorW.PrintLast Go.Proofs.YtbbehmbpoilffaaDoorW.PrintMore
set_option linter.unusedVariables false
set_option linter.unusedSimpArgs false
/-! facount: how many factorizations there are, and that they differ -/
theorem downF_shift (F G : Int → List (List Int)) : ∀ q : Nat, (∀ k : Nat, k ≤ q → (F ((k + 1 : Nat) : Int)).length = (G (k : Int)).length) → (downF F (q + 1)).length = (F ((0 : Nat) : Int)).length + (downF G q).length
 | 0, h => by
  show (F ((0 + 1 : Nat) : Int) ++ F ((0 : Nat) : Int)).length = _ + (G ((0 : Nat) : Int)).length
  rw [List.length_append, h 0 (Nat.le_refl _)]
  omega
 | q + 1, h => by
  have ih := downF_shift F G q (fun k hk => h k (by omega))
  have h1 := h (q + 1) (Nat.le_refl _)
  show (F ((q + 1 + 1 : Nat) : Int) ++ downF F (q + 1)).length = _ + (G ((q + 1 : Nat) : Int) ++ downF G q).length
  rw [List.length_append, List.length_append, ih, h1]
  omega
theorem facL_lt (a : Nat) (gs : List Int) (n : Nat) (h : n < a) : (facL ((a : Int) :: gs) (n : Int)).length = (facL gs (n : Int)).length := by
 have hd : ((n : Int) / (a : Int)).toNat = 0 := by rw [← Int.natCast_ediv, Int.toNat_natCast, Nat.div_eq_of_lt h]
 show (downF (fun k => (facL gs ((n : Int) - k * (a : Int))).map fun l => k :: l) ((n : Int) / (a : Int)).toNat).length = _
 rw [hd]
 show ((facL gs ((n : Int) - 0 * (a : Int))).map fun l => (0 : Int) :: l).length = _
 rw [List.length_map, show (n : Int) - 0 * (a : Int) = n from by omega]
theorem facL_ge (a : Nat) (ha : 1 ≤ a) (gs : List Int) (n : Nat) (h : a ≤ n) : (facL ((a : Int) :: gs) (n : Int)).length = (facL gs (n : Int)).length + (facL ((a : Int) :: gs) ((n - a : Nat) : Int)).length := by
 have hd : ((n : Int) / (a : Int)).toNat = (n - a) / a + 1 := by
  rw [← Int.natCast_ediv, Int.toNat_natCast, ← Nat.sub_add_cancel h, Nat.add_div_right _ (by omega)]
  simp
 have hd2 : (((n - a : Nat) : Int) / (a : Int)).toNat = (n - a) / a := by rw [← Int.natCast_ediv, Int.toNat_natCast]
 show (downF (fun k => (facL gs ((n : Int) - k * (a : Int))).map fun l => k :: l) ((n : Int) / (a : Int)).toNat).length = _ + (downF (fun k => (facL gs (((n - a : Nat) : Int) - k * (a : Int))).map fun l => k :: l) (((n - a : Nat) : Int) / (a : Int)).toNat).length
 rw [hd, hd2, downF_shift _ (fun k => (facL gs (((n - a : Nat) : Int) - k * (a : Int))).map fun l => k :: l)]
 ·rw [List.length_map, show (n : Int) - ((0 : Nat) : Int) * (a : Int) = n from by simp]
 ·intro k hk
  rw [List.length_map, List.length_map]
  have e : (n : Int) - ((k + 1 : Nat) : Int) * (a : Int) = ((n - a : Nat) : Int) - (k : Int) * (a : Int) := by
   rw [Int.natCast_add, Int.add_mul]
   omega
  rw [e]
/-- A generator at the end. -/
theorem facL_snoc (a : Nat) (ha : 1 ≤ a) : ∀ (gs : List Int) (n : Nat), (∀ x ∈ gs, 1 ≤ x) → (facL (gs ++ [(a : Int)]) (n : Int)).length = (facL gs (n : Int)).length + if a ≤ n then (facL (gs ++ [(a : Int)]) ((n - a : Nat) : Int)).length else 0
 | [], n, _ => by
  by_cases h : a ≤ n
  ·rw [if_pos h]; exact facL_ge a ha [] n h
  ·rw [if_neg h]; exact facL_lt a [] n (by omega)
 | x :: gs, n, hs => by
  have hx := hs x (List.mem_cons_self ..)
  have hs' := fun y hy => hs y (List.mem_cons_of_mem _ hy)
  obtain ⟨y, rfl⟩ : ∃ y : Nat, x = (y : Int) := ⟨x.toNat, by omega⟩
  have hy : 1 ≤ y := by omega
  have key : ∀ m n : Nat, n ≤ m → (facL ((y : Int) :: (gs ++ [(a : Int)])) (n : Int)).length = (facL ((y : Int) :: gs) (n : Int)).length + if a ≤ n then (facL ((y : Int) :: (gs ++ [(a : Int)])) ((n - a : Nat) : Int)).length else 0 := by
   intro m
   induction m with
   | zero =>
    intro n hn
    rw [facL_lt y _ n (by omega), facL_lt y _ n (by omega), facL_snoc a ha gs n hs', if_neg (by omega), if_neg (by omega)]
   | succ m ih =>
    intro n hn
    have e0 := facL_snoc a ha gs n hs'
    by_cases h1 : y ≤ n
    ·have e1 := ih (n - y) (by omega)
     rw [facL_ge y hy _ n h1, facL_ge y hy _ n h1, e0, e1]
     by_cases h2 : a ≤ n
     ·rw [if_pos h2, if_pos h2]
      by_cases h3 : y + a ≤ n
      ·rw [if_pos (by omega), facL_ge y hy (gs ++ [(a : Int)]) (n - a) (by omega), show n - y - a = n - a - y from by omega]
       omega
      ·rw [if_neg (by omega), facL_lt y (gs ++ [(a : Int)]) (n - a) (by omega)]
       omega
     ·rw [if_neg h2, if_neg h2, if_neg (by omega)]
      omega
    ·rw [facL_lt y _ n (by omega), facL_lt y _ n (by omega), e0]
     by_cases h2 : a ≤ n
     ·rw [if_pos h2, if_pos h2, facL_lt y (gs ++ [(a : Int)]) (n - a) (by omega)]
     ·rw [if_neg h2, if_neg h2]
  exact key n n (Nat.le_refl _)
theorem facL_nil_len (n : Nat) : (facL [] (n : Int)).length = if n = 0 then 1 else 0 := by
 unfold facL
 by_cases h : n = 0
 ·rw [if_pos h, if_pos (by omega)]; rfl
 ·rw [if_neg h, if_neg (by omega)]; rfl
theorem downF_ne (F : Int → List (List Int)) (hF : ∀ k : Int, ∀ l ∈ F k, l.head? = some k) (hn : ∀ k : Int, (F k).Pairwise (· ≠ ·)) : ∀ q : Nat, (downF F q).Pairwise (· ≠ ·)
 | 0 => hn 0
 | q + 1 => by
  show (F _ ++ downF F q).Pairwise _
  rw [List.pairwise_append]
  refine ⟨hn _, downF_ne F hF hn q, fun a ha b hb e => ?_⟩
  subst e
  obtain ⟨k, hk, h⟩ := (downF_mem F a q).1 hb
  have h1 := hF _ _ ha
  have h2 := hF _ _ h
  rw [h1] at h2
  injection h2 with h2
  omega
theorem facL_ne : ∀ (gs : List Int) (n : Int), (facL gs n).Pairwise (· ≠ ·)
 | [], n => by
  unfold facL
  by_cases h : n = 0
  ·rw [if_pos h]; exact List.pairwise_singleton _ _
  ·rw [if_neg h]; exact List.Pairwise.nil
 | g :: gs, n => by
  unfold facL
  refine downF_ne _ (fun k l hl => ?_) (fun k => ?_) _
  ·obtain ⟨x, _, rfl⟩ := List.mem_map.1 hl
   rfl
  ·rw [List.pairwise_map]
   exact (facL_ne gs _).imp (fun h e => h (List.cons.inj e).2)
/-! cntval: impl.CountFactorizations tells how many factorizations there are -/
theorem cnt_room (g : List Int) (hS : SG g) (i : Nat) (t : Nat) (ht : t ≤ 100) : (((facL (g.take i) (t : Int)).length : Nat) : Int) ≤ 100000000000 := by
 have := facL_room g hS (g.take i) (fun x hx => List.mem_of_mem_take hx) (by rw [List.length_take]; omega) t ht
 omega
theorem cnt_impl (g : List Int) (hS : SG g) (n : Nat) (hn : n ≤ 100) : ∀ (d i : Nat) (xs : List Int), i + d = g.length → xs.length = n + 1 → (∀ t : Nat, t ≤ n → rd xs (t : Int) = ((facL (g.take i) (t : Int)).length : Nat)) →
  Ev (fun k => impl_CountFactorizations.l0 k (n : Int) xs g (g.length : Int) (i : Int)) ((facL g (n : Int)).length : Nat) := by
 intro d
 induction d with
 | zero =>
  intro i xs hi hx hv
  refine Ev.one (fun k => by rw [impl_CountFactorizations.l0]) ?_
  have h := hv n (Nat.le_refl _)
  rw [show i = g.length from by omega, List.take_length] at h
  refine Ev.neg (by omega) (Ev.pos (by omega) (Ev.pos (by omega) ?_))
  rw [h]
  exact Ev.now _
 | succ d ih =>
  intro i xs hi hx hv
  have hil : i < g.length := by omega
  have h12 := hS.len2
  have hgi := hS.rng g[i] (List.getElem_mem hil)
  obtain ⟨a, ha⟩ : ∃ a : Nat, g[i] = (a : Int) := ⟨g[i].toNat, by omega⟩
  have htk : g.take (i + 1) = g.take i ++ [(a : Int)] := by rw [List.take_add_one, List.getElem?_eq_getElem hil, ha]; rfl
  have hpos : ∀ x ∈ g.take i, 1 ≤ x := fun x hx => (hS.rng x (List.mem_of_mem_take hx)).1
  rw [ha] at hgi
  have inner : ∀ (e j : Nat) (xs : List Int), (j + e = n + 1 ∨ (e = 0 ∧ n < j)) → a ≤ j → j ≤ n + 61 → xs.length = n + 1 →
    (∀ t : Nat, t ≤ n → t < j → rd xs (t : Int) = ((facL (g.take (i + 1)) (t : Int)).length : Nat)) → (∀ t : Nat, t ≤ n → j ≤ t → rd xs (t : Int) = ((facL (g.take i) (t : Int)).length : Nat)) →
    Ev (fun k => impl_CountFactorizations.l1 k (n : Int) xs (a : Int) (j : Int) g (g.length : Int) (i : Int)) ((facL g (n : Int)).length : Nat) := by
   intro e
   induction e with
   | zero =>
    intro j xs hj haj hjn hx h1 h2
    refine Ev.one (fun k => by rw [impl_CountFactorizations.l1]) ?_
    rw [w64_succ i (by omega)]
    exact Ev.neg (by omega) (ih (i + 1) xs (by omega) hx (fun t ht => h1 t ht (by omega)))
   | succ e ihe =>
    intro j xs hj haj hjn hx h1 h2
    have e1 : wrap64 ((j : Int) - (a : Int)) = ((j - a : Nat) : Int) := by rw [w64_of (by omega) (by omega)]; omega
    have hs := facL_snoc a (by omega) (g.take i) j hpos
    rw [if_pos haj, ← htk] at hs
    have r1 := cnt_room g hS (i + 1) j (by omega)
    have ev : wrap64 (rd xs (j : Int) + rd xs ((j - a : Nat) : Int)) = ((facL (g.take (i + 1)) (j : Int)).length : Nat) := by
     rw [h2 j (by omega) (Nat.le_refl _), h1 (j - a) (by omega) (by omega), hs]
     rw [hs] at r1
     rw [w64_of (by omega) (by omega)]
     omega
    refine Ev.one (fun k => by rw [impl_CountFactorizations.l1]) ?_
    rw [e1, w64_succ j (by omega), Int.toNat_natCast, ev]
    refine Ev.pos (by omega) (Ev.pos (by omega) (Ev.pos (by omega) (Ev.pos (by omega) (Ev.pos (by omega) (ihe (j + 1) _ (by omega) (by omega) (by omega) (by rw [List.length_set]; exact hx) ?_ ?_)))))
    ·intro t ht htj
     by_cases e : t = j
     ·subst e; rw [rd_set_eq _ _ _ (by omega)]
     ·rw [rd_set_ne _ _ _ _ (fun q => e q.symm)]; exact h1 t ht (by omega)
    ·intro t ht htj
     rw [rd_set_ne _ _ _ _ (by omega)]; exact h2 t ht (by omega)
  refine Ev.one (fun k => by rw [impl_CountFactorizations.l0]) ?_
  rw [rd_at g i hil, ha]
  refine Ev.pos (by omega) (Ev.pos (by omega) (Ev.pos (by omega) (inner (n + 1 - a) a xs (by omega) (Nat.le_refl _) (by omega) hx (fun t ht hta => ?_) (fun t ht _ => hv t ht))))
  have hs := facL_snoc a (by omega) (g.take i) t hpos
  rw [if_neg (by omega), ← htk] at hs
  rw [hv t ht, hs]
  rfl
theorem cnt_val (g : List Int) (hS : SG g) (n : Nat) (hn : n ≤ 100) : Ev (fun k => impl_CountFactorizations.f k g (n : Int)) ((facL g (n : Int)).length : Nat) := by
 have hlen : g.length ≤ 1048576 := by have := hS.len2; omega
 obtain ⟨b, b1, b2, b3⟩ := sg_both g hlen
 have hb := b1.2 hS
 subst hb
 unfold impl_CountFactorizations.f
 refine Ev.bnd b3 (Ev.pos rfl (Ev.bnd (impl_within_ev _ _ _) (Ev.one (fun k => by rw [impl_CountFactorizations.j0]) ?_)))
 rw [w64_succ n (by omega), Int.toNat_natCast, show Int.toNat 0 = 0 from rfl]
 refine Ev.neg (by rw [decide_eq_true (by omega)]; decide) (Ev.pos (by omega) (Ev.pos (by omega) (Ev.some (Ev.pos (by rw [List.length_replicate]; omega) ?_))))
 refine cnt_impl g hS n hn g.length 0 _ (by omega) (by rw [List.length_set, List.length_replicate]) (fun t ht => ?_)
 rw [List.take_zero, facL_nil_len]
 by_cases e : t = 0
 ·subst e
  rw [rd_set_eq (List.replicate (n + 1) 0) 0 1 (by rw [List.length_replicate]; omega), if_pos rfl]; rfl
 ·rw [rd_set_ne (List.replicate (n + 1) 0) 0 t 1 (fun q => e q.symm), if_neg e, rd_at _ _ (by rw [List.length_replicate]; omega), List.getElem_replicate]; rfl
/-- Where there is a factorization. -/
theorem dot_sums : ∀ (g z : List Int), (∀ x ∈ z, 0 ≤ x) → Sums g (dot z g)
 | g, [], _ => by rw [dot_nil]; exact Sums.zero g
 | [], _ :: _, _ => by exact Sums.zero []
 | y :: g, x :: z, h => by
  have ih := dot_sums g z (fun u hu => h u (List.mem_cons_of_mem _ hu))
  have hx := h x (List.mem_cons_self ..)
  rw [dot_cons]
  obtain ⟨m, rfl⟩ : ∃ m : Nat, x = (m : Int) := ⟨x.toNat, by omega⟩
  obtain ⟨l, h1, h2⟩ := ih
  refine ⟨List.replicate m y ++ l, fun u hu => ?_, ?_⟩
  ·rcases List.mem_append.1 hu with hu | hu
   ·rw [(List.mem_replicate.1 hu).2]; exact List.mem_cons_self ..
   ·exact List.mem_cons_of_mem _ (h1 u hu)
  ·rw [List.sum_append, h2]
   congr 1
   clear h hx h1 h2
   induction m with
   | zero => simp
   | succ m ih => rw [List.replicate_succ, List.sum_cons, ih, Int.natCast_add, Int.add_mul]; omega
theorem dot_zeros : ∀ (g : List Int) (m : Nat), dot (List.replicate m 0) g = 0
 | [], m => by cases m <;> rfl
 | y :: g, 0 => rfl
 | y :: g, m + 1 => by rw [List.replicate_succ, dot_cons, dot_zeros g m]; omega
theorem dot_bump : ∀ (g : List Int) (z : List Int) (y : Int), y ∈ g → z.length = g.length → (∀ x ∈ z, 0 ≤ x) → ∃ z', z'.length = g.length ∧ (∀ x ∈ z', 0 ≤ x) ∧ dot z' g = dot z g + y
 | [], _, y, h, _, _ => by cases h
 | u :: g, [], _, _, h, _ => by cases h
 | u :: g, x :: z, y, hy, hl, h0 => by
  rw [dot_cons]
  by_cases e : y = u
  ·subst e
   refine ⟨(x + 1) :: z, hl, fun v hv => ?_, by rw [dot_cons, Int.add_mul]; omega⟩
   rcases List.mem_cons.1 hv with rfl | hv
   ·have := h0 x (List.mem_cons_self ..); omega
   ·exact h0 v (List.mem_cons_of_mem _ hv)
  ·have hy' : y ∈ g := (List.mem_cons.1 hy).resolve_left e
   obtain ⟨z', h1, h2, h3⟩ := dot_bump g z y hy' (by simpa using hl) (fun v hv => h0 v (List.mem_cons_of_mem _ hv))
   refine ⟨x :: z', by simp [h1], fun v hv => ?_, by rw [dot_cons, h3]; omega⟩
   rcases List.mem_cons.1 hv with rfl | hv
   ·exact h0 _ (List.mem_cons_self ..)
   ·exact h2 v hv
theorem sums_dot (g : List Int) : ∀ l : List Int, (∀ x ∈ l, x ∈ g) → ∃ z, z.length = g.length ∧ (∀ x ∈ z, 0 ≤ x) ∧ dot z g = l.sum
 | [], _ => ⟨List.replicate g.length 0, by simp, fun x hx => by rw [(List.mem_replicate.1 hx).2]; omega, dot_zeros g _⟩
 | y :: l, h => by
  obtain ⟨z, h1, h2, h3⟩ := sums_dot g l (fun x hx => h x (List.mem_cons_of_mem _ hx))
  obtain ⟨z', k1, k2, k3⟩ := dot_bump g z y (h y (List.mem_cons_self ..)) h1 h2
  exact ⟨z', k1, k2, by rw [k3, h3, List.sum_cons]; omega⟩
theorem facL_some (g : List Int) (hg : ∀ x ∈ g, 1 ≤ x) (n : Nat) : 0 < (facL g (n : Int)).length ↔ Sums g (n : Int) := by
 constructor
 ·intro h
  obtain ⟨h1, h2, h3⟩ := (facL_mem g n _ hg).1 (List.getElem_mem h)
  rw [← h3]
  exact dot_sums g _ h2
 ·rintro ⟨l, h1, h2⟩
  obtain ⟨z, k1, k2, k3⟩ := sums_dot g l h1
  exact List.length_pos_of_mem ((facL_mem g n z hg).2 ⟨k1, k2, by rw [k3, h2]⟩)
theorem count_both (g : List Int) (n : Nat) (hl : g.length ≤ 12) (hn : n ≤ 1000) (hg : ∀ x ∈ g, 1 ≤ x ∧ x ≤ 60) : ∀ (d i : Nat) (xs : List Int), i + d = g.length → xs.length = n + 1 →
  ∃ r : Int, Ev (fun k => spec_CountFactorizations.l0 k (n : Int) xs (i : Int) g) r ∧ Ev (fun k => impl_CountFactorizations.l0 k (n : Int) xs g (g.length : Int) (i : Int)) r := by
 intro d
 induction d with
 | zero =>
  intro i xs hi hx
  refine ⟨rd xs (n : Int), Ev.one (fun k => by rw [spec_CountFactorizations.l0]) ?_, Ev.one (fun k => by rw [impl_CountFactorizations.l0]) ?_⟩
  ·exact Ev.neg (by omega) (Ev.pos (by omega) (Ev.pos (by omega) (Ev.now _)))
  ·exact Ev.neg (by omega) (Ev.pos (by omega) (Ev.pos (by omega) (Ev.now _)))
 | succ d ih =>
  intro i xs hi hx
  have hil : i < g.length := by omega
  have hgi := hg g[i] (List.getElem_mem hil)
  obtain ⟨a, ha⟩ : ∃ a : Nat, g[i] = (a : Int) := ⟨g[i].toNat, by omega⟩
  rw [ha] at hgi
  have inner : ∀ (e j : Nat) (xs : List Int), (j + e = n + 1 ∨ (e = 0 ∧ n < j)) → a ≤ j → j ≤ n + 61 → xs.length = n + 1 →
    ∃ r : Int, Ev (fun k => spec_CountFactorizations.l1 k (n : Int) xs (i : Int) (j : Int) g) r ∧ Ev (fun k => impl_CountFactorizations.l1 k (n : Int) xs (a : Int) (j : Int) g (g.length : Int) (i : Int)) r := by
   intro e
   induction e with
   | zero =>
    intro j xs hj haj hjn hx
    obtain ⟨r, h1, h2⟩ := ih (i + 1) xs (by omega) hx
    refine ⟨r, Ev.one (fun k => by rw [spec_CountFactorizations.l1]) ?_, Ev.one (fun k => by rw [impl_CountFactorizations.l1]) ?_⟩
    ·rw [w64_succ i (by omega)]; exact Ev.neg (by omega) h1
    ·rw [w64_succ i (by omega)]; exact Ev.neg (by omega) h2
   | succ e ihe =>
    intro j xs hj haj hjn hx
    have e1 : wrap64 ((j : Int) - (a : Int)) = ((j - a : Nat) : Int) := by rw [w64_of (by omega) (by omega)]; omega
    obtain ⟨r, h1, h2⟩ := ihe (j + 1) (xs.set j (wrap64 (rd xs (j : Int) + rd xs ((j - a : Nat) : Int)))) (by omega) (by omega) (by omega) (by rw [List.length_set]; exact hx)
    refine ⟨r, Ev.one (fun k => by rw [spec_CountFactorizations.l1]) ?_, Ev.one (fun k => by rw [impl_CountFactorizations.l1]) ?_⟩
    ·rw [rd_at g i hil, ha, e1, w64_succ j (by omega), Int.toNat_natCast]
     exact Ev.pos (by omega) (Ev.pos (by omega) (Ev.pos (by omega) (Ev.pos (by omega) (Ev.pos (by omega) (Ev.pos (by omega) (Ev.pos (by omega) h1))))))
    ·rw [e1, w64_succ j (by omega), Int.toNat_natCast]
     exact Ev.pos (by omega) (Ev.pos (by omega) (Ev.pos (by omega) (Ev.pos (by omega) (Ev.pos (by omega) h2))))
  obtain ⟨r, h1, h2⟩ := inner (n + 1 - a) a xs (by omega) (Nat.le_refl _) (by omega) hx
  refine ⟨r, Ev.one (fun k => by rw [spec_CountFactorizations.l0]) ?_, Ev.one (fun k => by rw [impl_CountFactorizations.l0]) ?_⟩
  ·rw [rd_at g i hil, ha]; exact Ev.pos (by omega) (Ev.pos (by omega) h1)
  ·rw [rd_at g i hil, ha]; exact Ev.pos (by omega) (Ev.pos (by omega) (Ev.pos (by omega) h2))
theorem count_f (g : List Int) (n : Int) (hlen : g.length ≤ 1048576) : ∃ r : Int, Ev (fun k => spec_CountFactorizations.f k g n) r ∧ Ev (fun k => impl_CountFactorizations.f k g n) r := by
 obtain ⟨b, b1, b2, b3⟩ := sg_both g hlen
 unfold spec_CountFactorizations.f impl_CountFactorizations.f
 cases b with
 | false =>
  refine ⟨-1, Ev.bnd b2 (Ev.neg (by decide) (Ev.one (fun k => by rw [spec_CountFactorizations.j0]) ?_)), Ev.bnd b3 (Ev.neg (by decide) (Ev.one (fun k => by rw [impl_CountFactorizations.j0]) ?_))⟩
  ·exact Ev.pos rfl (Ev.now _)
  ·exact Ev.pos rfl (Ev.now _)
 | true =>
  have hS := b1.1 rfl
  by_cases h : 0 ≤ n ∧ n ≤ 1000
  ·obtain ⟨q, rfl⟩ : ∃ q : Nat, n = (q : Int) := ⟨n.toNat, by omega⟩
   obtain ⟨r, h1, h2⟩ := count_both g q hS.len2 (by omega) hS.rng g.length 0 ((List.replicate (q + 1) 0).set 0 1) (by omega) (by rw [List.length_set, List.length_replicate])
   refine ⟨r, Ev.bnd b2 (Ev.pos rfl (Ev.bnd (spec_l1In_ev _ _ _) (Ev.one (fun k => by rw [spec_CountFactorizations.j0]) ?_))), Ev.bnd b3 (Ev.pos rfl (Ev.bnd (impl_within_ev _ _ _) (Ev.one (fun k => by rw [impl_CountFactorizations.j0]) ?_)))⟩
   ·rw [w64_succ q (by omega), Int.toNat_natCast]
    exact Ev.neg (by rw [decide_eq_true h]; decide) (Ev.pos (by omega) (Ev.pos (by omega) (Ev.some (Ev.pos (by rw [List.length_replicate]; omega) h1))))
   ·rw [w64_succ q (by omega), Int.toNat_natCast]
    exact Ev.neg (by rw [decide_eq_true h]; decide) (Ev.pos (by omega) (Ev.pos (by omega) (Ev.some (Ev.pos (by rw [List.length_replicate]; omega) h2))))
  ·refine ⟨-1, Ev.bnd b2 (Ev.pos rfl (Ev.bnd (spec_l1In_ev _ _ _) (Ev.one (fun k => by rw [spec_CountFactorizations.j0]) ?_))), Ev.bnd b3 (Ev.pos rfl (Ev.bnd (impl_within_ev _ _ _) (Ev.one (fun k => by rw [impl_CountFactorizations.j0]) ?_)))⟩
   ·exact Ev.pos (by rw [decide_eq_false h]; decide) (Ev.now _)
   ·exact Ev.pos (by rw [decide_eq_false h]; decide) (Ev.now _)
/-! isfac: IsFactorization of both sides -/
theorem isfac_both (g : List Int) (n : Int) (l : List Int) (hg : g.length ≤ 1048576) (hl : l.length ≤ 1048576) : ∃ b, (b = true ↔ SG g) ∧ Ev (fun k => spec_IsFactorization.f k g n l) (decide (0 ≤ n) && (valS b g l == n)) ∧ Ev (fun k => impl_IsFactorization.f k g n l) (decide (0 ≤ n) && (valS b g l == n)) := by
 obtain ⟨b, b1, h1, h2⟩ := value_both g l hg hl
 refine ⟨b, b1, ?_⟩
 unfold spec_IsFactorization.f impl_IsFactorization.f
 generalize valS b g l = v at h1 h2
 by_cases c1 : n ≥ 0
 ·rw [decide_eq_true (show 0 ≤ n from c1), Bool.true_and]
  refine ⟨Ev.pos c1 (Ev.bnd h1 (Ev.now _)), ?_⟩
  by_cases c2 : v ≥ 0
  ·exact Ev.bnd h2 (Ev.pos c2 (Ev.now _))
  ·have e : (v == n) = false := beq_eq_false_iff_ne.2 (by omega)
   rw [e]
   exact Ev.bnd h2 (Ev.neg c2 (Ev.now _))
 ·rw [decide_eq_false (show ¬ 0 ≤ n from c1), Bool.false_and]
  refine ⟨Ev.neg c1 (Ev.now _), ?_⟩
  by_cases c2 : v ≥ 0
  ·have e : (v == n) = false := beq_eq_false_iff_ne.2 (by omega)
   exact Ev.bnd h2 (by rw [← e]; exact Ev.pos c2 (Ev.now _))
  ·exact Ev.bnd h2 (Ev.neg c2 (Ev.now _))
theorem dot_ge : ∀ (z g : List Int), z.length = g.length → (∀ x ∈ z, 0 ≤ x) → (∀ x ∈ g, 1 ≤ x) → ∀ x ∈ z, x ≤ dot z g
 | [], _, _, _, _, x, hx => by cases hx
 | _ :: _, [], h, _, _, _, _ => by cases h
 | u :: z, v :: g, hl, h0, h1, x, hx => by
  have ih := dot_ge z g (by simpa using hl) (fun y hy => h0 y (List.mem_cons_of_mem _ hy)) (fun y hy => h1 y (List.mem_cons_of_mem _ hy))
  have hz := dot_nonneg z g (fun y hy => h0 y (List.mem_cons_of_mem _ hy)) (fun y hy => by have := h1 y (List.mem_cons_of_mem _ hy); omega)
  have hu := h0 u (List.mem_cons_self ..)
  have hv := h1 v (List.mem_cons_self ..)
  have hm : u * 1 ≤ u * v := Int.mul_le_mul_of_nonneg_left hv hu
  rw [dot_cons]
  rcases List.mem_cons.1 hx with rfl | hx
  ·omega
  ·have := ih x hx
   omega
theorem worth_l0 (l g : List Int) (hl : l.length = g.length) (h12 : g.length ≤ 12) (hg : ∀ x ∈ g, 1 ≤ x ∧ x ≤ 60) (hin : ∀ x ∈ l, 0 ≤ x ∧ x ≤ 1000000) :
  ∀ (d i : Nat) (s : Int), i + d = l.length → 0 ≤ s → s ≤ 60000000 * (i : Int) → Ev (fun k => laws_worth.l0 k l g s (i : Int)) (s + dot (l.drop i) (g.drop i)) := by
 intro d
 induction d with
 | zero =>
  intro i s hi h0 h1
  rw [List.drop_eq_nil_of_le (show l.length ≤ i by omega), dot_nil, Int.add_zero]
  refine Ev.one (fun k => by rw [laws_worth.l0]) ?_
  exact Ev.neg (by omega) (Ev.now _)
 | succ d ih =>
  intro i s hi h0 h1
  have hm := mul_le60 (hin l[i] (List.getElem_mem _)) (hg g[i] (List.getElem_mem _))
  rw [List.drop_eq_getElem_cons (show i < l.length by omega), List.drop_eq_getElem_cons (show i < g.length by omega), dot_cons]
  refine Ev.one (fun k => by rw [laws_worth.l0]) ?_
  rw [rd_at l i (by omega), rd_at g i (by omega), w64_succ i (by omega), w64_of (x := l[i] * g[i]) (by omega) (by omega), w64_of (x := s + l[i] * g[i]) (by omega) (by omega), ← Int.add_assoc]
  exact Ev.pos (by omega) (Ev.pos (by omega) (Ev.pos (by omega) (ih (i + 1) _ (by omega) (by omega) (by omega))))
theorem worth_ev (l g : List Int) (hl : l.length = g.length) (h12 : g.length ≤ 12) (hg : ∀ x ∈ g, 1 ≤ x ∧ x ≤ 60) (hin : ∀ x ∈ l, 0 ≤ x ∧ x ≤ 1000000) : Ev (fun k => laws_worth.f k l g) (dot l g) := by
 unfold laws_worth.f
 have h := worth_l0 l g hl h12 hg hin l.length 0 0 (by omega) (by omega) (by omega)
 rw [Int.zero_add] at h
 exact h
/-! spechas: spec.l3Has -/
theorem spec_l3Has_ev (g : List Int) (h : SG g) (n : Int) : ∃ b, (b = true ↔ Sums g n ∧ (n ≠ 0 ∨ n = 0)) ∧ Ev (fun k => spec_l3Has.f k g n) b := by
 have hp : ∀ x ∈ g, 1 ≤ x := fun x hx => (h.rng x hx).1
 have := h.len2
 unfold spec_l3Has.f
 by_cases h1 : n < 0
 ·exact ⟨decide (n > 0), ⟨fun e => by simp at e; omega, fun e => by have := e.1.nonneg hp; omega⟩, Ev.pos h1 (Ev.now _)⟩
 ·by_cases h2 : n ≥ 200
  ·exact ⟨decide (n > 0), ⟨fun _ => ⟨h.ends n h2, by omega⟩, fun _ => by simp; omega⟩, Ev.neg h1 (Ev.pos h2 (Ev.now _))⟩
  ·obtain ⟨q, rfl⟩ : ∃ q : Nat, n = (q : Int) := ⟨n.toNat, by omega⟩
   obtain ⟨t, t1, t2, t3⟩ := spec_l3Table_ev g q hp (by omega) (by omega)
   refine ⟨t.getD q false, ?_, ?_⟩
   ·rw [t2 q (Nat.le_refl _)]
    exact ⟨fun e => ⟨e, by omega⟩, fun e => e.1⟩
   ·refine Ev.neg h1 (Ev.neg h2 (Ev.bnd t3 (Ev.pos (by omega) (Ev.pos (by omega) ?_))))
    rw [rdOf_at]
    exact Ev.now _
/-! spechas2: spec.Contains -/
theorem spec_Contains_ev (g : List Int) (hlen : g.length ≤ 1048576) (n : Int) : ∃ b, (b = true ↔ SG g ∧ Sums g n) ∧ Ev (fun k => spec_Contains.f k g n) b := by
 obtain ⟨b, b1, b2⟩ := spec_IsSemigroup_ev g hlen
 unfold spec_Contains.f
 cases b with
 | false => exact ⟨false, ⟨(fun e => by cases e), fun e => by have := b1.2 e.1; cases this⟩, Ev.bnd b2 (Ev.neg (by decide) (Ev.now _))⟩
 | true =>
  have hS := b1.1 rfl
  obtain ⟨c, c1, c2⟩ := spec_l3Has_ev g hS n
  exact ⟨c, ⟨fun e => ⟨hS, (c1.1 e).1⟩, fun e => c1.2 ⟨e.2, by omega⟩⟩, Ev.bnd b2 (Ev.pos rfl (Ev.bnd c2 (Ev.now _)))⟩
/-! plaw: words on laws over bytes -/
theorem big_no (b : List Int) (h : b.length ≤ 1048576) : Ev (fun _ => laws_big.f b) false := by
 refine Ev.const ?_
 unfold laws_big.f
 rw [decide_eq_false (by omega)]
theorem big_yes (b : List Int) (h : ¬ b.length ≤ 1048576) : Ev (fun _ => laws_big.f b) true := by
 refine Ev.const ?_
 unfold laws_big.f
 rw [decide_eq_true (by omega)]
theorem sameInts_l0 (l : List Int) (hl : l.length ≤ 35184372088832) : ∀ (d i : Nat), i + d = l.length → Ev (fun k => laws_sameInts.l0 k l l (i : Int)) true := by
 intro d
 induction d with
 | zero =>
  intro i hi
  refine Ev.one (fun k => by rw [laws_sameInts.l0]) ?_
  exact Ev.neg (by omega) (Ev.now _)
 | succ d ih =>
  intro i hi
  refine Ev.one (fun k => by rw [laws_sameInts.l0]) ?_
  refine Ev.pos (by omega) (Ev.pos (by omega) (Ev.pos (by omega) (Ev.pos rfl ?_)))
  rw [w64_succ i (by omega)]
  exact ih (i + 1) (by omega)
theorem sameInts_ev (l : List Int) (hl : l.length ≤ 35184372088832) : Ev (fun k => laws_sameInts.f k l l) true := by
 unfold laws_sameInts.f
 exact Ev.pos rfl (sameInts_l0 l hl l.length 0 (by omega))
/-! samelists: laws.sameLists and laws.sameInts -/
theorem sameLists_l0 (l : List (List Int)) (hl : l.length ≤ 100000000000) (hx : ∀ x ∈ l, x.length ≤ 1000) : ∀ (d i : Nat), i + d = l.length → Ev (fun k => laws_sameLists.l0 k l l (i : Int)) true := by
 intro d
 induction d with
 | zero =>
  intro i hi
  refine Ev.one (fun k => by rw [laws_sameLists.l0]) ?_
  exact Ev.neg (by omega) (Ev.now _)
 | succ d ih =>
  intro i hi
  have h := hx _ (List.getElem_mem (show i < l.length by omega))
  refine Ev.one (fun k => by rw [laws_sameLists.l0]) ?_
  rw [rd_L2_at l i (by omega), w64_succ i (by omega)]
  exact Ev.pos (by omega) (Ev.pos (by omega) (Ev.pos (by omega) (Ev.bnd (sameInts_ev l[i] (by omega)) (Ev.pos rfl (ih (i + 1) (by omega))))))
theorem sameLists_ev (l : List (List Int)) (hl : l.length ≤ 100000000000) (hx : ∀ x ∈ l, x.length ≤ 1000) : Ev (fun k => laws_sameLists.f k l l) true := by
 unfold laws_sameLists.f
 exact Ev.pos rfl (sameLists_l0 l hl hx l.length 0 (by omega))
theorem sameInts_ne_l0 (a b : List Int) (hab : a.length = b.length) (hl : a.length ≤ 1000) : ∀ (d i : Nat), i + d = a.length → a.drop i ≠ b.drop i → Ev (fun k => laws_sameInts.l0 k a b (i : Int)) false := by
 intro d
 induction d with
 | zero =>
  intro i hi h
  exact absurd (by rw [List.drop_eq_nil_of_le (by omega), List.drop_eq_nil_of_le (by omega)]) h
 | succ d ih =>
  intro i hi h
  refine Ev.one (fun k => by rw [laws_sameInts.l0]) ?_
  rw [rd_at a i (by omega), rd_at b i (by omega), w64_succ i (by omega)]
  refine Ev.pos (by omega) (Ev.pos (by omega) (Ev.pos (by omega) ?_))
  by_cases e : a[i] = b[i]
  ·refine Ev.pos e (ih (i + 1) (by omega) (fun q => h ?_))
   rw [List.drop_eq_getElem_cons (show i < a.length by omega), List.drop_eq_getElem_cons (show i < b.length by omega), e, q]
  ·exact Ev.neg e (Ev.now _)
theorem sameInts_ne (a b : List Int) (hab : a.length = b.length) (hl : a.length ≤ 1000) (h : a ≠ b) : Ev (fun k => laws_sameInts.f k a b) false := by
 unfold laws_sameInts.f
 exact Ev.pos (by omega) (sameInts_ne_l0 a b hab hl a.length 0 (by omega) (by simpa using h))
/-! draw: the cursor of the draws, what it picks, the drawn semigroups -/
theorem i64_and255 (n : Int) : Go.bits .and .i64 n 255 = n % 256 := by
 have h1 : (BitVec.ofInt 64 255).toNat = 2 ^ 8 - 1 := by decide
 have key : (BitVec.ofInt 64 n &&& BitVec.ofInt 64 255).toNat = (n % ((2 ^ 64 : Nat) : Int)).toNat % 2 ^ 8 := by
  rw [BitVec.toNat_and, BitVec.toNat_ofInt, h1, Nat.and_two_pow_sub_one_eq_mod]
 show IntKind.i64.wrap ((BitVec.ofInt 64 n &&& BitVec.ofInt 64 255).toNat : Nat) = n % 256
 rw [key, IntKind.wrap_i64]
 omega
/-- The cursor stands inside the bytes. -/
def CurOk (b : List Int) (i : Int) : Prop := b.length ≤ 1048576 ∧ 0 ≤ i ∧ i ≤ (b.length : Int)
theorem l1Byte_ok (b : List Int) (i h : Int) (ok : CurOk b i) : ∃ x i' h', spec_l1Byte.f b i h = some (x, i', h') ∧ (0 ≤ x ∧ x ≤ 255) ∧ CurOk b i' := by
 obtain ⟨o1, o2, o3⟩ := ok
 unfold spec_l1Byte.f
 by_cases c : i < (b.length : Int)
 ·rw [if_pos c, if_pos o2]
  refine ⟨_, _, _, rfl, ?_, o1, ?_⟩
  ·rw [i64_and255]; omega
  ·rw [w64_of (by omega) (by omega)]; omega
 ·rw [if_neg c]
  refine ⟨_, _, _, rfl, ?_, o1, o2, o3⟩
  rw [i64_and255]; omega
theorem tmod_in (x n : Int) (h0 : 0 ≤ x) (hn : 1 ≤ n) : 0 ≤ Int.tmod x n ∧ Int.tmod x n < n :=
 ⟨Int.tmod_nonneg n h0, by have := Int.tmod_lt_of_pos x (show 0 < n by omega); exact this⟩
theorem l1Below_ok (b : List Int) (i h n : Int) (ok : CurOk b i) : ∃ x i' h', spec_l1Below.f b i h n = some (x, i', h') ∧ (0 ≤ x ∧ (1 ≤ n → x < n) ∧ (n ≤ 0 → x = 0)) ∧ CurOk b i' := by
 unfold spec_l1Below.f
 by_cases c : n ≤ 0
 ·rw [if_pos c]
  exact ⟨_, _, _, rfl, ⟨by omega, by omega, fun _ => rfl⟩, ok⟩
 rw [if_neg c]
 obtain ⟨x, i1, h1, e1, b1, k1⟩ := l1Byte_ok b i h ok
 rw [e1]
 by_cases c2 : n ≤ 256
 ·rw [if_pos c2]
  simp only [Option.bind_some]
  rw [if_neg (by omega)]
  exact ⟨_, _, _, rfl, ⟨(tmod_in x n b1.1 (by omega)).1, fun _ => (tmod_in x n b1.1 (by omega)).2, by omega⟩, k1⟩
 ·rw [if_neg c2]
  obtain ⟨y, i2, h2, e2, b2, k2⟩ := l1Byte_ok b i1 h1 k1
  obtain ⟨z, i3, h3, e3, b3, k3⟩ := l1Byte_ok b i2 h2 k2
  obtain ⟨u, i4, h4, e4, b4, k4⟩ := l1Byte_ok b i3 h3 k3
  simp only [Option.bind_some, e2, e3, e4]
  rw [if_neg (by omega)]
  have hv : 0 ≤ wrap64 ((wrap64 ((wrap64 ((wrap64 (x * 16777216)) + (wrap64 (y * 65536)))) + (wrap64 (z * 256)))) + u) := by
   rw [w64_of (x := x * 16777216) (by omega) (by omega), w64_of (x := y * 65536) (by omega) (by omega), w64_of (x := z * 256) (by omega) (by omega), w64_of (x := x * 16777216 + y * 65536) (by omega) (by omega), w64_of (x := x * 16777216 + y * 65536 + z * 256) (by omega) (by omega), w64_of (by omega) (by omega)]
   omega
  exact ⟨_, _, _, rfl, ⟨(tmod_in _ n hv (by omega)).1, fun _ => (tmod_in _ n hv (by omega)).2, by omega⟩, k4⟩
theorem l1Once_ok (b : List Int) (i h n : Int) (ok : CurOk b i) : ∃ x i' h', spec_l1Once.f b i h n = some (x, i', h') ∧ CurOk b i' := by
 unfold spec_l1Once.f
 obtain ⟨x, i1, h1, e1, _, k1⟩ := l1Below_ok b i h n ok
 rw [e1]
 exact ⟨_, _, _, rfl, k1⟩
theorem l1PickInt_ok (b : List Int) (i h : Int) (l : List Int) (ok : CurOk b i) (hl : 1 ≤ l.length) : ∃ x i' h', spec_l1PickInt.f b i h l = some (x, i', h') ∧ x ∈ l ∧ CurOk b i' := by
 unfold spec_l1PickInt.f
 obtain ⟨x, i1, h1, e1, b1, k1⟩ := l1Below_ok b i h (l.length : Int) ok
 have b2 := b1.2.1 (by omega)
 rw [e1]
 simp only [Option.bind_some]
 rw [if_pos b1.1, if_pos b2]
 refine ⟨_, _, _, rfl, ?_, k1⟩
 obtain ⟨m, rfl⟩ : ∃ m : Nat, x = (m : Int) := ⟨x.toNat, by omega⟩
 rw [rd_at l m (by omega)]
 exact List.getElem_mem _
theorem l1New_l0 (b : List Int) (hb : b.length ≤ 1048576) : ∀ (d i : Nat) (h : Int), i + d = 4001 → ∃ h', Ev (fun k => spec_l1New.l0 k b h (i : Int)) (b, 0, h') := by
 intro d
 induction d with
 | zero =>
  intro i h hi
  refine ⟨h, Ev.one (fun k => by rw [spec_l1New.l0]) ?_⟩
  by_cases c : (i : Int) < (b.length : Int)
  ·exact Ev.pos c (Ev.neg (by omega) (Ev.now _))
  ·exact Ev.neg c (Ev.now _)
 | succ d ih =>
  intro i h hi
  by_cases c : (i : Int) < (b.length : Int)
  ·by_cases c2 : (i : Int) < 4000
   ·obtain ⟨h', e⟩ := ih (i + 1) (Go.bits .and .i64 (wrap64 ((wrap64 ((wrap64 (h * 131)) + (wrap64 (rd b (i : Int))))) + 7)) 1073741823) (by omega)
    refine ⟨h', Ev.one (fun k => by rw [spec_l1New.l0]) ?_⟩
    refine Ev.pos c (Ev.pos c2 (Ev.pos (by omega) ?_))
    rw [w64_succ i (by omega)]
    exact e
   ·refine ⟨h, Ev.one (fun k => by rw [spec_l1New.l0]) ?_⟩
    exact Ev.pos c (Ev.neg c2 (Ev.now _))
  ·refine ⟨h, Ev.one (fun k => by rw [spec_l1New.l0]) ?_⟩
   exact Ev.neg c (Ev.now _)
theorem l1New_ok (b : List Int) (hb : b.length ≤ 1048576) : ∃ h, Ev (fun k => spec_l1New.f k b) (b, 0, h) ∧ CurOk b 0 := by
 obtain ⟨h', e⟩ := l1New_l0 b hb 4001 0 (wrap64 (26583 + (b.length : Int))) (by omega)
 exact ⟨h', e, hb, by omega, by omega⟩
/-! drawsg: the drawn semigroups -/
def sB (g : List Int) : Nat → Int → Bool
 | 0, n => decide (n = 0)
 | f + 1, n => decide (n = 0) || g.any fun x => decide (x ≤ n) && sB g f (n - x)
theorem sB_sound (g : List Int) : ∀ (f : Nat) (n : Int), sB g f n = true → Sums g n := by
 intro f
 induction f with
 | zero => intro n h; rw [sB, decide_eq_true_eq] at h; rw [h]; exact Sums.zero g
 | succ f ih =>
  intro n h
  rw [sB, Bool.or_eq_true, decide_eq_true_eq, List.any_eq_true] at h
  rcases h with h | ⟨x, hx, h⟩
  ·rw [h]; exact Sums.zero g
  ·rw [Bool.and_eq_true] at h
   have := Sums.add hx (ih _ h.2)
   rwa [show n - x + x = n from by omega] at this
theorem sB_all (g : List Int) (hp : ∀ x ∈ g, 1 ≤ x) : ∀ (f : Nat) (n : Int), n ≤ (f : Int) → Sums g n → sB g f n = true := by
 intro f
 induction f with
 | zero => intro n h hs; have := hs.nonneg hp; rw [sB, decide_eq_true_eq]; omega
 | succ f ih =>
  intro n h hs
  rw [sB, Bool.or_eq_true, decide_eq_true_eq, List.any_eq_true]
  by_cases h0 : n = 0
  ·exact .inl h0
  ·obtain ⟨x, hx, hxn, hc⟩ := hs.cut hp h0
   have := hp x hx
   exact .inr ⟨x, hx, by rw [Bool.and_eq_true, decide_eq_true_eq]; exact ⟨hxn, ih _ (by omega) hc⟩⟩
theorem SG_of (g : List Int) (a : Nat) (w : List Int) (ha : 1 ≤ a) (hm : (a : Int) ∈ g) (h1 : 1 ≤ g.length ∧ g.length ≤ 12) (h2 : ∀ x ∈ g, 1 ≤ x ∧ x ≤ 60) (h3 : asc g) (h4 : gcdL g = 1)
  (h5 : ∀ k, k < g.length → k = 0 ∨ (g.getD k 0 ≤ 60 ∧ sB (g.take k) 60 (g.getD k 0) = false))
  (h6 : ∀ r : Nat, r < a → ∃ m ∈ w, m ≤ 200 ∧ m % (a : Int) = (r : Int) ∧ sB g 60 m = true) : SG g := by
 refine ⟨h1.1, h1.2, h2, h3, h4, fun k hk => ?_, fun n hn => ?_⟩
 ·rcases h5 k hk with h | h
  ·exact .inl h
  ·refine .inr fun hs => ?_
   have := sB_all (g.take k) (fun x hx => (h2 x (List.mem_of_mem_take hx)).1) 60 _ h.1 hs
   rw [h.2] at this
   cases this
 ·obtain ⟨m, _, m1, m2, m3⟩ := h6 (n % (a : Int)).toNat (by have := Int.emod_nonneg n (show (a : Int) ≠ 0 by omega); have := Int.emod_lt_of_pos n (show (0 : Int) < a by omega); omega)
  have e0 := Int.emod_nonneg n (show (a : Int) ≠ 0 by omega)
  have e1 : m % (a : Int) = n % (a : Int) := by omega
  have e2 : (n - m) % (a : Int) = 0 := Int.emod_eq_emod_iff_emod_sub_eq_zero.1 e1.symm
  obtain ⟨q, hq⟩ := Int.dvd_of_emod_eq_zero e2
  have hq0 : 0 ≤ q := Classical.byContradiction fun hn' => by
   have : (a : Int) * q ≤ (a : Int) * (-1) := Int.mul_le_mul_of_nonneg_left (by omega) (by omega)
   omega
  obtain ⟨c, rfl⟩ : ∃ c : Nat, q = (c : Int) := ⟨q.toNat, by omega⟩
  have := (sB_sound g 60 m m3).both (Sums.times hm c)
  rwa [show m + (c : Int) * (a : Int) = n from by rw [Int.mul_comm]; omega] at this
def eight : List (List Int) := [[1], [3, 5], [4, 6, 9], [3, 4, 5], [6, 9, 20], [5, 7, 9, 11], [2, 3], [4, 5, 11]]
theorem eight_SG : ∀ g ∈ eight, SG g := by
 intro g hg
 have a1 : ∀ l : List Int, l.Pairwise (· < ·) → asc l := fun _ h => h
 simp only [eight, List.mem_cons, List.not_mem_nil, or_false] at hg
 rcases hg with rfl | rfl | rfl | rfl | rfl | rfl | rfl | rfl
 ·exact SG_of _ 1 [0] (by decide) (by decide) (by decide) (by decide) (a1 _ (by decide)) (by decide) (by decide) (by decide)
 ·exact SG_of _ 3 [0, 10, 5] (by decide) (by decide) (by decide) (by decide) (a1 _ (by decide)) (by decide) (by decide +kernel) (by decide +kernel)
 ·exact SG_of _ 4 [0, 9, 6, 15] (by decide) (by decide) (by decide) (by decide) (a1 _ (by decide)) (by decide) (by decide +kernel) (by decide +kernel)
 ·exact SG_of _ 3 [0, 4, 5] (by decide) (by decide) (by decide) (by decide) (a1 _ (by decide)) (by decide) (by decide +kernel) (by decide +kernel)
 ·exact SG_of _ 6 [0, 49, 20, 9, 40, 29] (by decide) (by decide) (by decide) (by decide) (a1 _ (by decide)) (by decide) (by decide +kernel) (by decide +kernel)
 ·exact SG_of _ 5 [0, 11, 7, 18, 9] (by decide) (by decide) (by decide) (by decide) (a1 _ (by decide)) (by decide) (by decide +kernel) (by decide +kernel)
 ·exact SG_of _ 2 [0, 3] (by decide) (by decide) (by decide) (by decide) (a1 _ (by decide)) (by decide) (by decide +kernel) (by decide +kernel)
 ·exact SG_of _ 4 [0, 5, 10, 11] (by decide) (by decide) (by decide) (by decide) (a1 _ (by decide)) (by decide) (by decide +kernel) (by decide +kernel)
/-- What spec.FromGens gives. -/
theorem spec_FromGens_ev (l : List Int) (hl : l.length ≤ 1048576) : ∃ r : List Int × Bool, ((r.2 = true → SG r.1) ∧ (r.2 = false → r.1 = []) ∧ (SG l → r = (l, true))) ∧ Ev (fun k => spec_FromGens.f k l) r := by
 have u1 := spec_l3Gens_ev l hl
 unfold spec_FromGens.f
 cases hb : (allIn l 1 60 && decide ((1 : Int) ≤ (l.length : Int) ∧ (l.length : Int) ≤ 20)) with
 | false =>
  rw [hb] at u1
  refine ⟨([], false), ⟨by simp, by simp, fun h => ?_⟩, Ev.bnd u1 (Ev.neg (by decide) (Ev.now _))⟩
  rw [(allIn_iff l 1 60).2 h.rng, Bool.true_and, decide_eq_false_iff_not] at hb
  have := h.len1; have := h.len2
  omega
 | true =>
  rw [hb] at u1
  rw [Bool.and_eq_true, decide_eq_true_eq] at hb
  have hr := (allIn_iff l 1 60).1 hb.1
  obtain ⟨s, s1, s2⟩ := spec_l3Minimal_ev l hl (fun x hx => by have := hr x hx; omega)
  have hml := minL_len s
  obtain ⟨c, c1, c2⟩ := spec_IsSemigroup_ev (minL s) (by omega)
  refine ⟨if c = true then (minL s, true) else ([], false), ⟨?_, ?_, fun h => ?_⟩, Ev.bnd u1 (Ev.pos rfl (Ev.bnd s2 (Ev.bnd c2 ?_)))⟩
  ·cases c with
   | true => exact fun _ => c1.1 rfl
   | false => intro h; cases h
  ·cases c with
   | true => intro h; cases h
   | false => exact fun _ => rfl
  ·obtain rfl : s = l := asc_uniq s l s1.1 h.up s1.2.1
   have e := (minL_iff s).2 h.free
   rw [e] at c1 ⊢
   rw [if_pos (c1.2 h)]
  ·cases c with
   | true => exact Ev.pos rfl (Ev.now _)
   | false => exact Ev.neg (by decide) (Ev.now _)
theorem l3List_ok (b : List Int) (i h : Int) (ok : CurOk b i) : ∃ x i' h', spec_l3List.f b i h = some (x, i', h') ∧ SG x ∧ CurOk b i' := by
 unfold spec_l3List.f
 obtain ⟨x, i1, h1, e1, b1, k1⟩ := l1Below_ok b i h 8 ok
 have b2 := b1.2.1 (by omega)
 rw [e1]
 simp only [Option.bind_some]
 have key : ∀ g ∈ eight, ∃ x i' h', (some (g, i1, h1) : Option (List Int × Int × Int)) = some (x, i', h') ∧ SG x ∧ CurOk b i' := fun g hg => ⟨_, _, _, rfl, eight_SG g hg, k1⟩
 by_cases c0 : x = 0
 ·rw [if_pos c0]; exact key _ (by decide)
 rw [if_neg c0]
 by_cases c1 : x = 1
 ·rw [if_pos c1]; exact key _ (by decide)
 rw [if_neg c1]
 by_cases c2 : x = 2
 ·rw [if_pos c2]; exact key _ (by decide)
 rw [if_neg c2]
 by_cases c3 : x = 3
 ·rw [if_pos c3]; exact key _ (by decide)
 rw [if_neg c3]
 by_cases c4 : x = 4
 ·rw [if_pos c4]; exact key _ (by decide)
 rw [if_neg c4]
 by_cases c5 : x = 5
 ·rw [if_pos c5]; exact key _ (by decide)
 rw [if_neg c5]
 by_cases c6 : x = 6
 ·rw [if_pos c6]; exact key _ (by decide)
 ·rw [if_neg c6]; exact key _ (by decide)
theorem l3Fall_ok (b : List Int) (i h : Int) (ok : CurOk b i) : ∃ x i' h', SG x ∧ CurOk b i' ∧ Ev (fun k => (spec_l3List.f b i h).bind fun bt => (spec_FromGens.f k bt.1).bind fun bu => (some (bu.1, bt.2.1, bt.2.2))) (x, i', h') := by
 obtain ⟨x, i1, h1, e1, b1, k1⟩ := l3List_ok b i h ok
 obtain ⟨r, r1, r2⟩ := spec_FromGens_ev x (by have := b1.len2; omega)
 obtain rfl := r1.2.2 b1
 have f1 : Ev (fun _ : Nat => spec_l3List.f b i h) (x, i1, h1) := Ev.const e1
 exact ⟨x, i1, h1, b1, k1, Ev.bnd f1 (Ev.bnd r2 (Ev.now _))⟩
theorem l3Draw_l1 (b : List Int) (x5 : Int) (next : ∀ i h, CurOk b i → ∃ x i' h', SG x ∧ CurOk b i' ∧ Ev (fun k => spec_l3Draw.l0 k (wrap64 (x5 + 1)) b i h) (x, i', h')) (x7 : Int) (h7 : x7 ≤ 4) :
  ∀ (d j : Nat) (l : List Int) (i h : Int), j + d = 4 → l.length = j + 1 → (∀ x ∈ l.take 1, 0 ≤ x ∧ x ≤ 100) → CurOk b i → ∃ x i' h', SG x ∧ CurOk b i' ∧ Ev (fun k => spec_l3Draw.l1 k x5 l x7 (j : Int) b i h) (x, i', h') := by
 intro d
 induction d with
 | zero =>
  intro j l i h hj hl h0 ok
  obtain ⟨r, r1, r2⟩ := spec_FromGens_ev l (by omega)
  cases hr : r.2 with
  | true =>
   refine ⟨r.1, i, h, r1.1 hr, ok, Ev.one (fun k => by rw [spec_l3Draw.l1]) (Ev.neg (by omega) (Ev.bnd r2 (Ev.pos hr (Ev.now _))))⟩
  | false =>
   obtain ⟨x, i', h', n1, n2, n3⟩ := next i h ok
   exact ⟨x, i', h', n1, n2, Ev.one (fun k => by rw [spec_l3Draw.l1]) (Ev.neg (by omega) (Ev.bnd r2 (Ev.neg (show ¬ r.2 = true by rw [hr]; decide) n3)))⟩
 | succ d ih =>
  intro j l i h hj hl h0 ok
  by_cases c : (j : Int) < x7
  ·obtain ⟨y, i1, h1, e1, b1, k1⟩ := l1Below_ok b i h 12 ok
   have e1' : Ev (fun _ : Nat => spec_l1Below.f b i h 12) (y, i1, h1) := Ev.const e1
   obtain ⟨x, i', h', n1, n2, n3⟩ := ih (j + 1) (l ++ [wrap64 ((wrap64 ((rd l 0) + 1)) + y)]) i1 h1 (by omega) (by simp; omega) (by rw [List.take_append_of_le_length (by omega)]; exact h0) k1
   refine ⟨x, i', h', n1, n2, ?_⟩
   refine Ev.one (fun k => by rw [spec_l3Draw.l1]) ?_
   refine Ev.pos c (Ev.pos (by omega) (Ev.bnd e1' ?_))
   rw [w64_succ j (by omega)]
   exact Ev.pos (show l.length < 17592186044416 by omega) n3
  ·obtain ⟨r, r1, r2⟩ := spec_FromGens_ev l (by omega)
   cases hr : r.2 with
   | true =>
    refine ⟨r.1, i, h, r1.1 hr, ok, Ev.one (fun k => by rw [spec_l3Draw.l1]) (Ev.neg c (Ev.bnd r2 (Ev.pos hr (Ev.now _))))⟩
   | false =>
    obtain ⟨x, i', h', n1, n2, n3⟩ := next i h ok
    exact ⟨x, i', h', n1, n2, Ev.one (fun k => by rw [spec_l3Draw.l1]) (Ev.neg c (Ev.bnd r2 (Ev.neg (show ¬ r.2 = true by rw [hr]; decide) n3)))⟩
theorem l3Draw_l0 (b : List Int) : ∀ (d q : Nat) (i h : Int), q + d = 4 → CurOk b i → ∃ x i' h', SG x ∧ CurOk b i' ∧ Ev (fun k => spec_l3Draw.l0 k (q : Int) b i h) (x, i', h') := by
 intro d
 induction d with
 | zero =>
  intro q i h hq ok
  obtain ⟨x, i', h', n1, n2, n3⟩ := l3Fall_ok b i h ok
  exact ⟨x, i', h', n1, n2, Ev.one (fun k => by rw [spec_l3Draw.l0]) (Ev.neg (by omega) n3)⟩
 | succ d ih =>
  intro q i h hq ok
  obtain ⟨y, i1, h1, e1, b1, k1⟩ := l1Below_ok b i h 8 ok
  obtain ⟨z, i2, h2, e2, b2, k2⟩ := l1Below_ok b i1 h1 4 k1
  have f1 : Ev (fun _ : Nat => spec_l1Below.f b i h 8) (y, i1, h1) := Ev.const e1
  have f2 : Ev (fun _ : Nat => spec_l1Below.f b i1 h1 4) (z, i2, h2) := Ev.const e2
  have y8 := b1.2.1 (by omega)
  have z4 := b2.2.1 (by omega)
  have h7 : wrap64 (1 + z) ≤ 4 := by rw [w64_of (by omega) (by omega)]; omega
  obtain ⟨x, i', h', n1, n2, n3⟩ := l3Draw_l1 b (q : Int) (fun i h ok => by rw [w64_succ q (by omega)]; exact ih (q + 1) i h (by omega) ok) (wrap64 (1 + z)) h7 4 0 [wrap64 (2 + y)] i2 h2 (by omega) rfl (by
   intro x hx
   rw [List.mem_singleton.1 hx, w64_of (by omega) (by omega)]
   omega) k2
  exact ⟨x, i', h', n1, n2, Ev.one (fun k => by rw [spec_l3Draw.l0]) (Ev.pos (by omega) (Ev.bnd f1 (Ev.bnd f2 n3)))⟩
theorem l3Draw_ok (b : List Int) (i h : Int) (ok : CurOk b i) : ∃ x i' h', SG x ∧ CurOk b i' ∧ Ev (fun k => spec_l3Draw.f k b i h) (x, i', h') := by
 unfold spec_l3Draw.f
 obtain ⟨y, i1, h1, e1, k1⟩ := l1Once_ok b i h 4 ok
 have f1 : Ev (fun _ : Nat => spec_l1Once.f b i h 4) (y, i1, h1) := Ev.const e1
 cases y with
 | true =>
  obtain ⟨x, i', h', n1, n2, n3⟩ := l3Fall_ok b i1 h1 k1
  exact ⟨x, i', h', n1, n2, Ev.bnd f1 (Ev.pos rfl n3)⟩
 | false =>
  obtain ⟨x, i', h', n1, n2, n3⟩ := l3Draw_l0 b 4 0 i1 h1 (by omega) k1
  exact ⟨x, i', h', n1, n2, Ev.bnd f1 (Ev.neg (show ¬ false = true by decide) n3)⟩
theorem l3Bent_ok (b : List Int) (i h : Int) (ok : CurOk b i) : ∃ x i' h', x.length ≤ 13 ∧ CurOk b i' ∧ Ev (fun k => spec_l3Bent.f k b i h) (x, i', h') := by
 unfold spec_l3Bent.f
 obtain ⟨g, i1, h1, hS, k1, e1⟩ := l3Draw_ok b i h ok
 have n1 := hS.len1; have n2 := hS.len2
 obtain ⟨y, i2, h2, e2, b2, k2⟩ := l1Below_ok b i1 h1 12 k1
 have f2 : Ev (fun _ : Nat => spec_l1Below.f b i1 h1 12) (y, i2, h2) := Ev.const e2
 by_cases c0 : y = 0
 ·obtain ⟨v, i3, h3, e3, _, k3⟩ := l1PickInt_ok b i2 h2 [0, 61, 12, (-3), 60] k2 (by decide)
  have f3 : Ev (fun _ : Nat => spec_l1PickInt.f b i2 h2 [0, 61, 12, (-3), 60]) (v, i3, h3) := Ev.const e3
  exact ⟨g ++ [v], i3, h3, by simp; omega, k3, Ev.bnd e1 (Ev.bnd f2 (Ev.pos c0 (Ev.bnd f3 (Ev.pos (by show g.length < _; omega) (Ev.now _)))))⟩
 by_cases c1 : y = 1
 ·exact ⟨g.drop 1, i2, h2, by simp; omega, k2, Ev.bnd e1 (Ev.bnd f2 (Ev.neg c0 (Ev.pos c1 (Ev.pos (by show 1 ≤ (g.length : Int); omega) (Ev.now _)))))⟩
 by_cases c2 : y = 2
 ·obtain ⟨v, i3, h3, e3, _, k3⟩ := l1PickInt_ok b i2 h2 [0, 59, 4] k2 (by decide)
  have f3 : Ev (fun _ : Nat => spec_l1PickInt.f b i2 h2 [0, 59, 4]) (v, i3, h3) := Ev.const e3
  exact ⟨[v, 60], i3, h3, by simp, k3, Ev.bnd e1 (Ev.bnd f2 (Ev.neg c0 (Ev.neg c1 (Ev.pos c2 (Ev.bnd f3 (Ev.now _))))))⟩
 ·exact ⟨g, i2, h2, by omega, k2, Ev.bnd e1 (Ev.bnd f2 (Ev.neg c0 (Ev.neg c1 (Ev.neg c2 (Ev.now _)))))⟩
/-! draw11: a drawn semigroup with a number that is factored -/
theorem l11Case_ok (b : List Int) (hb : b.length ≤ 1048576) : ∃ g n, g.length ≤ 13 ∧ Ev (fun k => spec_l11Case.f k b) (g, n) := by
 have key : ∀ (i h : Int) (g : List Int), CurOk b i → ∃ n, Ev (fun k => spec_l11Case.j0 k b i h g) (g, n) := fun i h g ok => by
  obtain ⟨x, i1, h1, e1, _, k1⟩ := l1Below_ok b i h 40 ok
  obtain ⟨y, i2, h2, e2, _, k2⟩ := l1Below_ok b i1 h1 40 k1
  obtain ⟨z, i3, h3, e3, _, k3⟩ := l1Below_ok b i2 h2 50 k2
  obtain ⟨v, i4, h4, e4, _, _⟩ := l1PickInt_ok b i3 h3 [x, y, z, (-1), 101] k3 (by simp)
  have f1 : Ev (fun _ : Nat => spec_l1Below.f b i h 40) (x, i1, h1) := Ev.const e1
  have f2 : Ev (fun _ : Nat => spec_l1Below.f b i1 h1 40) (y, i2, h2) := Ev.const e2
  have f3 : Ev (fun _ : Nat => spec_l1Below.f b i2 h2 50) (z, i3, h3) := Ev.const e3
  have f4 : Ev (fun _ : Nat => spec_l1PickInt.f b i3 h3 [x, y, z, (-1), 101]) (v, i4, h4) := Ev.const e4
  by_cases c1 : (g.length : Int) > 4
  ·by_cases c2 : v > 30
   ·by_cases c3 : v < 101
    ·refine ⟨30, Ev.one (fun k => by rw [spec_l11Case.j0]) ?_⟩
     exact Ev.bnd f1 (Ev.bnd f2 (Ev.bnd f3 (Ev.bnd f4 (Ev.pos c1 (Ev.pos c2 (Ev.pos c3 (Ev.now _)))))))
    ·refine ⟨v, Ev.one (fun k => by rw [spec_l11Case.j0]) ?_⟩
     exact Ev.bnd f1 (Ev.bnd f2 (Ev.bnd f3 (Ev.bnd f4 (Ev.pos c1 (Ev.pos c2 (Ev.neg c3 (Ev.now _)))))))
   ·refine ⟨v, Ev.one (fun k => by rw [spec_l11Case.j0]) ?_⟩
    exact Ev.bnd f1 (Ev.bnd f2 (Ev.bnd f3 (Ev.bnd f4 (Ev.pos c1 (Ev.neg c2 (Ev.now _))))))
  ·refine ⟨v, Ev.one (fun k => by rw [spec_l11Case.j0]) ?_⟩
   exact Ev.bnd f1 (Ev.bnd f2 (Ev.bnd f3 (Ev.bnd f4 (Ev.neg c1 (Ev.now _)))))
 unfold spec_l11Case.f
 obtain ⟨h0, e0, k0⟩ := l1New_ok b hb
 obtain ⟨g, i1, h1, hS, k1, e1⟩ := l3Draw_ok b 0 h0 k0
 have n2 := hS.len2
 obtain ⟨y, i2, h2, e2, k2⟩ := l1Once_ok b i1 h1 12 k1
 have f2 : Ev (fun _ : Nat => spec_l1Once.f b i1 h1 12) (y, i2, h2) := Ev.const e2
 cases y with
 | true =>
  obtain ⟨s, i3, h3, hs, k3, e3⟩ := l3Bent_ok b i2 h2 k2
  obtain ⟨n, hn⟩ := key i3 h3 s k3
  exact ⟨s, n, hs, Ev.bnd e0 (Ev.bnd e1 (Ev.bnd f2 (Ev.pos rfl (Ev.bnd e3 hn))))⟩
 | false =>
  obtain ⟨n, hn⟩ := key i2 h2 g k2
  exact ⟨g, n, by omega, Ev.bnd e0 (Ev.bnd e1 (Ev.bnd f2 (Ev.neg (show ¬ false = true by decide) hn)))⟩
/-! draw11l: a drawn semigroup with a list that is mostly a factorization -/
theorem l11List_j0_ok (b g : List Int) (n i h : Int) (l : List Int) (hl : l.length ≤ 1000) (ok : CurOk b i) : ∃ z, z.length ≤ 1001 ∧ Ev (fun k => spec_l11List.j0 k n l g b i h) (g, n, z) := by
 obtain ⟨x, i1, h1, e1, b1, k1⟩ := l1Below_ok b i h 10 ok
 have f1 : Ev (fun _ : Nat => spec_l1Below.f b i h 10) (x, i1, h1) := Ev.const e1
 by_cases c0 : x = 0
 ·refine ⟨l ++ [1], by rw [List.length_append, List.length_singleton]; omega, Ev.one (fun k => by rw [spec_l11List.j0]) ?_⟩
  exact Ev.bnd f1 (Ev.pos c0 (Ev.pos (by omega) (Ev.now _)))
 by_cases c1 : x = 1
 ·by_cases c2 : (l.length : Int) > 0
  ·obtain ⟨v, i2, h2, e2, _, _⟩ := l1PickInt_ok b i1 h1 [(-1), 1000000, 1000001, 3] k1 (by decide)
   have f2 : Ev (fun _ : Nat => spec_l1PickInt.f b i1 h1 [(-1), 1000000, 1000001, 3]) (v, i2, h2) := Ev.const e2
   refine ⟨l.set (0 : Int).toNat v, by rw [List.length_set]; omega, Ev.one (fun k => by rw [spec_l11List.j0]) ?_⟩
   exact Ev.bnd f1 (Ev.neg c0 (Ev.pos c1 (Ev.pos c2 (Ev.bnd f2 (Ev.pos (by omega) (Ev.now _))))))
  ·refine ⟨l, by omega, Ev.one (fun k => by rw [spec_l11List.j0]) ?_⟩
   exact Ev.bnd f1 (Ev.neg c0 (Ev.pos c1 (Ev.neg c2 (Ev.now _))))
 ·refine ⟨l, by omega, Ev.one (fun k => by rw [spec_l11List.j0]) ?_⟩
  exact Ev.bnd f1 (Ev.neg c0 (Ev.neg c1 (Ev.now _)))
theorem l11List_ok (b : List Int) (hb : b.length ≤ 1048576) : ∃ g n z, g.length ≤ 13 ∧ z.length ≤ 1001 ∧ Ev (fun k => spec_l11List.f k b) (g, n, z) := by
 obtain ⟨g, n, hg, e1⟩ := l11Case_ok b hb
 obtain ⟨h0, e0, k0⟩ := l1New_ok b hb
 obtain ⟨c, c1, c2, _⟩ := fac_both g (by omega) n
 obtain ⟨s1, s2⟩ := facS_small c g c1.1 n
 unfold spec_l11List.f
 by_cases hp : ((facS c g n).length : Int) > 0
 ·obtain ⟨x, i1, h1, e2, b2, k2⟩ := l1Below_ok b 0 h0 ((facS c g n).length : Int) k0
  have f2 : Ev (fun _ : Nat => spec_l1Below.f b 0 h0 ((facS c g n).length : Int)) (x, i1, h1) := Ev.const e2
  have hx := b2.2.1 (by omega)
  obtain ⟨m, rfl⟩ : ∃ m : Nat, x = (m : Int) := ⟨x.toNat, by omega⟩
  have hr : (rd_L2 (facS c g n) (m : Int)).length ≤ 1000 := by
   rw [rd_L2_at _ m (by omega)]
   exact s2 _ (List.getElem_mem _)
  obtain ⟨z, z1, z2⟩ := l11List_j0_ok b g n i1 h1 (rd_L2 (facS c g n) (m : Int)) hr k2
  exact ⟨g, n, z, hg, z1, Ev.bnd e1 (Ev.bnd e0 (Ev.bnd c2 (Ev.pos hp (Ev.bnd f2 (Ev.pos (by show (0 : Int) ≤ (m : Int); omega) (Ev.pos hx z2))))))⟩
 ·obtain ⟨z, z1, z2⟩ := l11List_j0_ok b g n 0 h0 [1, 2] (by decide) k0
  exact ⟨g, n, z, hg, z1, Ev.bnd e1 (Ev.bnd e0 (Ev.bnd c2 (Ev.neg hp z2)))⟩
theorem drawCount_ok (b : List Int) (hb : b.length ≤ 1048576) : ∃ g n, g.length ≤ 13 ∧ Ev (fun k => spec_DrawCountFactorizations.f k b) (g, n) := by
 unfold spec_DrawCountFactorizations.f
 obtain ⟨h0, e0, k0⟩ := l1New_ok b hb
 obtain ⟨g, i1, h1, hg, k1, e1⟩ := l3Bent_ok b 0 h0 k0
 obtain ⟨x, i2, h2, e2, _, k2⟩ := l1Below_ok b i1 h1 100 k1
 obtain ⟨y, i3, h3, e3, _, k3⟩ := l1Below_ok b i2 h2 400 k2
 obtain ⟨v, i4, h4, e4, _, _⟩ := l1PickInt_ok b i3 h3 [x, 1000, 1001, (-1), y] k3 (by simp)
 have f2 : Ev (fun _ : Nat => spec_l1Below.f b i1 h1 100) (x, i2, h2) := Ev.const e2
 have f3 : Ev (fun _ : Nat => spec_l1Below.f b i2 h2 400) (y, i3, h3) := Ev.const e3
 have f4 : Ev (fun _ : Nat => spec_l1PickInt.f b i3 h3 [x, 1000, 1001, (-1), y]) (v, i4, h4) := Ev.const e4
 exact ⟨g, v, hg, Ev.bnd e0 (Ev.bnd e1 (Ev.bnd f2 (Ev.bnd f3 (Ev.bnd f4 (Ev.now _)))))⟩
/-! dectext: the decimal text and the joined text, as the reference makes them -/
theorem dd_small (u : Nat) (h : u < 10) : Lib.decDigits u = [UInt8.ofNat (48 + u)] := by rw [Lib.decDigits, dif_pos h]
theorem dd_big (u : Nat) (h : ¬ u < 10) : Lib.decDigits u = Lib.decDigits (u / 10) ++ [UInt8.ofNat (48 + u % 10)] := by rw [Lib.decDigits, dif_neg h]
theorem dd_len : ∀ (n u : Nat), u ≤ n → (Lib.decDigits u).length ≤ u + 1 := by
 intro n
 induction n with
 | zero =>
  intro u hu
  rw [dd_small u (by omega)]
  simp
 | succ n ih =>
  intro u hu
  by_cases h : u < 10
  ·rw [dd_small u h]
   simp
  ·rw [dd_big u h, List.length_append, List.length_singleton]
   have := ih (u / 10) (by omega)
   omega
theorem ba_app (a b : List UInt8) : (⟨a.toArray⟩ : ByteArray) ++ ⟨b.toArray⟩ = ⟨(a ++ b).toArray⟩ := by
 apply ByteArray.ext
 simp
theorem ba_size (a : List UInt8) : (⟨a.toArray⟩ : ByteArray).size = a.length := by simp [ByteArray.size]
theorem fmt_l0 : ∀ (n u : Nat) (acc : List UInt8), u ≤ n → acc.length + u ≤ 4611686018427387904 → Ev (fun k => spec_FormatInt.l0 k (u : Int) false ⟨acc.toArray⟩) ⟨((if u = 0 then [] else Lib.decDigits u) ++ acc).toArray⟩ := by
 intro n
 induction n with
 | zero =>
  intro u acc hu hb
  obtain rfl : u = 0 := by omega
  refine Ev.one (fun k => by rw [spec_FormatInt.l0]) ?_
  exact Ev.pos rfl (Ev.neg (by decide) (Ev.now _))
 | succ n ih =>
  intro u acc hu hb
  by_cases h0 : u = 0
  ·subst h0
   refine Ev.one (fun k => by rw [spec_FormatInt.l0]) ?_
   exact Ev.pos rfl (Ev.neg (by decide) (Ev.now _))
  ·have ht : Int.tmod (u : Int) 10 = ((u % 10 : Nat) : Int) := by rw [Int.tmod_eq_emod_of_nonneg (by omega)]; omega
   have hd : wrap64 (Int.tdiv (u : Int) 10) = ((u / 10 : Nat) : Int) := by rw [Int.tdiv_eq_ediv_of_nonneg (by omega), w64_of (by omega) (by omega)]; omega
   have hw : (wrap64 (48 + ((u % 10 : Nat) : Int))) % 256 = ((48 + u % 10 : Nat) : Int) := by rw [w64_of (by omega) (by omega)]; omega
   have hs : strOfNums [((48 + u % 10 : Nat) : Int)] = ⟨([UInt8.ofNat (48 + u % 10)] : List UInt8).toArray⟩ := by
    unfold strOfNums
    rw [List.map_cons, List.map_nil, Int.toNat_natCast]
   have e := ih (u / 10) (UInt8.ofNat (48 + u % 10) :: acc) (by omega) (by rw [List.length_cons]; omega)
   have e2 : (if u = 0 then [] else Lib.decDigits u) ++ acc = (if u / 10 = 0 then [] else Lib.decDigits (u / 10)) ++ (UInt8.ofNat (48 + u % 10) :: acc) := by
    rw [if_neg h0]
    by_cases h1 : u < 10
    ·rw [dd_small u h1, if_pos (by omega), Nat.mod_eq_of_lt h1]
     rfl
    ·rw [dd_big u h1, if_neg (by omega), List.append_assoc]
     rfl
   rw [e2]
   refine Ev.one (fun k => by rw [spec_FormatInt.l0]) ?_
   rw [ht, hd, hw]
   refine Ev.neg (by omega) (Ev.neg (by omega) (Ev.some ?_))
   rw [hs, ba_app]
   refine Ev.pos ?_ e
   rw [ba_size, ba_size, List.length_singleton]
   omega
theorem fmt_ev (u : Nat) (hu : u ≤ 1000000000) : Ev (fun k => spec_FormatInt.f k (u : Int)) ⟨(Lib.itoa (u : Int)).toArray⟩ := by
 unfold spec_FormatInt.f Lib.itoa
 rw [if_neg (by omega), Int.toNat_natCast]
 by_cases h0 : u = 0
 ·subst h0
  rw [dd_small 0 (by omega)]
  exact Ev.pos rfl (Ev.now _)
 ·have e := fmt_l0 u u [] (Nat.le_refl _) (by simp; omega)
  rw [if_neg h0, List.append_nil] at e
  rw [decide_eq_false (show ¬ ((u : Int) < 0) by omega)]
  exact Ev.neg (by omega) e
theorem fmt_impl (u : Nat) (hu : u ≤ 1000000000) : Ev (fun _ => impl_FormatInt.f (u : Int)) ⟨(Lib.itoa (u : Int)).toArray⟩ := by
 unfold impl_FormatInt.f
 exact Ev.pos (by omega) (Ev.pos (by omega) (Ev.now _))
theorem itoa_len (u : Nat) : (Lib.itoa (u : Int)).length ≤ u + 1 := by
 unfold Lib.itoa
 rw [if_neg (by omega), Int.toNat_natCast]
 exact dd_len u u (Nat.le_refl _)
def bts (l : List UInt8) : List Int := l.map fun b => (b.toNat : Int)
theorem bts_app (a b : List UInt8) : bts (a ++ b) = bts a ++ bts b := List.map_append
theorem bts_len (a : List UInt8) : (bts a).length = a.length := List.length_map ..
theorem bts_of (s : ByteArray) : bytesOf s = bts s.data.toList := rfl
theorem str_bts (a : List UInt8) : strOfNums (bts a) = ⟨a.toArray⟩ := by
 unfold strOfNums bts
 rw [List.map_map]
 congr 2
 have : ((fun n : Int => UInt8.ofNat n.toNat) ∘ fun b : UInt8 => (b.toNat : Int)) = id := by
  funext b
  simp
 rw [this, List.map_id]
theorem rdB_at (xs : List ByteArray) (i : Nat) (h : i < xs.length) : rdOf ByteArray.empty xs (i : Int) = xs[i] := by
 unfold rdOf
 rw [Int.toNat_natCast, List.getD_eq_getElem?_getD, List.getElem?_eq_getElem h, Option.getD_some]
theorem join_l0 (x : ByteArray) (r : List ByteArray) (sep : ByteArray) (hb : (x.data.toList ++ Lib.joinTail sep.data.toList (r.map (·.data.toList))).length < 140737488355328) (hr : r.length < 4611686018427387904) : ∀ (d j : Nat), j + d = r.length →
  Ev (fun k => spec_Join.l0 k (x :: r) sep (bts (x.data.toList ++ Lib.joinTail sep.data.toList ((r.map (·.data.toList)).take j))) ((j + 1 : Nat) : Int)) ⟨(x.data.toList ++ Lib.joinTail sep.data.toList (r.map (·.data.toList))).toArray⟩ := by
 intro d
 induction d with
 | zero =>
  intro j hj
  refine Ev.one (fun k => by rw [spec_Join.l0]) ?_
  rw [List.take_of_length_le (by rw [List.length_map]; omega), str_bts]
  exact Ev.neg (by rw [List.length_cons]; omega) (Ev.now _)
 | succ d ih =>
  intro j hj
  have hjl : j < r.length := by omega
  have hmj : (r.map (·.data.toList))[j]? = some r[j].data.toList := by rw [List.getElem?_map, List.getElem?_eq_getElem hjl]; rfl
  have e := ih (j + 1) (by omega)
  have ht := Lib.joinTail_take_succ sep.data.toList (r.map (·.data.toList)) j _ hmj
  have hle : (x.data.toList ++ Lib.joinTail sep.data.toList ((r.map (·.data.toList)).take (j + 1))).length ≤ (x.data.toList ++ Lib.joinTail sep.data.toList (r.map (·.data.toList))).length := by
   have h2 : Lib.joinTail sep.data.toList (r.map (·.data.toList)) = Lib.joinTail sep.data.toList ((r.map (·.data.toList)).take (j + 1)) ++ Lib.joinTail sep.data.toList ((r.map (·.data.toList)).drop (j + 1)) := by
    unfold Lib.joinTail
    rw [← List.flatten_append, ← List.map_append, List.take_append_drop]
   rw [h2, List.length_append, List.length_append, List.length_append]
   omega
  rw [ht] at e hle
  have hg : rdOf ByteArray.empty (x :: r) ((j + 1 : Nat) : Int) = r[j] := by rw [rdB_at (x :: r) (j + 1) (by rw [List.length_cons]; omega)]; rfl
  have hs1 : sep.data.toList.length = sep.size := data_length sep
  have hs2 : r[j].data.toList.length = r[j].size := data_length r[j]
  simp only [List.length_append] at hle hb
  refine Ev.one (fun k => by rw [spec_Join.l0]) ?_
  rw [hg, w64_succ (j + 1) (by omega), bts_of, bts_of]
  refine Ev.pos (by rw [List.length_cons]; omega) (Ev.pos (by omega) (Ev.pos (by rw [bts_len, List.length_append]; omega) (Ev.some (Ev.pos (by omega) (Ev.pos (by rw [← bts_app, bts_len]; simp only [List.length_append]; omega) ?_)))))
  rw [← bts_app, ← bts_app, List.append_assoc, List.append_assoc]
  rw [List.append_assoc] at e
  exact e
theorem join_ev (xs : List ByteArray) (sep : ByteArray) (hb : (Lib.join (xs.map (·.data.toList)) sep.data.toList).length < 140737488355328) (hr : xs.length < 4611686018427387904) : Ev (fun k => spec_Join.f k xs sep) ⟨(Lib.join (xs.map (·.data.toList)) sep.data.toList).toArray⟩ := by
 unfold spec_Join.f
 cases xs with
 | nil =>
  refine Ev.one (fun k => by rw [spec_Join.l0]) ?_
  exact Ev.neg (by simp) (Ev.now _)
 | cons x r =>
  rw [List.map_cons, Lib.join_cons] at hb ⊢
  rw [List.length_cons] at hr
  have e := join_l0 x r sep hb (by omega) r.length 0 (by omega)
  rw [List.take_zero, show Lib.joinTail sep.data.toList [] = [] from rfl, List.append_nil] at e
  have hx : x.data.toList.length = x.size := data_length x
  rw [List.length_append] at hb
  refine Ev.one (fun k => by rw [spec_Join.l0]) ?_
  rw [show rdOf ByteArray.empty (x :: r) 0 = x from rfl, bts_of]
  refine Ev.pos (by rw [List.length_cons]; omega) (Ev.neg (by omega) (Ev.pos (by omega) (Ev.pos (by simp only [List.length_nil]; omega) ?_)))
  rw [List.nil_append, show wrap64 (0 + 1) = ((0 + 1 : Nat) : Int) from w64_succ 0 (by omega)]
  exact e
/-! ftext: FactorText of both sides -/
theorem jt_len (sep : List UInt8) (c : Nat) : ∀ xs : List (List UInt8), (∀ x ∈ xs, x.length ≤ c) → (Lib.joinTail sep xs).length ≤ xs.length * (c + sep.length) := by
 intro xs
 induction xs with
 | nil => intro _; simp [Lib.joinTail]
 | cons x r ih =>
  intro h
  have h1 := h x List.mem_cons_self
  have h2 := ih (fun y hy => h y (List.mem_cons_of_mem _ hy))
  have e : Lib.joinTail sep (x :: r) = sep ++ x ++ Lib.joinTail sep r := by simp [Lib.joinTail]
  rw [e, List.length_append, List.length_append, List.length_cons, Nat.add_mul]
  omega
theorem join_len (sep : List UInt8) (c : Nat) (xs : List (List UInt8)) (h : ∀ x ∈ xs, x.length ≤ c) : (Lib.join xs sep).length ≤ xs.length * (c + sep.length) := by
 cases xs with
 | nil => simp [Lib.join_nil]
 | cons x r =>
  have h1 := h x List.mem_cons_self
  have h2 := jt_len sep c r (fun y hy => h y (List.mem_cons_of_mem _ hy))
  rw [Lib.join_cons, List.length_append, List.length_cons, Nat.add_mul]
  omega
theorem ftext_loop (g l : List Int) (hg : ∀ x ∈ g, 0 ≤ x ∧ x ≤ 1000000) (hgl : g.length ≤ 1000) (hll : l.length = g.length) (hin : ∀ x ∈ l, 0 ≤ x ∧ x ≤ 1000000) : ∀ (d i : Nat) (acc : List ByteArray), i + d = l.length → acc.length ≤ i → (∀ s ∈ acc, s.size ≤ 3000000) →
  ∃ r, Ev (fun k => spec_FactorText.l0 k l acc (i : Int) g) r ∧ Ev (fun k => impl_FactorText.l0 k acc l (l.length : Int) (i : Int) g) r := by
 intro d
 induction d with
 | zero =>
  intro i acc hi ha hs
  by_cases h0 : acc.length = 0
  ·refine ⟨⟨#[48]⟩, Ev.one (fun k => by rw [spec_FactorText.l0]) ?_, Ev.one (fun k => by rw [impl_FactorText.l0]) ?_⟩
   ·exact Ev.neg (by omega) (Ev.pos (by omega) (Ev.now _))
   ·exact Ev.neg (by omega) (Ev.pos (by omega) (Ev.now _))
  ·have hj := join_len (⟨#[43]⟩ : ByteArray).data.toList 3000000 (acc.map (·.data.toList)) (fun x hx => by
    obtain ⟨y, hy, rfl⟩ := List.mem_map.1 hx
    have := hs y hy
    rw [← data_length y] at this
    exact this)
   have hone : (⟨#[43]⟩ : ByteArray).data.toList.length = 1 := rfl
   rw [List.length_map, hone] at hj
   have hk : acc.length * (3000000 + 1) ≤ 1000 * (3000000 + 1) := Nat.mul_le_mul_right _ (by omega)
   have hjl : (Lib.join (acc.map (·.data.toList)) (⟨#[43]⟩ : ByteArray).data.toList).length ≤ 4000000000 := by omega
   have e := join_ev acc ⟨#[43]⟩ (by omega) (by omega)
   have e2 : Ev (fun _ : Nat => impl_Join.f acc ⟨#[43]⟩) ⟨(Lib.join (acc.map (·.data.toList)) (⟨#[43]⟩ : ByteArray).data.toList).toArray⟩ := by
    unfold impl_Join.f
    exact Ev.pos (by omega) (Ev.pos (by omega) (Ev.now _))
   refine ⟨⟨(Lib.join (acc.map (·.data.toList)) (⟨#[43]⟩ : ByteArray).data.toList).toArray⟩, Ev.one (fun k => by rw [spec_FactorText.l0]) ?_, Ev.one (fun k => by rw [impl_FactorText.l0]) ?_⟩
   ·exact Ev.neg (by omega) (Ev.neg (by omega) (Ev.bnd e (Ev.now _)))
   ·exact Ev.neg (by omega) (Ev.neg (by omega) (Ev.bnd e2 (Ev.now _)))
 | succ d ih =>
  intro i acc hi ha hs
  have hil : i < l.length := by omega
  have hx := hin l[i] (List.getElem_mem hil)
  have hy := hg g[i] (List.getElem_mem (by omega))
  have e1 := rd_at l i hil
  have e2 := rd_at g i (by omega)
  by_cases h0 : l[i] = 0
  ·obtain ⟨r, r1, r2⟩ := ih (i + 1) acc (by omega) (by omega) hs
   refine ⟨r, Ev.one (fun k => by rw [spec_FactorText.l0]) ?_, Ev.one (fun k => by rw [impl_FactorText.l0]) ?_⟩
   ·rw [e1, w64_succ i (by omega)]
    exact Ev.pos (by omega) (Ev.pos (by omega) (Ev.neg (by omega) r1))
   ·rw [e1, w64_succ i (by omega)]
    exact Ev.pos (by omega) (Ev.pos (by omega) (Ev.pos (by omega) (Ev.pos h0 r2)))
  ·obtain ⟨a, ea⟩ : ∃ a : Nat, l[i] = (a : Int) := ⟨l[i].toNat, by omega⟩
   obtain ⟨b, eb⟩ : ∃ b : Nat, g[i] = (b : Int) := ⟨g[i].toNat, by omega⟩
   have la := itoa_len a
   have lb := itoa_len b
   have m1 : (⟨(Lib.itoa (a : Int)).toArray⟩ : ByteArray) ++ ⟨#[42]⟩ = ⟨(Lib.itoa (a : Int) ++ [42]).toArray⟩ := ba_app _ [42]
   have m2 : (⟨(Lib.itoa (a : Int) ++ [42]).toArray⟩ : ByteArray) ++ ⟨(Lib.itoa (b : Int)).toArray⟩ = ⟨(Lib.itoa (a : Int) ++ [42] ++ Lib.itoa (b : Int)).toArray⟩ := ba_app _ _
   have ml : (Lib.itoa (a : Int) ++ [42] ++ Lib.itoa (b : Int)).length ≤ 3000000 := by
    rw [List.length_append, List.length_append, List.length_singleton]
    omega
   obtain ⟨r, r1, r2⟩ := ih (i + 1) (acc ++ [⟨(Lib.itoa (a : Int) ++ [42] ++ Lib.itoa (b : Int)).toArray⟩]) (by omega) (by rw [List.length_append, List.length_singleton]; omega) (fun s h => by
    rcases List.mem_append.1 h with h | h
    ·exact hs s h
    ·rw [List.mem_singleton.1 h, ba_size]
     exact ml)
   have f1 := fmt_ev a (by omega)
   have f2 := fmt_ev b (by omega)
   have g1 := fmt_impl a (by omega)
   have g2 := fmt_impl b (by omega)
   refine ⟨r, Ev.one (fun k => by rw [spec_FactorText.l0]) ?_, Ev.one (fun k => by rw [impl_FactorText.l0]) ?_⟩
   ·rw [e1, e2, ea, eb, w64_succ i (by omega)]
    refine Ev.pos (by omega) (Ev.pos (by omega) (Ev.pos (by omega) (Ev.bnd f1 (Ev.pos (by rw [ba_size]; omega) (Ev.pos (by omega) (Ev.bnd f2 ?_))))))
    rw [m1, m2]
    exact Ev.pos (by rw [ba_size, ba_size, List.length_append, List.length_singleton]; omega) (Ev.pos (by omega) r1)
   ·rw [e1, e2, ea, eb, w64_succ i (by omega)]
    refine Ev.pos (by omega) (Ev.pos (by omega) (Ev.pos (by omega) (Ev.neg (by omega) (Ev.bnd g1 (Ev.pos (by rw [ba_size]; omega) (Ev.pos (by omega) (Ev.bnd g2 ?_)))))))
    rw [m1, m2]
    exact Ev.pos (by rw [ba_size, ba_size, List.length_append, List.length_singleton]; omega) (Ev.pos (by omega) r2)
theorem ftext_both (g l : List Int) (hlen : g.length ≤ 1048576) (hl : l.length ≤ 1048576) : ∃ r, Ev (fun k => spec_FactorText.f k g l) r ∧ Ev (fun k => impl_FactorText.f k g l) r := by
 obtain ⟨b, b1, v1, v2⟩ := value_both g l hlen hl
 unfold spec_FactorText.f impl_FactorText.f
 by_cases hv : valS b g l < 0
 ·exact ⟨⟨#[]⟩, Ev.bnd v1 (Ev.pos hv (Ev.now _)), Ev.bnd v2 (Ev.pos hv (Ev.now _))⟩
 ·have hc : b = true ∧ l.length = g.length ∧ allIn l 0 1000000 = true := by
   unfold valS at hv
   split at hv
   ·assumption
   ·omega
  have hS := b1.1 hc.1
  obtain ⟨r, r1, r2⟩ := ftext_loop g l (fun x hx => by have := hS.rng x hx; omega) (by have := hS.len2; omega) hc.2.1 ((allIn_iff l 0 1000000).1 hc.2.2) l.length 0 [] (by omega) (by simp) (fun s h => by cases h)
  exact ⟨r, Ev.bnd v1 (Ev.neg hv r1), Ev.bnd v2 (Ev.neg hv r2)⟩
end Go.Proofs.YtbbehmbpoilffaaDoor.Pure
