/- Plain lemmas (speclen, apart, specdist, graph, bfs, catdeg, catboth, rowfind, chain, mCatenaryDegree, mDistanceOf, sgirr, dotsums, dotge, gapdist, implvalue): no program, no memory. -/
import Derived.Test.YtbbehmbpoilffaaC0
import Derived.Test.YtbbehmbpoilffaaC1
import Derived.Test.YtbbehmbpoilffaaC10
import Derived.Test.YtbbehmbpoilffaaC11
import Derived.Test.YtbbehmbpoilffaaC12
import Derived.Test.YtbbehmbpoilffaaC13
import Derived.Test.YtbbehmbpoilffaaC14
import Derived.Test.YtbbehmbpoilffaaC15
import Derived.Test.YtbbehmbpoilffaaC2
import Derived.Test.YtbbehmbpoilffaaC7
import Derived.Test.YtbbehmbpoilffaaC8
import Derived.Test.YtbbehmbpoilffaaC9
import Derived.Test.YtbbehmbpoilffaaBbase
namespace Go.Proofs.Ytbbehmbpoilffaa.Pure
open Go.RowKit Go.Proofs.Ytbbehmbpoilffaa.C Go.Proofs.YtbbehmbpoilffaaW.PrintWords Go.Proofs.YtbbehmbpoilffaaW.PrintLast Go.Proofs.YtbbehmbpoilffaaW.PrintMore
set_option linter.unusedVariables false
set_option linter.unusedSimpArgs false
theorem sum_take (l : List Int) (i : Nat) (hi : i < l.length) : (l.take (i + 1)).sum = (l.take i).sum + l[i] := by rw [List.take_succ_eq_append_getElem hi, List.sum_append, List.sum_cons, List.sum_nil, Int.add_zero]
theorem sum_bound (l : List Int) (h : ∀ x ∈ l, 0 ≤ x ∧ x ≤ 1000000) (i : Nat) : 0 ≤ (l.take i).sum ∧ (l.take i).sum ≤ (i : Int) * 1000000 := by
 induction i with
 | zero => simp
 | succ i ih =>
  by_cases hi : i < l.length
  ·have := h l[i] (List.getElem_mem hi); rw [sum_take l i hi]; omega
  ·rw [List.take_of_length_le (by omega)] at ih ⊢; omega
theorem spec_sum_l0 (l : List Int) (hl : l.length ≤ 1048576) (h : ∀ x ∈ l, 0 ≤ x ∧ x ≤ 1000000) : ∀ d i, i + d = l.length → Ev (fun k => bD.l0 k l (l.take i).sum (i : Int)) l.sum := by
 intro d
 induction d with
 | zero => intro i hi; rw [List.take_of_length_le (by omega)]; refine Ev.one (fun k => by rw [bD.l0]) ?_; exact Ev.neg (by omega) (Ev.now _)
 | succ d ih => intro i hi; have ih := ih (i + 1) (by omega); have hil : i < l.length := (by omega); have hb := sum_bound l h i; have hx := h l[i] (List.getElem_mem hil); rw [sum_take l i hil] at ih; refine Ev.one (fun k => by rw [bD.l0]) ?_; rw [rd_at l i hil, w64_succ i (by omega), w64_of (by omega) (by omega)]; exact Ev.pos (by omega) (Ev.pos (by omega) ih)
theorem spec_sum_ev (l : List Int) (hl : l.length ≤ 1048576) (h : ∀ x ∈ l, 0 ≤ x ∧ x ≤ 1000000) : Ev (fun k => bD.f k l) l.sum := spec_sum_l0 l hl h l.length 0 (by omega)
theorem sum_dot : ∀ (l g : List Int), l.length = g.length → (∀ x ∈ l, 0 ≤ x) → (∀ x ∈ g, 1 ≤ x ∧ x ≤ 60) → 0 ≤ l.sum ∧ l.sum ≤ dot l g ∧ dot l g ≤ 60 * l.sum
 | [], g, _, _, _ => by rw [dot_nil]; simp
 | x :: l, [], h, _, _ => by simp at h
 | x :: l, y :: g, h, hl, hg => by
  have h1 := sum_dot l g (by simpa using h) (fun z hz => hl z (List.mem_cons_of_mem _ hz)) (fun z hz => hg z (List.mem_cons_of_mem _ hz))
  have hx := hl x (List.mem_cons_self ..)
  have hy := hg y (List.mem_cons_self ..)
  have h2 : x * 1 ≤ x * y := Int.mul_le_mul_of_nonneg_left hy.1 hx
  have h3 : x * y ≤ x * 60 := Int.mul_le_mul_of_nonneg_left hy.2 hx
  rw [dot_cons, List.sum_cons]
  omega
theorem elem_sum : ∀ (l : List Int), (∀ x ∈ l, 0 ≤ x) → ∀ x ∈ l, x ≤ l.sum
 | [], _, x, hx => by cases hx
 | y :: l, h, x, hx => by
  have hy := h y (List.mem_cons_self ..)
  have h0 : ∀ l : List Int, (∀ x ∈ l, 0 ≤ x) → 0 ≤ l.sum := fun l h => by
   induction l with
   | nil => simp
   | cons z l ih =>
    rw [List.sum_cons]
    have := h z (List.mem_cons_self ..)
    have := ih (fun w hw => h w (List.mem_cons_of_mem _ hw))
    omega
  have h1 := h0 l (fun z hz => h z (List.mem_cons_of_mem _ hz))
  rw [List.sum_cons]
  rcases List.mem_cons.1 hx with rfl | hx
  ·omega
  ·have := elem_sum l (fun z hz => h z (List.mem_cons_of_mem _ hz)) x hx
   omega
theorem facS_rows (b : Bool) (g : List Int) (hS : b = true → SG g) (n : Int) : (facS b g n).length ≤ 100000000000 ∧ ∀ l ∈ facS b g n, l.length ≤ 12 ∧ (∀ x ∈ l, 0 ≤ x ∧ x ≤ 1000000) ∧ 0 ≤ l.sum ∧ l.sum ≤ 100 ∧ (n ≠ 0 → 1 ≤ l.sum) := by
 unfold facS; by_cases h : b = true ∧ (0 ≤ n ∧ n ≤ 100)
 ·rw [if_pos h]; have hS := hS h.1; obtain ⟨m, rfl⟩ : ∃ m : Nat, n = (m : Int) := ⟨n.toNat, by omega⟩; refine ⟨facL_room g hS g (fun _ h => h) (Nat.le_refl _) m (by omega), fun l hl => ?_⟩; have h1 := (facL_mem g m l (fun x hx => (hS.rng x hx).1)).1 hl; have h2 := sum_dot l g h1.1 h1.2.1 hS.rng; rw [h1.2.2] at h2; exact ⟨by have := hS.len2; omega, fun x hx => ⟨h1.2.1 x hx, by have := elem_sum l h1.2.1 x hx; omega⟩, h2.1, by omega, fun _ => by omega⟩
 ·rw [if_neg h]; exact ⟨by simp, fun l hl => by cases hl⟩
theorem asc_len (l : List Int) (h : asc l) (a b : Int) (hl : ∀ x ∈ l, a ≤ x ∧ x ≤ b) (hab : a ≤ b + 1) : (l.length : Int) ≤ b - a + 1 := by
 have key : ∀ i (hi : i < l.length), a + (i : Int) ≤ l[i] := by
  intro i
  induction i with
  | zero => intro hi; have := hl _ (List.getElem_mem hi); omega
  | succ i ih => intro hi; have h1 := ih (by omega); have h2 := List.pairwise_iff_getElem.1 h i (i + 1) (by omega) hi (by omega); omega
 by_cases h0 : l.length = 0
 ·omega
 ·have h1 := key (l.length - 1) (by omega); have h2 := hl _ (List.getElem_mem (show l.length - 1 < l.length by omega)); omega
theorem spec_len_l0 (all : List (List Int)) (hN : all.length ≤ 100000000000) (hr : ∀ l ∈ all, l.length ≤ 12 ∧ ∀ x ∈ l, 0 ≤ x ∧ x ≤ 1000000) : ∀ d i, i + d = all.length → ∀ out : List Int, out.length ≤ i →
  (∀ y, y ∈ out ↔ y ∈ (all.take i).map List.sum) → ∃ r, (asc r ∧ ∀ y, y ∈ r ↔ y ∈ all.map List.sum) ∧ Ev (fun k => aT.l0 k out all (i : Int)) r := by
 intro d
 induction d with
 | zero => intro i hi out ho hm; rw [List.take_of_length_le (by omega)] at hm; obtain ⟨r, r1, r2⟩ := spec_SortList_big out (by omega); refine ⟨r, ⟨r1.1, fun y => (r1.2.1 y).trans (hm y)⟩, Ev.one (fun k => by rw [aT.l0]) ?_⟩; exact Ev.neg (by omega) (Ev.bnd r2 (Ev.now _))
 | succ d ih =>
  intro i hi out ho hm; have hil : i < all.length := (by omega); have hl := hr all[i] (List.getElem_mem hil); have htk : (all.take (i + 1)).map List.sum = (all.take i).map List.sum ++ [all[i].sum] := (by rw [List.take_succ_eq_append_getElem hil, List.map_append]; rfl); obtain ⟨b, b1, b2⟩ := spec_HasNumber_ev out all[i].sum (by omega)
  cases b with
  | true =>
   obtain ⟨r, r1, r2⟩ := ih (i + 1) (by omega) out (by omega) (fun y => by
    rw [htk, List.mem_append, List.mem_singleton, hm]
    exact ⟨.inl, fun h => h.elim id (fun h => h ▸ (hm _).1 (b1.1 rfl))⟩)
   refine ⟨r, r1, Ev.one (fun k => by rw [aT.l0]) ?_⟩; rw [rd_L2_at all i hil, w64_succ i (by omega)]; exact Ev.pos (by omega) (Ev.pos (by omega) (Ev.bnd (spec_sum_ev all[i] (by omega) hl.2) (Ev.bnd b2 (Ev.pos rfl r2))))
  | false =>
   obtain ⟨r, r1, r2⟩ := ih (i + 1) (by omega) (out ++ [all[i].sum]) (by rw [List.length_append, List.length_singleton]; omega) (fun y => by
    rw [htk, List.mem_append, List.mem_append, List.mem_singleton, hm])
   refine ⟨r, r1, Ev.one (fun k => by rw [aT.l0]) ?_⟩; rw [rd_L2_at all i hil, w64_succ i (by omega)]; exact Ev.pos (by omega) (Ev.pos (by omega) (Ev.bnd (spec_sum_ev all[i] (by omega) hl.2) (Ev.bnd b2 (Ev.neg (by decide) (Ev.pos (by omega) r2)))))
def diffs (l : List Int) (i : Nat) : List Int := (List.range i).map fun j => l.getD (j + 1) 0 - l.getD j 0
theorem diffs_succ (l : List Int) (i : Nat) : diffs l (i + 1) = diffs l i ++ [l.getD (i + 1) 0 - l.getD i 0] := by unfold diffs; rw [List.range_succ, List.map_append]; rfl
theorem diffs_len (l : List Int) (i : Nat) : (diffs l i).length = i := by unfold diffs; rw [List.length_map, List.length_range]
theorem getD_in (l : List Int) (i : Nat) (h : i < l.length) : l.getD i 0 = l[i] := by rw [List.getD_eq_getElem?_getD, List.getElem?_eq_getElem h, Option.getD_some]
theorem rd_getD (l : List Int) (i : Nat) : rd l (i : Int) = l.getD i 0 := by unfold rd; rw [Int.toNat_natCast]
theorem w64_pre (i : Nat) (h : i < 4611686018427387904) (h1 : 1 ≤ i) : wrap64 ((i : Int) - 1) = ((i - 1 : Nat) : Int) := by rw [w64_of (by omega) (by omega)]; omega
theorem spec_delta_l0 (l : List Int) (hl : l.length ≤ 1048576) (hv : ∀ x ∈ l, 0 ≤ x ∧ x ≤ 100) {r : List Int} (hr : Ev (fun k => af.f k (diffs l (l.length - 1))) r) : ∀ d i, 1 ≤ i → i + d = l.length → Ev (fun k => aC.l0 k (diffs l (i - 1)) l (i : Int)) r := by
 intro d
 induction d with
 | zero => intro i h1 hi; obtain rfl : i = l.length := (by omega); refine Ev.one (fun k => by rw [aC.l0]) ?_; exact Ev.neg (by omega) (Ev.bnd hr (Ev.now _))
 | succ d ih => intro i h1 hi; have ih := ih (i + 1) (by omega) (by omega); have hdl := diffs_len l (i - 1); have e : diffs l (i + 1 - 1) = diffs l (i - 1) ++ [l.getD i 0 - l.getD (i - 1) 0] := (by obtain ⟨m, rfl⟩ : ∃ m, i = m + 1 := ⟨i - 1, by omega⟩; exact diffs_succ l m); rw [e] at ih; have h2 := hv _ (List.getElem_mem (show i < l.length by omega)); have h3 := hv _ (List.getElem_mem (show i - 1 < l.length by omega)); refine Ev.one (fun k => by rw [aC.l0]) ?_; rw [w64_pre i (by omega) h1, rd_getD, rd_getD, w64_succ i (by omega), w64_of (x := l.getD i 0 - l.getD (i - 1) 0) (by rw [getD_in l i (by omega), getD_in l (i - 1) (by omega)]; omega) (by rw [getD_in l i (by omega), getD_in l (i - 1) (by omega)]; omega)]; exact Ev.pos (by omega) (Ev.pos (by omega) (Ev.pos (by omega) (Ev.pos (by omega) (Ev.pos (by omega) ih))))
theorem speclen_more (g : List Int) (hlen : g.length ≤ 1048576) (n : Int) (b : Bool) (b1 : b = true ↔ SG g) (b2 : Ev (fun k => aE.f k g n) (facS b g n)) : ∃ r, (asc r ∧ (∀ y ∈ r, 0 ≤ y ∧ y ≤ 100) ∧ r.length ≤ 101 ∧ ∀ y, y ∈ r ↔ y ∈ (facS b g n).map List.sum) ∧ Ev (fun k => aT.f k g n) r := by have hf := facS_rows b g b1.1 n; have hr : ∀ l ∈ facS b g n, l.length ≤ 12 ∧ ∀ x ∈ l, 0 ≤ x ∧ x ≤ 1000000 := fun l hl => ⟨(hf.2 l hl).1, (hf.2 l hl).2.1⟩; obtain ⟨r, r1, r2⟩ := spec_len_l0 (facS b g n) hf.1 hr (facS b g n).length 0 (by omega) [] (by simp) (by simp); have hy : ∀ y ∈ r, 0 ≤ y ∧ y ≤ 100 := fun y hy => (by obtain ⟨l, hl, rfl⟩ := List.mem_map.1 ((r1.2 y).1 hy); exact ⟨(hf.2 l hl).2.2.1, (hf.2 l hl).2.2.2.1⟩); refine ⟨r, ⟨r1.1, hy, by have := asc_len r r1.1 0 100 hy (by omega); omega, r1.2⟩, ?_⟩; unfold aT.f; exact Ev.bnd b2 r2
theorem specdelta_more (g : List Int) (n : Int) (l : List Int) (hl : l.length ≤ 101) (hv : ∀ x ∈ l, 0 ≤ x ∧ x ≤ 100) (h2 : Ev (fun k => aT.f k g n) l) : ∃ r, (r.length ≤ 101 ∧ ∀ y, y ∈ r ↔ y ∈ diffs l (l.length - 1)) ∧ Ev (fun k => aC.f k g n) r := by
 have hdl := diffs_len l (l.length - 1); obtain ⟨s, s1, s2⟩ := spec_SortList_big (diffs l (l.length - 1)) (by omega); refine ⟨s, ⟨by omega, s1.2.1⟩, ?_⟩; unfold aC.f; refine Ev.bnd h2 ?_; by_cases h : l.length = 0
 ·rw [h] at s2; refine Ev.one (fun k => by rw [aC.l0]) ?_; exact Ev.neg (by omega) (Ev.bnd s2 (Ev.now _))
 ·exact spec_delta_l0 l (by omega) hv s2 (l.length - 1) 1 (by omega) (by omega)
def exc : List Int → List Int → Int
 | x :: a, y :: b => (x - min x y) + exc a b
 | _, _ => 0
theorem exc_cons (x : Int) (a : List Int) (y : Int) (b : List Int) : exc (x :: a) (y :: b) = (x - min x y) + exc a b := rfl
theorem exc_nil (b : List Int) : exc [] b = 0 := by cases b <;> rfl
theorem exc_bounds : ∀ (a b : List Int), (∀ x ∈ a, 0 ≤ x ∧ x ≤ 1000000) → (∀ x ∈ b, 0 ≤ x ∧ x ≤ 1000000) → 0 ≤ exc a b ∧ exc a b ≤ 1000000 * (a.length : Int) := by
 intro a
 induction a with
 | nil => intro b _ _; rw [exc_nil]; simp
 | cons x a ih =>
  intro b ha hb
  cases b with
  | nil => exact ⟨by show (0 : Int) ≤ 0; omega, by show (0 : Int) ≤ _; omega⟩
  | cons y b => have h1 := ih b (fun z hz => ha z (List.mem_cons_of_mem _ hz)) (fun z hz => hb z (List.mem_cons_of_mem _ hz)); have h2 := ha x (List.mem_cons_self ..); have h3 := hb y (List.mem_cons_self ..); rw [exc_cons, List.length_cons]; omega
def dst (a b : List Int) : Int := max (exc a b) (exc b a)
theorem impl_apart_l0 (a b : List Int) (h : a.length = b.length) (hl : a.length ≤ 1048576) (ha : ∀ x ∈ a, 0 ≤ x ∧ x ≤ 1000000) (hb : ∀ x ∈ b, 0 ≤ x ∧ x ≤ 1000000) :
  ∀ (d i : Nat) (x y : Int), i + d = a.length → 0 ≤ x → x ≤ 1000000 * (i : Int) → 0 ≤ y → y ≤ 1000000 * (i : Int) →
   Ev (fun k => aQ.l0 k a b x y (a.length : Int) (i : Int)) (max (x + exc (a.drop i) (b.drop i)) (y + exc (b.drop i) (a.drop i))) := by
 intro d
 induction d with
 | zero => intro i x y hi h0 h1 h2 h3; rw [List.drop_eq_nil_of_le (show a.length ≤ i by omega), List.drop_eq_nil_of_le (show b.length ≤ i by omega), exc_nil]; refine Ev.one (fun k => by rw [aQ.l0]) (Ev.neg (by omega) ?_); have e : mx x y = max (x + 0) (y + 0) := (by unfold mx; omega); rw [e]; exact Ev.now _
 | succ d ih =>
  intro i x y hi h0 h1 h2 h3; rw [List.drop_eq_getElem_cons (show i < a.length by omega), List.drop_eq_getElem_cons (show i < b.length by omega), exc_cons, exc_cons]; have ga := ha a[i] (List.getElem_mem _); have gb := hb b[i] (List.getElem_mem _); refine Ev.one (fun k => by rw [aQ.l0]) (Ev.pos (by omega) (Ev.pos (by omega) (Ev.pos (by omega) (Ev.pos (by omega) ?_)))); have em : mn a[i] b[i] = min a[i] b[i] := (by unfold mn; omega)
  rw [rd_at a i (by omega), rd_at b i (by omega), em, w64_of (x := a[i] - min a[i] b[i]) (by omega) (by omega), w64_of (x := b[i] - min a[i] b[i]) (by omega) (by omega),
   w64_of (x := x + (a[i] - min a[i] b[i])) (by omega) (by omega), w64_of (x := y + (b[i] - min a[i] b[i])) (by omega) (by omega), w64_succ i (by omega)]
  have g := ih (i + 1) (x + (a[i] - min a[i] b[i])) (y + (b[i] - min a[i] b[i])) (by omega) (by omega) (by omega) (by omega) (by omega); have e : max (x + (a[i] - min a[i] b[i]) + exc (a.drop (i + 1)) (b.drop (i + 1))) (y + (b[i] - min a[i] b[i]) + exc (b.drop (i + 1)) (a.drop (i + 1))) = max (x + (a[i] - min a[i] b[i] + exc (a.drop (i + 1)) (b.drop (i + 1)))) (y + (b[i] - min b[i] a[i] + exc (b.drop (i + 1)) (a.drop (i + 1)))) := (by rw [Int.min_comm b[i] a[i]]; congr 1 <;> (generalize min a[i] b[i] = m; omega)); rw [← e]; exact g
theorem impl_apart_ev (a b : List Int) (h : a.length = b.length) (hl : a.length ≤ 1048576) (ha : ∀ x ∈ a, 0 ≤ x ∧ x ≤ 1000000) (hb : ∀ x ∈ b, 0 ≤ x ∧ x ≤ 1000000) :
  Ev (fun k => aQ.f k a b) (dst a b) := by unfold aQ.f; have g := impl_apart_l0 a b h hl ha hb a.length 0 0 0 (by omega) (by omega) (by omega) (by omega) (by omega); rw [Int.zero_add, Int.zero_add] at g; exact g
theorem spec_l1Min_eq (a b : Int) : bO.f a b = some (min a b) := by
 unfold bO.f; by_cases h : a < b
 ·rw [if_pos h]; congr 1; omega
 ·rw [if_neg h]; congr 1; omega
theorem spec_l1Max_eq (a b : Int) : bF.f a b = some (max a b) := by
 unfold bF.f; by_cases h : a > b
 ·rw [if_pos h]; congr 1; omega
 ·rw [if_neg h]; congr 1; omega
theorem spec_dist_l0 (a b : List Int) (h : a.length = b.length) (hl : a.length ≤ 1048576) :
  ∀ (d i : Nat) (x y : Int), i + d = a.length → 0 ≤ x → x ≤ 1000000 * (i : Int) → 0 ≤ y → y ≤ 1000000 * (i : Int) →
   Ev (fun k => ap.l0 k a b x y (i : Int)) (if allIn (a.drop i) 0 1000000 = true ∧ allIn (b.drop i) 0 1000000 = true then max (x + exc (a.drop i) (b.drop i)) (y + exc (b.drop i) (a.drop i)) else -1) := by
 intro d
 induction d with
 | zero => intro i x y hi h0 h1 h2 h3; rw [List.drop_eq_nil_of_le (show a.length ≤ i by omega), List.drop_eq_nil_of_le (show b.length ≤ i by omega), exc_nil, if_pos ⟨rfl, rfl⟩, Int.add_zero, Int.add_zero]; refine Ev.one (fun k => by rw [ap.l0]) (Ev.neg (by omega) ?_); simp only [spec_l1Max_eq, Option.bind_some]; exact Ev.now _
 | succ d ih =>
  intro i x y hi h0 h1 h2 h3; rw [List.drop_eq_getElem_cons (show i < a.length by omega), List.drop_eq_getElem_cons (show i < b.length by omega), exc_cons, exc_cons]; refine Ev.one (fun k => by rw [ap.l0]) (Ev.pos (by omega) (Ev.pos (by omega) ?_)); simp only [rd_at a i (by omega), rd_at b i (by omega), spec_l1In_eq, spec_l1Min_eq, Option.bind_some]; by_cases ga : 0 ≤ a[i] ∧ a[i] ≤ 1000000
  ·by_cases gb : 0 ≤ b[i] ∧ b[i] ≤ 1000000
   ·refine Ev.pos (decide_eq_true ga) (Ev.pos (by omega) (Ev.pos (decide_eq_true gb) ?_)); rw [w64_of (x := x + a[i]) (by omega) (by omega), w64_of (x := y + b[i]) (by omega) (by omega), w64_of (x := x + a[i] - min a[i] b[i]) (by omega) (by omega), w64_of (x := y + b[i] - min a[i] b[i]) (by omega) (by omega), w64_succ i (by omega)]; have g := ih (i + 1) (x + a[i] - min a[i] b[i]) (y + b[i] - min a[i] b[i]) (by omega) (by omega) (by omega) (by omega) (by omega); have e3 : max (x + a[i] - min a[i] b[i] + exc (a.drop (i + 1)) (b.drop (i + 1))) (y + b[i] - min a[i] b[i] + exc (b.drop (i + 1)) (a.drop (i + 1))) = max (x + (a[i] - min a[i] b[i] + exc (a.drop (i + 1)) (b.drop (i + 1)))) (y + (b[i] - min b[i] a[i] + exc (b.drop (i + 1)) (a.drop (i + 1)))) := (by rw [Int.min_comm b[i] a[i]]; congr 1 <;> (generalize min a[i] b[i] = m; omega)); rw [allIn_cons _ _ _ _ ga, allIn_cons _ _ _ _ gb, ← e3]; exact g
   ·rw [if_neg (by rw [allIn_cons_not _ _ _ _ gb]; simp)]; exact Ev.pos (decide_eq_true ga) (Ev.pos (by omega) (Ev.neg (by rw [decide_eq_false gb]; decide) (Ev.now _)))
  ·rw [if_neg (by rw [allIn_cons_not _ _ _ _ ga]; simp)]; exact Ev.neg (by rw [decide_eq_false ga]; decide) (Ev.now _)
theorem spec_dist_ev (a b : List Int) (hl : a.length ≤ 1048576) :
  Ev (fun k => ap.f k a b) (if a.length = b.length ∧ allIn a 0 1000000 = true ∧ allIn b 0 1000000 = true then dst a b else -1) := by
 unfold ap.f; by_cases h : a.length = b.length
 ·have g := spec_dist_l0 a b h hl a.length 0 0 0 (by omega) (by omega) (by omega) (by omega) (by omega); rw [Int.zero_add, Int.zero_add] at g; refine Ev.pos (by omega) ?_; simp only [h, true_and]; exact g
 ·rw [if_neg (fun g => h g.1)]; exact Ev.neg (by omega) (Ev.now _)
def Conn (D : Nat → Nat → Int) (N : Nat) (d : Int) (s k : Nat) : Prop := ∀ P : Nat → Prop, P s → (∀ i j, i < N → j < N → P i → D i j ≤ d → P j) → P k
theorem Conn.refl (D : Nat → Nat → Int) (N : Nat) (d : Int) (s : Nat) : Conn D N d s s := fun _ h _ => h
theorem Conn.step {D : Nat → Nat → Int} {N : Nat} {d : Int} {s i j : Nat} (h : Conn D N d s i) (hi : i < N) (hj : j < N) (hd : D i j ≤ d) : Conn D N d s j := fun P h0 hP => hP i j hi hj (h P h0 hP) hd
theorem Conn.mono {D : Nat → Nat → Int} {N : Nat} {d e : Int} {s k : Nat} (hde : d ≤ e) (h : Conn D N d s k) : Conn D N e s k := fun P h0 hP => h P h0 (fun i j hi hj hp hd => hP i j hi hj hp (Int.le_trans hd hde))
def LeastD (D : Nat → Nat → Int) (N : Nat) (m : Int) : Prop := (∀ k, k < N → Conn D N m 0 k) ∧ ∀ d, 0 ≤ d → (∀ k, k < N → Conn D N d 0 k) → m ≤ d
theorem LeastD.uniq {D : Nat → Nat → Int} {N : Nat} {m e : Int} (h : LeastD D N m) (k : LeastD D N e) (hm : 0 ≤ m) (he : 0 ≤ e) : m = e := by have h1 := h.2 e he k.1; have h2 := k.2 m hm h.1; omega
def totB (f : Bool → Nat) (xs : List Bool) : Nat := (xs.map f).sum
theorem totB_set (f : Bool → Nat) (v : Bool) : ∀ (xs : List Bool) (i : Nat), i < xs.length → totB f (xs.set i v) + f (xs.getD i false) = totB f xs + f v
 | [], _, h => by simp at h
 | x :: xs, 0, _ => by
  show totB f (v :: xs) + f x = totB f (x :: xs) + f v
  unfold totB
  rw [List.map_cons, List.map_cons, List.sum_cons, List.sum_cons]
  omega
 | x :: xs, i + 1, h => by
  have ih := totB_set f v xs i (by simpa using h)
  show totB f (x :: xs.set i v) + f (xs.getD i false) = totB f (x :: xs) + f v
  unfold totB at ih ⊢
  rw [List.map_cons, List.map_cons, List.sum_cons, List.sum_cons]
  omega
def out1 (b : Bool) : Nat := if b = true then 0 else 1
theorem totB_zero : ∀ (xs : List Bool), totB out1 xs = 0 → ∀ i, i < xs.length → xs.getD i false = true
 | [], _, _, h => by simp at h
 | x :: xs, h, i, hi => by
  unfold totB at h
  rw [List.map_cons, List.sum_cons] at h
  cases i with
  | zero =>
   cases x with
   | true => rfl
   | false => simp [out1] at h
  | succ i => exact totB_zero xs (by unfold totB; omega) i (by simpa using hi)
theorem totB_pos : ∀ (xs : List Bool), 0 < totB out1 xs → ∃ i, i < xs.length ∧ xs.getD i false = false
 | [], h => by simp [totB] at h
 | x :: xs, h => by
  cases x with
  | false => exact ⟨0, by simp, rfl⟩
  | true =>
   have h2 : 0 < totB out1 xs := by
    unfold totB at h ⊢
    rw [List.map_cons, List.sum_cons] at h
    simpa [out1] using h
   obtain ⟨i, h3, h4⟩ := totB_pos xs h2
   exact ⟨i + 1, by simpa using h3, h4⟩
section
variable (D : Nat → Nat → Int) (N : Nat) (all : List (List Int)) (hN : all.length = N) (hNb : N ≤ 100000000000) (hD0 : ∀ i j, i < N → j < N → 0 ≤ D i j) (hD1 : ∀ i j, i < N → j < N → D i j ≤ 1000000000000)
include hN hNb hD0 hD1
structure Prim (far : List Int) (vis : List Bool) (most : Int) : Prop where
 lf : far.length = N
 lv : vis.length = N
 first : vis.getD 0 false = true
 low : ∀ i, i < N → vis.getD i false = false → ∀ v, v < N → vis.getD v false = true → rd far (i : Int) ≤ D v i
 hit : ∀ i, i < N → vis.getD i false = false → ∃ v, v < N ∧ vis.getD v false = true ∧ rd far (i : Int) = D v i
 m0 : 0 ≤ most
 m1 : most ≤ 1000000000000
 conn : ∀ v, v < N → vis.getD v false = true → Conn D N most 0 v
 least : ∀ d, 0 ≤ d → (∀ k, k < N → Conn D N d 0 k) → most ≤ d
variable (hA : ∀ i j, i < N → j < N → Ev (fun k => aQ.f k (rd_L2 all (i : Int)) (rd_L2 all (j : Int))) (D i j))
include hA
omit hD0 hD1 in
theorem chained_l3 (vis : List Bool) (most : Int) (b : Nat) (hb : b < N) (x40 x41 : Int) (res : Int)
  (old : List Int) (hold : old.length = N)
  (next : ∀ far : List Int, far.length = N → (∀ i, i < N → rd far (i : Int) = min (rd old (i : Int)) (D b i)) → Ev (fun k => ac.l1 k all far vis most x40 (wrap64 (x41 + 1))) res) :
  ∀ (d j : Nat) (far : List Int), j + d = N → far.length = N → (∀ i, i < N → rd far (i : Int) = if i < j then min (rd old (i : Int)) (D b i) else rd old (i : Int)) →
   Ev (fun k => ac.l3 k all far vis most (b : Int) x40 x41 (N : Int) (j : Int)) res := by
 intro d
 induction d with
 | zero => intro j far hj hf hr; refine Ev.one (fun k => by rw [ac.l3]) ?_; exact Ev.neg (by omega) (next far hf (fun i hi => by rw [hr i hi, if_pos (by omega)]))
 | succ d ih =>
  intro j far hj hf hr; have hjr := hr j (by omega); rw [if_neg (by omega)] at hjr; refine Ev.one (fun k => by rw [ac.l3]) ?_; refine Ev.pos (by omega) (Ev.pos (by omega) (Ev.pos (by omega) (Ev.pos (by omega) (Ev.pos (by omega) (Ev.pos (by omega) (Ev.bnd (hA b j hb (by omega)) ?_)))))); rw [w64_succ j (by omega), Int.toNat_natCast, hjr, show mn (rd old (j : Int)) (D b j) = min (rd old (j : Int)) (D b j) from by unfold mn; omega]; refine ih (j + 1) _ (by omega) (by rw [List.length_set]; exact hf) (fun i hi => ?_); by_cases e : i = j
  ·subst e; rw [rd_set_eq _ _ _ (by omega), if_pos (by omega)]
  ·rw [rd_set_ne _ _ _ _ (fun q => e q.symm), hr i hi]; by_cases c : i < j
   ·rw [if_pos c, if_pos (by omega)]
   ·rw [if_neg c, if_neg (by omega)]
omit hA hD0 hD1 in
theorem chained_l2 (far : List Int) (vis : List Bool) (hf : far.length = N) (hv : vis.length = N) (most x40 x41 : Int) (res : Int)
  (some1 : ∃ i, i < N ∧ vis.getD i false = false)
  (next : ∀ b : Nat, b < N → vis.getD b false = false → (∀ i, i < N → vis.getD i false = false → rd far (b : Int) ≤ rd far (i : Int)) →
   Ev (fun k => ac.l3 k all far (vis.set b true) (mx most (rd far (b : Int))) (b : Int) x40 x41 (N : Int) 0) res) :
  ∀ (d j : Nat) (best : Int), j + d = N → (best = -1 ∧ (∀ i, i < j → vis.getD i false = true) ∨ ∃ b : Nat, best = (b : Int) ∧ b < j ∧ vis.getD b false = false ∧ ∀ i, i < j → vis.getD i false = false → rd far (b : Int) ≤ rd far (i : Int)) →
   Ev (fun k => ac.l2 k all far vis most best x40 x41 (N : Int) (j : Int)) res := by
 intro d
 induction d with
 | zero =>
  intro j best hj hb; rcases hb with ⟨_, h⟩ | ⟨b, rfl, hbj, hbv, hmin⟩
  ·obtain ⟨i, hi, hiv⟩ := some1; have := h i (by omega); rw [hiv] at this; cases this
  ·refine Ev.one (fun k => by rw [ac.l2]) ?_; rw [hN, Int.toNat_natCast]; exact Ev.neg (by omega) (Ev.pos (by omega) (Ev.pos (by omega) (Ev.pos (by omega) (next b (by omega) hbv (fun i hi => hmin i (by omega))))))
 | succ d ih =>
  intro j best hj hb; refine Ev.one (fun k => by rw [ac.l2]) ?_; rw [rdOf_at, w64_succ j (by omega)]; refine Ev.pos (by omega) (Ev.pos (by omega) (Ev.pos (by omega) ?_))
  cases hvj : vis.getD j false with
  | true =>
   refine Ev.pos rfl (ih (j + 1) best (by omega) ?_); rcases hb with ⟨h0, h⟩ | ⟨b, rfl, hbj, hbv, hmin⟩
   ·refine .inl ⟨h0, fun i hi => ?_⟩; by_cases e : i = j
    ·subst e; exact hvj
    ·exact h i (by omega)
   ·refine .inr ⟨b, rfl, by omega, hbv, fun i hi hiv => ?_⟩; by_cases e : i = j
    ·subst e; rw [hvj] at hiv; cases hiv
    ·exact hmin i (by omega) hiv
  | false =>
   refine Ev.neg (by decide) ?_; rcases hb with ⟨h0, h⟩ | ⟨b, rfl, hbj, hbv, hmin⟩
   ·refine Ev.pos (by omega) (ih (j + 1) (j : Int) (by omega) (.inr ⟨j, rfl, by omega, hvj, fun i hi hiv => ?_⟩)); by_cases e : i = j
    ·subst e; omega
    ·rw [h i (by omega)] at hiv; cases hiv
   ·refine Ev.neg (by omega) (Ev.pos (by omega) (Ev.pos (by omega) (Ev.pos (by omega) ?_))); by_cases c : rd far (j : Int) < rd far (b : Int)
    ·refine Ev.pos c (ih (j + 1) (j : Int) (by omega) (.inr ⟨j, rfl, by omega, hvj, fun i hi hiv => ?_⟩)); by_cases e : i = j
     ·subst e; omega
     ·have := hmin i (by omega) hiv; omega
    ·refine Ev.neg c (ih (j + 1) (b : Int) (by omega) (.inr ⟨b, rfl, by omega, hbv, fun i hi hiv => ?_⟩)); by_cases e : i = j
     ·subst e; omega
     ·exact hmin i (by omega) hiv
theorem chained_l1 : ∀ (u c : Nat) (far : List Int) (vis : List Bool) (most : Int), c + u + 1 = N → totB out1 vis = u → Prim D N far vis most →
  ∃ m, LeastD D N m ∧ 0 ≤ m ∧ m ≤ 1000000000000 ∧ Ev (fun k => ac.l1 k all far vis most ((N - 1 : Nat) : Int) (c : Int)) m := by
 intro u
 induction u with
 | zero => intro c far vis most hc hu hP; have hall := totB_zero vis hu; refine ⟨most, ⟨fun k hk => hP.conn k hk (hall k (by rw [hP.lv]; exact hk)), hP.least⟩, hP.m0, hP.m1, Ev.one (fun k => by rw [ac.l1]) ?_⟩; exact Ev.neg (by omega) (Ev.now _)
 | succ u ih =>
  intro c far vis most hc hu hP; obtain ⟨i0, hi0, hv0⟩ := totB_pos vis (by omega); rw [hP.lv] at hi0
  have step : ∀ b, b < N → vis.getD b false = false → (∀ i, i < N → vis.getD i false = false → rd far (b : Int) ≤ rd far (i : Int)) →
    ∃ m, LeastD D N m ∧ 0 ≤ m ∧ m ≤ 1000000000000 ∧ Ev (fun k => ac.l3 k all far (vis.set b true) (mx most (rd far (b : Int))) (b : Int) ((N - 1 : Nat) : Int) (c : Int) (N : Int) 0) m := by
   intro b hb hbv hbm
   obtain ⟨v, hv, hvv, hve⟩ := hP.hit b hb hbv
   have hd0 := hD0 v b hv hb
   have hd1 := hD1 v b hv hb
   have hm0 := hP.m0
   have hm1 := hP.m1
   have hlv := hP.lv
   have hlf := hP.lf
   have emx : mx most (rd far (b : Int)) = max most (rd far (b : Int)) := by unfold mx; omega
   have hvb : (vis.set b true).getD b false = true := getD_set_eq _ _ _ _ (by omega)
   have hvo : ∀ i, i ≠ b → (vis.set b true).getD i false = vis.getD i false := fun i hi => getD_set_ne _ _ _ _ _ (fun q => hi q.symm)
   have hnl : ((List.range N).map fun i : Nat => min (rd far (i : Int)) (D b i)).length = N := by simp
   have hnr : ∀ i, i < N → rd ((List.range N).map fun i : Nat => min (rd far (i : Int)) (D b i)) (i : Int) = min (rd far (i : Int)) (D b i) := fun i hi => by
    rw [rd_at _ i (by rw [hnl]; exact hi), List.getElem_map, List.getElem_range]
   have huniq : ∀ f : List Int, f.length = N → (∀ i, i < N → rd f (i : Int) = min (rd far (i : Int)) (D b i)) → f = (List.range N).map fun i : Nat => min (rd far (i : Int)) (D b i) := by
    intro f hf hr
    apply List.ext_getElem
    ·rw [hf, hnl]
    ·intro i h1 h2
     have a1 := hr i (by omega)
     have a2 := hnr i (by omega)
     rw [rd_at _ i h1] at a1
     rw [rd_at _ i h2] at a2
     rw [a1, a2]
   generalize ((List.range N).map fun i : Nat => min (rd far (i : Int)) (D b i)) = far2 at hnl hnr huniq
   have hP2 : Prim D N far2 (vis.set b true) (max most (rd far (b : Int))) := by
    refine ⟨hnl, by rw [List.length_set]; exact hlv, ?_, ?_, ?_, by omega, by omega, ?_, ?_⟩
    ·by_cases e : 0 = b
     ·rw [← e] at hvb ⊢; exact hvb
     ·rw [hvo 0 e]; exact hP.first
    ·intro i hi hiv w hw hwv
     have hib : i ≠ b := fun e => by subst e; rw [hvb] at hiv; cases hiv
     rw [hvo i hib] at hiv
     rw [hnr i hi]
     by_cases e : w = b
     ·subst e; omega
     ·rw [hvo w e] at hwv
      have := hP.low i hi hiv w hw hwv
      omega
    ·intro i hi hiv
     have hib : i ≠ b := fun e => by subst e; rw [hvb] at hiv; cases hiv
     rw [hvo i hib] at hiv
     rw [hnr i hi]
     by_cases c : rd far (i : Int) ≤ D b i
     ·obtain ⟨w, hw, hwv, he⟩ := hP.hit i hi hiv
      refine ⟨w, hw, ?_, by omega⟩
      by_cases e : w = b
      ·subst e; exact hvb
      ·rw [hvo w e]; exact hwv
     ·exact ⟨b, hb, hvb, by omega⟩
    ·intro w hw hwv
     by_cases e : w = b
     ·subst e
      exact ((hP.conn v hv hvv).mono (by omega)).step hv hb (by omega)
     ·rw [hvo w e] at hwv
      exact (hP.conn w hw hwv).mono (by omega)
    ·intro d hd hc
     have h1 := hP.least d hd hc
     by_cases c : rd far (b : Int) ≤ d
     ·omega
     ·have hb2 := hc b hb (fun k => k < N → vis.getD k false = true) (fun _ => hP.first) (fun i j hi hj hp hij hj2 => by
       cases hvj : vis.getD j false with
       | true => rfl
       | false =>
        have h2 := hP.low j hj hvj i hi (hp hi)
        have h3 := hbm j hj hvj
        omega) hb
      rw [hbv] at hb2
      cases hb2
   have hu2 : totB out1 (vis.set b true) = u := by
    have h := totB_set out1 true vis b (by omega)
    rw [hbv] at h
    have e1 : out1 false = 1 := rfl
    have e2 : out1 true = 0 := rfl
    omega
   obtain ⟨m, m1, m2, m3, m4⟩ := ih (c + 1) far2 (vis.set b true) (max most (rd far (b : Int))) (by omega) hu2 hP2
   refine ⟨m, m1, m2, m3, ?_⟩
   rw [emx]
   exact chained_l3 D N all hN hNb hA (vis.set b true) (max most (rd far (b : Int))) b hb ((N - 1 : Nat) : Int) (c : Int) m far hlf (fun f hf hr => by
    rw [huniq f hf hr, w64_succ c (by omega)]
    exact m4) N 0 far (by omega) hlf (fun i hi => by rw [if_neg (by omega)])
  obtain ⟨b, hb, hbv, hbm⟩ : ∃ b, b < N ∧ vis.getD b false = false ∧ ∀ i, i < N → vis.getD i false = false → rd far (b : Int) ≤ rd far (i : Int) := by
   have key : ∀ j, j ≤ N → (∀ i, i < j → vis.getD i false = true) ∨ ∃ b, b < j ∧ vis.getD b false = false ∧ ∀ i, i < j → vis.getD i false = false → rd far (b : Int) ≤ rd far (i : Int) := by
    intro j
    induction j with
    | zero => intro _; exact .inl (fun i hi => by omega)
    | succ j ihj =>
     intro hj; rcases ihj (by omega) with h | ⟨b, h1, h2, h3⟩
     ·cases hvj : vis.getD j false with
      | true => exact .inl (fun i hi => by
        by_cases e : i = j
        ·subst e; exact hvj
        ·exact h i (by omega))
      | false => exact .inr ⟨j, by omega, hvj, fun i hi hiv => by
        by_cases e : i = j
        ·subst e; omega
        ·rw [h i (by omega)] at hiv; cases hiv⟩
     ·by_cases c2 : vis.getD j false = false ∧ rd far (j : Int) < rd far (b : Int)
      ·exact .inr ⟨j, by omega, c2.1, fun i hi hiv => by
        by_cases e : i = j
        ·subst e; omega
        ·have := h3 i (by omega) hiv; omega⟩
      ·exact .inr ⟨b, by omega, h2, fun i hi hiv => by
        by_cases e : i = j
        ·subst e
         by_cases c3 : rd far (i : Int) < rd far (b : Int)
         ·exact absurd ⟨hiv, c3⟩ c2
         ·omega
        ·exact h3 i (by omega) hiv⟩
   rcases key N (Nat.le_refl _) with h | h
   ·rw [h i0 hi0] at hv0; cases hv0
   ·exact h
  obtain ⟨m, m1, m2, m3, _⟩ := step b hb hbv hbm; refine ⟨m, m1, m2, m3, Ev.one (fun k => by rw [ac.l1]) ?_⟩; rw [hN]; refine Ev.pos (by omega) (chained_l2 N all hN hNb far vis hP.lf hP.lv most _ _ m ⟨i0, hi0, hv0⟩ (fun b2 hb2 hbv2 hbm2 => ?_) N 0 (-1) (by omega) (.inl ⟨rfl, fun i hi => by omega⟩)); obtain ⟨e, e1, e2, e3, e4⟩ := step b2 hb2 hbv2 hbm2; rw [m1.uniq e1 m2 e2]; exact e4
theorem chained_l0 (hN2 : 2 ≤ N) : ∀ (d j : Nat) (far : List Int), j + d = N → far.length = N → (∀ i, i < j → rd far (i : Int) = D 0 i) →
  ∃ m, LeastD D N m ∧ 0 ≤ m ∧ m ≤ 1000000000000 ∧ Ev (fun k => ac.l0 k all far (List.replicate N false) (N : Int) (j : Int)) m := by
 intro d
 induction d with
 | zero =>
  intro j far hj hf hr; have hrl : (List.replicate N false).length = N := List.length_replicate; have hg : ∀ i, (List.replicate N false).getD i false = false := fun i => (by rw [List.getD_eq_getElem?_getD, List.getElem?_replicate]; split <;> rfl); have h0 : ((List.replicate N false).set 0 true).getD 0 false = true := getD_set_eq _ _ _ _ (by omega); have hoth : ∀ i, i ≠ 0 → ((List.replicate N false).set 0 true).getD i false = false := fun i hi => (by rw [getD_set_ne _ _ _ _ _ (fun q => hi q.symm)]; exact hg i)
  have only : ∀ v, ((List.replicate N false).set 0 true).getD v false = true → v = 0 := fun v hv => by
   by_cases e : v = 0
   ·exact e
   ·rw [hoth v e] at hv; cases hv
  have hP : Prim D N far ((List.replicate N false).set 0 true) 0 := by
   refine ⟨hf, by rw [List.length_set, hrl], h0, ?_, ?_, by omega, by omega, ?_, fun d hd _ => hd⟩
   ·intro i hi _ v hv hvv; obtain rfl := only v hvv; rw [hr i (by omega)]; omega
   ·intro i hi _; exact ⟨0, by omega, h0, hr i (by omega)⟩
   ·intro v hv hvv; obtain rfl := only v hvv; exact Conn.refl D N 0 0
  have hu : totB out1 ((List.replicate N false).set 0 true) = N - 1 := (by have h := totB_set out1 true (List.replicate N false) 0 (by omega); rw [hg 0] at h; have e1 : out1 false = 1 := rfl; have e2 : out1 true = 0 := rfl; have e3 : totB out1 (List.replicate N false) = N := (by unfold totB; rw [List.map_replicate]; simp [out1]); omega); obtain ⟨m, m1, m2, m3, m4⟩ := chained_l1 D N all hN hNb hD0 hD1 hA (N - 1) 0 far _ 0 (by omega) hu hP; refine ⟨m, m1, m2, m3, Ev.one (fun k => by rw [ac.l0]) ?_⟩; rw [hN, show wrap64 ((N : Int) - 1) = ((N - 1 : Nat) : Int) from by rw [w64_of (by omega) (by omega)]; omega]; exact Ev.neg (by omega) (Ev.pos (by omega) m4)
 | succ d ih =>
  intro j far hj hf hr
  obtain ⟨m, m1, m2, m3, m4⟩ := ih (j + 1) (far.set j (D 0 j)) (by omega) (by rw [List.length_set]; exact hf) (fun i hi => by
   by_cases e : i = j
   ·subst e; exact rd_set_eq _ _ _ (by omega)
   ·rw [rd_set_ne _ _ _ _ (fun q => e q.symm)]; exact hr i (by omega))
  refine ⟨m, m1, m2, m3, Ev.one (fun k => by rw [ac.l0]) ?_⟩; rw [w64_succ j (by omega), Int.toNat_natCast]; have h := hA 0 j (by omega) (by omega); exact Ev.pos (by omega) (Ev.pos (by omega) (Ev.pos (by omega) (Ev.pos (by omega) (Ev.bnd h (Ev.pos (by omega) m4)))))
theorem chained_ev : ∃ m, (2 ≤ N → LeastD D N m) ∧ (N < 2 → m = 0) ∧ 0 ≤ m ∧ m ≤ 1000000000000 ∧ Ev (fun k => ac.f k all) m := by
 unfold ac.f; by_cases h : N < 2
 ·exact ⟨0, fun e => by omega, fun _ => rfl, by omega, by omega, Ev.pos (by omega) (Ev.now _)⟩
 ·obtain ⟨m, m1, m2, m3, m4⟩ := chained_l0 D N all hN hNb hD0 hD1 hA (by omega) N 0 (List.replicate N 0) (by omega) List.length_replicate (fun i hi => by omega); refine ⟨m, fun _ => m1, fun e => absurd e h, m2, m3, ?_⟩; rw [hN, Int.toNat_natCast]; exact Ev.neg (by omega) (Ev.pos (by omega) (Ev.pos (by omega) (Ev.pos (by omega) m4)))
end
theorem rd_app (q : List Int) (x : Int) (i : Nat) (h : i < q.length) : rd (q ++ [x]) (i : Int) = rd q (i : Int) := by rw [rd_at _ i (by rw [List.length_append]; omega), rd_at _ i h, List.getElem_append_left h]
section
variable (D : Nat → Nat → Int) (N : Nat) (all : List (List Int)) (hN : all.length = N) (hNb : N ≤ 100000000000)
variable (hA : ∀ i j, i < N → j < N → Ev (fun k => ap.f k (rd_L2 all (i : Int)) (rd_L2 all (j : Int))) (D i j))
structure Bfs (d : Int) (s : Nat) (far : List Int) (q : List Int) : Prop where
 lf : far.length = N
 s0 : 0 ≤ rd far (s : Int)
 inq : ∀ i : Nat, i < q.length → ∃ p : Nat, rd q (i : Int) = (p : Int) ∧ p < N ∧ 0 ≤ rd far (p : Int)
 full : ∀ k : Nat, k < N → 0 ≤ rd far (k : Int) → ∃ i : Nat, i < q.length ∧ rd q (i : Int) = (k : Int)
 neg : ∀ k : Nat, k < N → rd far (k : Int) < 0 → rd far (k : Int) = -1
 room : q.length + tot neg1 far = N
 low : ∀ k : Nat, k < N → rd far (k : Int) < (q.length : Int)
 sound : ∀ k : Nat, k < N → 0 ≤ rd far (k : Int) → Conn D N d s k
theorem Bfs.step {d : Int} {s : Nat} {far q : List Int} (h : Bfs D N d s far q) (hs : s < N) {p j : Nat} (hp : p < N) (hj : j < N) (hpf : 0 ≤ rd far (p : Int)) (hjf : rd far (j : Int) < 0) (hd : D p j ≤ d) :
  Bfs D N d s (far.set j (rd far (p : Int) + 1)) (q ++ [(j : Int)]) := by
 have hlf := h.lf; have hnew : rd (far.set j (rd far (p : Int) + 1)) (j : Int) = rd far (p : Int) + 1 := rd_set_eq _ _ _ (by omega); have hold : ∀ k : Nat, k ≠ j → rd (far.set j (rd far (p : Int) + 1)) (k : Int) = rd far (k : Int) := fun k hk => rd_set_ne _ _ _ _ (fun e => hk e.symm); have hql : (q ++ [(j : Int)]).length = q.length + 1 := (by rw [List.length_append]; rfl); refine ⟨by rw [List.length_set]; exact hlf, ?_, ?_, ?_, ?_, ?_, ?_, ?_⟩
 ·rw [hold s (fun e => by subst e; have := h.s0; omega)]; exact h.s0
 ·intro i hi; rw [hql] at hi; by_cases e : i = q.length
  ·subst e; refine ⟨j, ?_, hj, by rw [hnew]; omega⟩; rw [rd_at _ q.length (by rw [hql]; omega), List.getElem_append_right (Nat.le_refl _)]; simp
  ·obtain ⟨x, h1, h2, h3⟩ := h.inq i (by omega); refine ⟨x, by rw [rd_app q _ i (by omega)]; exact h1, h2, ?_⟩; rw [hold x (fun e => by subst e; omega)]; exact h3
 ·intro k hk hkf; by_cases e : k = j
  ·subst e; refine ⟨q.length, by rw [hql]; omega, ?_⟩; rw [rd_at _ q.length (by rw [hql]; omega), List.getElem_append_right (Nat.le_refl _)]; simp
  ·rw [hold k e] at hkf; obtain ⟨i, h1, h2⟩ := h.full k hk hkf; exact ⟨i, by rw [hql]; omega, by rw [rd_app q _ i h1]; exact h2⟩
 ·intro k hk hkf; by_cases e : k = j
  ·subst e; rw [hnew] at hkf; omega
  ·rw [hold k e] at hkf ⊢; exact h.neg k hk hkf
 ·have ht := tot_set neg1 (rd far (p : Int) + 1) far j (by omega); have e1 : neg1 (rd far (j : Int)) = 1 := (by unfold neg1; rw [if_pos hjf]); have e2 : neg1 (rd far (p : Int) + 1) = 0 := (by unfold neg1; rw [if_neg (by omega)]); have := h.room; rw [hql]; omega
 ·intro k hk; rw [hql]; by_cases e : k = j
  ·subst e; rw [hnew]; have := h.low p hp; omega
  ·rw [hold k e]; have := h.low k hk; omega
 ·intro k hk hkf; by_cases e : k = j
  ·subst e; exact (h.sound p hp hpf).step hp hj hd
  ·rw [hold k e] at hkf; exact h.sound k hk hkf
def Seen (d : Int) (far q : List Int) (at' : Nat) : Prop := ∀ i : Nat, i < at' → ∀ p : Nat, rd q (i : Int) = (p : Int) → ∀ j : Nat, j < N → D p j ≤ d → 0 ≤ rd far (j : Int)
def FarR (d : Int) (s : Nat) (far : List Int) : Prop := far.length = N ∧ ∀ k : Nat, k < N → (rd far (k : Int) = -1 ∧ ¬ Conn D N d s k) ∨ (0 ≤ rd far (k : Int) ∧ Conn D N d s k)
include hN hNb hA
theorem far_l2 (d : Int) (s p c : Nat) (hs : s < N) (hp : p < N)
  (next : ∀ far q, Bfs D N d s far q → c < q.length → Seen D N d far q (c + 1) → ∃ r, FarR D N d s r ∧ Ev (fun k => ai.l1 k all d far q ((c + 1 : Nat) : Int)) r) :
  ∀ (e j : Nat) (far q : List Int), j + e = N → Bfs D N d s far q → c < q.length → rd q (c : Int) = (p : Int) → 0 ≤ rd far (p : Int) → Seen D N d far q c → (∀ i : Nat, i < j → D p i ≤ d → 0 ≤ rd far (i : Int)) →
   ∃ r, FarR D N d s r ∧ Ev (fun k => ai.l2 k all d far q (c : Int) (j : Int)) r := by
 intro e
 induction e with
 | zero =>
  intro j far q hj hB hc hq hpf hS hrow
  obtain ⟨r, r1, r2⟩ := next far q hB hc (fun i hi x hx y hy hd => by
   by_cases e : i = c
   ·subst e
    obtain rfl : x = p := by omega
    exact hrow y (by omega) hd
   ·exact hS i (by omega) x hx y hy hd)
  have hr := hB.room; refine ⟨r, r1, Ev.one (fun k => by rw [ai.l2]) ?_⟩; rw [w64_succ c (by omega)]; exact Ev.neg (by omega) r2
 | succ e ih =>
  intro j far q hj hB hc hq hpf hS hrow; have hr := hB.room; have hlf := hB.lf; have hjN : j < N := (by omega); by_cases hjf : rd far (j : Int) < 0
  ·by_cases hd : D p j ≤ d
   ·have hlow := hB.low p hp; have hB2 := hB.step D N hs hp hjN hpf hjf hd; have hold : ∀ k : Nat, k ≠ j → rd (far.set j (rd far (p : Int) + 1)) (k : Int) = rd far (k : Int) := fun k hk => rd_set_ne _ _ _ _ (fun e => hk e.symm)
    have hmono : ∀ k : Nat, 0 ≤ rd far (k : Int) → 0 ≤ rd (far.set j (rd far (p : Int) + 1)) (k : Int) := fun k hk => by
     by_cases e : k = j
     ·subst e; omega
     ·rw [hold k e]; exact hk
    obtain ⟨r, r1, r2⟩ := ih (j + 1) (far.set j (rd far (p : Int) + 1)) (q ++ [(j : Int)]) (by omega) hB2 (by rw [List.length_append]; omega) (by rw [rd_app q _ c hc]; exact hq) (hmono p hpf)
     (fun i hi x hx y hy hdd => hmono y (hS i hi x (by rwa [rd_app q _ i (by omega)] at hx) y hy hdd))
     (fun i hi hdd => by
      by_cases e : i = j
      ·subst e; rw [rd_set_eq _ _ _ (by omega)]; omega
      ·exact hmono i (hrow i (by omega) hdd))
    refine ⟨r, r1, Ev.one (fun k => by rw [ai.l2]) ?_⟩; rw [hq, w64_of (x := rd far (p : Int) + 1) (by omega) (by omega), w64_succ j (by omega), Int.toNat_natCast]; exact Ev.pos (by omega) (Ev.pos (by omega) (Ev.pos (by omega) (Ev.pos hjf (Ev.pos (by omega) (Ev.pos (by omega) (Ev.pos (by omega) (Ev.pos (by omega) (Ev.bnd (hA p j hp hjN) (Ev.pos hd (Ev.pos (by omega) (Ev.pos (by omega) r2)))))))))))
   ·obtain ⟨r, r1, r2⟩ := ih (j + 1) far q (by omega) hB hc hq hpf hS (fun i hi hdd => by
     by_cases e : i = j
     ·subst e; exact absurd hdd hd
     ·exact hrow i (by omega) hdd)
    refine ⟨r, r1, Ev.one (fun k => by rw [ai.l2]) ?_⟩; rw [hq, w64_succ j (by omega)]; exact Ev.pos (by omega) (Ev.pos (by omega) (Ev.pos (by omega) (Ev.pos hjf (Ev.pos (by omega) (Ev.pos (by omega) (Ev.pos (by omega) (Ev.pos (by omega) (Ev.bnd (hA p j hp hjN) (Ev.neg hd r2)))))))))
  ·obtain ⟨r, r1, r2⟩ := ih (j + 1) far q (by omega) hB hc hq hpf hS (fun i hi hdd => by
    by_cases e : i = j
    ·subst e; omega
    ·exact hrow i (by omega) hdd)
   refine ⟨r, r1, Ev.one (fun k => by rw [ai.l2]) ?_⟩; rw [w64_succ j (by omega)]; exact Ev.pos (by omega) (Ev.pos (by omega) (Ev.pos (by omega) (Ev.neg hjf r2)))
theorem far_l1 (d : Int) (s : Nat) (hs : s < N) : ∀ (e c : Nat) (far q : List Int), c + e = N → Bfs D N d s far q → c ≤ q.length → Seen D N d far q c →
  ∃ r, FarR D N d s r ∧ Ev (fun k => ai.l1 k all d far q (c : Int)) r := by
 have stop : ∀ (c : Nat) (far q : List Int), Bfs D N d s far q → c = q.length → Seen D N d far q c → ∃ r, FarR D N d s r ∧ Ev (fun k => ai.l1 k all d far q (c : Int)) r := by
  intro c far q hB hc hS; refine ⟨far, ⟨hB.lf, fun k hk => ?_⟩, Ev.one (fun k => by rw [ai.l1]) ?_⟩
  ·by_cases hkf : rd far (k : Int) < 0
   ·refine .inl ⟨hB.neg k hk hkf, fun hC => ?_⟩
    have := hC (fun i => i < N → 0 ≤ rd far (i : Int)) (fun _ => hB.s0) (fun i j hi hj hpi hd _ => by
     obtain ⟨x, h1, h2⟩ := hB.full i hi (hpi hi)
     exact hS x (by omega) i h2 j hj hd) hk
    omega
   ·exact .inr ⟨by omega, hB.sound k hk (by omega)⟩
  ·exact Ev.neg (by omega) (Ev.now _)
 intro e
 induction e with
 | zero => intro c far q hc hB hcq hS; have := hB.room; exact stop c far q hB (by omega) hS
 | succ e ih =>
  intro c far q hc hB hcq hS; by_cases h : c = q.length
  ·exact stop c far q hB h hS
  ·obtain ⟨p, h1, h2, h3⟩ := hB.inq c (by omega); obtain ⟨r, r1, r2⟩ := far_l2 D N all hN hNb hA d s p c hs h2 (fun far q hB hc2 hS => ih (c + 1) far q (by omega) hB (by omega) hS) N 0 far q (by omega) hB (by omega) h1 h3 hS (fun i hi => by omega); refine ⟨r, r1, Ev.one (fun k => by rw [ai.l1]) ?_⟩; exact Ev.pos (by omega) r2
theorem far_ev (d : Int) (s : Nat) (hs : s < N) : ∃ r, FarR D N d s r ∧ Ev (fun k => ai.f k all (s : Int) d) r := by
 have hlen : ∀ m : Nat, ((List.range m).map fun k : Nat => if k = s then (0 : Int) else -1).length = m := fun m => (by simp); have hat : ∀ m k : Nat, k < m → rd ((List.range m).map fun k : Nat => if k = s then (0 : Int) else -1) (k : Int) = if k = s then 0 else -1 := fun m k hk => (by rw [rd_at _ k (by rw [hlen]; exact hk), List.getElem_map, List.getElem_range])
 have hB : Bfs D N d s ((List.range N).map fun k : Nat => if k = s then (0 : Int) else -1) [(s : Int)] := by
  refine ⟨hlen N, by rw [hat N s hs, if_pos rfl]; omega, ?_, ?_, ?_, ?_, ?_, ?_⟩
  ·intro i hi; obtain rfl : i = 0 := (by simp at hi; omega); exact ⟨s, rfl, hs, by rw [hat N s hs, if_pos rfl]; omega⟩
  ·intro k hk hkf; rw [hat N k hk] at hkf; by_cases e : k = s
   ·subst e; exact ⟨0, by simp, rfl⟩
   ·rw [if_neg e] at hkf; omega
  ·intro k hk hkf; rw [hat N k hk] at hkf ⊢; by_cases e : k = s
   ·rw [if_pos e] at hkf; omega
   ·rw [if_neg e]
  ·have h0 : (List.range N).map (fun k : Nat => if k = s then (0 : Int) else -1) = (List.replicate N (-1)).set s 0 := by
    apply List.ext_getElem
    ·simp
    ·intro i h1 h2; rw [List.getElem_map, List.getElem_range, List.getElem_set, List.getElem_replicate]; by_cases e : i = s
     ·subst e; simp
     ·rw [if_neg e, if_neg (fun q => e q.symm)]
   rw [h0]; have ht := tot_set neg1 0 (List.replicate N (-1)) s (by rw [List.length_replicate]; exact hs); have e1 : neg1 (rd (List.replicate N (-1)) (s : Int)) = 1 := (by rw [rd_at _ s (by rw [List.length_replicate]; exact hs), List.getElem_replicate]; rfl); have e2 : neg1 0 = 0 := rfl; have e3 : tot neg1 (List.replicate N (-1)) = N := (by unfold tot; rw [List.map_replicate]; simp [neg1]); rw [List.length_singleton]; omega
  ·intro k hk; rw [hat N k hk]; by_cases e : k = s
   ·rw [if_pos e]; simp
   ·rw [if_neg e]; simp
  ·intro k hk hkf; rw [hat N k hk] at hkf; by_cases e : k = s
   ·subst e; exact Conn.refl D N d k
   ·rw [if_neg e] at hkf; omega
 obtain ⟨r, r1, r2⟩ := far_l1 D N all hN hNb hA d s hs N 0 _ _ (by omega) hB (by simp) (fun i hi => by omega); refine ⟨r, r1, ?_⟩; unfold ai.f
 have loop : ∀ (e j : Nat), j + e = N → Ev (fun k => ai.l0 k all (s : Int) d ((List.range j).map fun k : Nat => if k = s then (0 : Int) else -1) (j : Int)) r := by
  intro e
  induction e with
  | zero => intro j hj; obtain rfl : j = N := (by omega); refine Ev.one (fun k => by rw [ai.l0]) ?_; exact Ev.neg (by omega) r2
  | succ e ih =>
   intro j hj; have ih := ih (j + 1) (by omega); rw [List.range_succ, List.map_append, List.map_cons, List.map_nil] at ih; refine Ev.one (fun k => by rw [ai.l0]) ?_; rw [w64_succ j (by omega)]; refine Ev.pos (by omega) (Ev.bnd (a := if ((j : Int) == (s : Int)) = true then 1 else 0) (Ev.const (by unfold bP.f; split <;> rfl)) (Ev.pos (by rw [hlen]; omega) ?_))
   have e1 : wrap64 ((if ((j : Int) == (s : Int)) = true then 1 else 0) - 1) = if j = s then 0 else -1 := by
    by_cases e : j = s
    ·subst e; rw [if_pos (by simp), if_pos rfl]; exact w64_of (by omega) (by omega)
    ·rw [if_neg (by rw [beq_iff_eq]; omega), if_neg e]; exact w64_of (by omega) (by omega)
   rw [e1]; exact ih
 exact loop N 0 (by omega)
theorem degree_l0 (hN1 : 1 ≤ N) (m : Int) (hm : LeastD D N m) (hm1 : m ≤ 1000000000000) : ∀ (e d : Nat), (d : Int) + (e : Int) = m → Ev (fun k => aY.l0 k all (d : Int)) m := by
 intro e
 induction e with
 | zero =>
  intro d hd; obtain ⟨r, r1, r2⟩ := far_ev D N all hN hNb hA (d : Int) 0 (by omega); obtain ⟨b, b1, b2⟩ := spec_HasNumber_ev r (-1) (by rw [r1.1]; exact hNb)
  have hb : b = false := by
   cases hb : b with
   | false => rfl
   | true =>
    obtain ⟨i, hi, he⟩ := List.getElem_of_mem (b1.1 hb); have := r1.1; rcases r1.2 i (by omega) with ⟨_, h⟩ | ⟨h, _⟩
    ·exact absurd ((hm.1 i (by omega)).mono (by omega)) h
    ·rw [rd_at _ i hi, he] at h; omega
  rw [hb] at b2; have e1 : (d : Int) = m := (by omega); refine Ev.one (fun k => by rw [aY.l0]) ?_; rw [← e1]; exact Ev.neg (by omega) (Ev.bnd r2 (Ev.bnd b2 (Ev.neg (by decide) (Ev.now _))))
 | succ e ih =>
  intro d hd; obtain ⟨r, r1, r2⟩ := far_ev D N all hN hNb hA (d : Int) 0 (by omega); obtain ⟨b, b1, b2⟩ := spec_HasNumber_ev r (-1) (by rw [r1.1]; exact hNb)
  have hb : b = true := by
   cases hb : b with
   | true => rfl
   | false =>
    have hall : ∀ k, k < N → Conn D N (d : Int) 0 k := fun k hk => by
     rcases r1.2 k hk with ⟨h, _⟩ | ⟨_, h⟩
     ·have hkr : k < r.length := (by rw [r1.1]; exact hk); rw [rd_at _ k hkr] at h; have : (-1 : Int) ∈ r := (by rw [← h]; exact List.getElem_mem hkr); rw [b1.2 this] at hb; cases hb
     ·exact h
    have := hm.2 (d : Int) (by omega) hall; omega
  rw [hb] at b2; have ih := ih (d + 1) (by omega); refine Ev.one (fun k => by rw [aY.l0]) ?_; rw [w64_succ d (by omega)]; exact Ev.neg (by omega) (Ev.bnd r2 (Ev.bnd b2 (Ev.pos rfl ih)))
end
theorem exc_le (a b : List Int) (ha : ∀ x ∈ a, 0 ≤ x ∧ x ≤ 1000000) (hb : ∀ x ∈ b, 0 ≤ x ∧ x ≤ 1000000) (hl : a.length ≤ 12) : 0 ≤ exc a b ∧ exc a b ≤ 12000000 := by have := exc_bounds a b ha hb; omega
def Fine (c : Nat) (all : List (List Int)) : Prop := ∀ l ∈ all, l.length = c ∧ ∀ x ∈ l, 0 ≤ x ∧ x ≤ 1000000
theorem degree_both (all : List (List Int)) (c : Nat) (hc : c ≤ 12) (hF : Fine c all) (hNb : all.length ≤ 100000000000) :
  ∃ m : Int, 0 ≤ m ∧ m ≤ 1000000000000 ∧ Ev (fun k => aY.f k all) m ∧ Ev (fun k => ac.f k all) m := by
 have hat : ∀ i, i < all.length → (rd_L2 all (i : Int)).length = c ∧ ∀ x ∈ rd_L2 all (i : Int), 0 ≤ x ∧ x ≤ 1000000 := fun i hi => (by rw [rd_L2_at all i hi]; exact hF _ (List.getElem_mem hi)); have hD0 : ∀ i j, i < all.length → j < all.length → 0 ≤ dst (rd_L2 all (i : Int)) (rd_L2 all (j : Int)) := fun i j hi hj => (by have h1 := hat i hi; have h2 := hat j hj; have := exc_le _ _ h1.2 h2.2 (by omega); unfold dst; omega); have hD1 : ∀ i j, i < all.length → j < all.length → dst (rd_L2 all (i : Int)) (rd_L2 all (j : Int)) ≤ 1000000000000 := fun i j hi hj => (by have h1 := hat i hi; have h2 := hat j hj; have a1 := exc_le _ _ h1.2 h2.2 (by omega); have a2 := exc_le _ _ h2.2 h1.2 (by omega); unfold dst; omega); have hA : ∀ i j, i < all.length → j < all.length → Ev (fun k => aQ.f k (rd_L2 all (i : Int)) (rd_L2 all (j : Int))) (dst (rd_L2 all (i : Int)) (rd_L2 all (j : Int))) := fun i j hi hj => (by have h1 := hat i hi; have h2 := hat j hj; exact impl_apart_ev _ _ (by omega) (by omega) h1.2 h2.2); have hA2 : ∀ i j, i < all.length → j < all.length → Ev (fun k => ap.f k (rd_L2 all (i : Int)) (rd_L2 all (j : Int))) (dst (rd_L2 all (i : Int)) (rd_L2 all (j : Int))) := fun i j hi hj => (by have h1 := hat i hi; have h2 := hat j hj; have h := spec_dist_ev (rd_L2 all (i : Int)) (rd_L2 all (j : Int)) (by omega); rw [if_pos ⟨by omega, (allIn_iff _ _ _).2 h1.2, (allIn_iff _ _ _).2 h2.2⟩] at h; exact h); obtain ⟨m, m1, m2, m3, m4, m5⟩ := chained_ev (fun i j => dst (rd_L2 all (i : Int)) (rd_L2 all (j : Int))) all.length all rfl hNb hD0 hD1 hA; refine ⟨m, m3, m4, ?_, m5⟩; unfold aY.f; by_cases h0 : all.length = 0
 ·rw [m2 (by omega)]; refine Ev.one (fun k => by rw [aY.l0]) ?_; exact Ev.pos (by omega) (Ev.now _)
 ·have hL : LeastD (fun i j => dst (rd_L2 all (i : Int)) (rd_L2 all (j : Int))) all.length m := by
   by_cases h1 : 2 ≤ all.length
   ·exact m1 h1
   ·rw [m2 (by omega)]
    exact ⟨fun k hk => by
     obtain rfl : k = 0 := by omega
     exact Conn.refl _ _ _ _, fun d hd _ => hd⟩
  exact degree_l0 _ all.length all rfl hNb hA2 (by omega) m hL m4 m.toNat 0 (by omega)
theorem fac_fine (g : List Int) (hS : SG g) (n : Nat) (hn : n ≤ 100) : Fine g.length (facL g (n : Int)) := by
 intro l hl; have h := (facL_mem g n l (fun x hx => (hS.rng x hx).1)).1 hl; refine ⟨h.1, fun x hx => ⟨h.2.1 x hx, ?_⟩⟩
 have key : ∀ (l gs : List Int), l.length = gs.length → (∀ x ∈ l, 0 ≤ x) → (∀ y ∈ gs, 1 ≤ y) → ∀ x ∈ l, x ≤ dot l gs := by
  intro l
  induction l with
  | nil => intro gs _ _ _ x hx; simp at hx
  | cons y l ih =>
   intro gs hl h0 h1 x hx
   cases gs with
   | nil => simp at hl
   | cons z gs =>
    rw [dot_cons]; have hy := h0 y (List.mem_cons_self ..); have hz := h1 z (List.mem_cons_self ..); have hmul : y ≤ y * z := (by have := Int.mul_le_mul_of_nonneg_left hz hy; omega); have hd := dot_nonneg l gs (fun w hw => h0 w (List.mem_cons_of_mem _ hw)) (fun w hw => by have := h1 w (List.mem_cons_of_mem _ hw); omega); rcases List.mem_cons.1 hx with rfl | hx
    ·omega
    ·have := ih gs (by simpa using hl) (fun w hw => h0 w (List.mem_cons_of_mem _ hw)) (fun w hw => h1 w (List.mem_cons_of_mem _ hw)) x hx; omega
 have := key l g h.1 h.2.1 (fun y hy => (hS.rng y hy).1) x hx; omega
theorem catenary_both (g : List Int) (hlen : g.length ≤ 1048576) (n : Int) : ∃ r : Int, -1 ≤ r ∧ r ≤ 1000000000000 ∧ Ev (fun k => aV.f k g n) r ∧ Ev (fun k => aG.f k g n) r := by
 obtain ⟨b, b1, b2, b3⟩ := sg_both g hlen; obtain ⟨c, c1, c2, c3⟩ := fac_both g hlen n; obtain rfl := bool_same c1 b1; unfold aV.f aG.f
 cases c with
 | false =>
  refine ⟨-1, by omega, by omega, Ev.bnd b2 (Ev.neg (by decide) (Ev.one (fun k => by rw [aV.j0]) ?_)), Ev.bnd b3 (Ev.neg (by decide) (Ev.one (fun k => by rw [aG.j0]) ?_))⟩
  ·exact Ev.pos rfl (Ev.now _)
  ·exact Ev.pos rfl (Ev.now _)
 | true =>
  have hS := b1.1 rfl; by_cases h : 0 ≤ n ∧ n ≤ 100
  ·obtain ⟨q, rfl⟩ : ∃ q : Nat, n = (q : Int) := ⟨n.toNat, by omega⟩; unfold facS at c2 c3; rw [if_pos ⟨rfl, h⟩] at c2 c3; obtain ⟨m, m1, m2, m3, m4⟩ := degree_both (facL g (q : Int)) g.length hS.len2 (fac_fine g hS q (by omega)) (facL_room g hS g (fun x hx => hx) (Nat.le_refl _) q (by omega)); refine ⟨m, by omega, m2, Ev.bnd b2 (Ev.pos rfl (Ev.bnd (spec_l1In_ev _ _ _) (Ev.one (fun k => by rw [aV.j0]) ?_))), Ev.bnd b3 (Ev.pos rfl (Ev.bnd (impl_within_ev _ _ _) (Ev.one (fun k => by rw [aG.j0]) ?_)))⟩
   ·exact Ev.neg (by rw [decide_eq_true h]; decide) (Ev.bnd c2 (Ev.bnd m3 (Ev.now _)))
   ·exact Ev.neg (by rw [decide_eq_true h]; decide) (Ev.bnd c3 (Ev.bnd m4 (Ev.now _)))
  ·refine ⟨-1, by omega, by omega, Ev.bnd b2 (Ev.pos rfl (Ev.bnd (spec_l1In_ev _ _ _) (Ev.one (fun k => by rw [aV.j0]) ?_))), Ev.bnd b3 (Ev.pos rfl (Ev.bnd (impl_within_ev _ _ _) (Ev.one (fun k => by rw [aG.j0]) ?_)))⟩
   ·exact Ev.pos (by rw [decide_eq_false h]; decide) (Ev.now _)
   ·exact Ev.pos (by rw [decide_eq_false h]; decide) (Ev.now _)
theorem eqR_ev (a b : List Int) (hl : a.length ≤ 1048576) : ∃ r, (r = true ↔ a = b) ∧ Ev (fun k => eqR.f k a b) r := by
 unfold eqR.f; by_cases h : a.length = b.length
 ·have go : ∀ (d i : Nat), i + d = a.length → ∃ r, (r = true ↔ a.drop i = b.drop i) ∧ Ev (fun k => eqR.l0 k a b (a.length : Int) (i : Int)) r := by
   intro d
   induction d with
   | zero => intro i hi; refine ⟨true, by rw [List.drop_eq_nil_of_le (show a.length ≤ i by omega), List.drop_eq_nil_of_le (show b.length ≤ i by omega)]; simp, Ev.one (fun k => by rw [eqR.l0]) ?_⟩; exact Ev.neg (by omega) (Ev.now _)
   | succ d ih =>
    intro i hi; rw [List.drop_eq_getElem_cons (show i < a.length by omega), List.drop_eq_getElem_cons (show i < b.length by omega)]; by_cases h : a[i] = b[i]
    ·obtain ⟨r, r1, r2⟩ := ih (i + 1) (by omega); refine ⟨r, by rw [r1, h, List.cons.injEq]; simp, Ev.one (fun k => by rw [eqR.l0]) ?_⟩; rw [rd_at a i (by omega), rd_at b i (by omega), w64_succ i (by omega)]; exact Ev.pos (by omega) (Ev.pos (by omega) (Ev.pos (by omega) (Ev.pos (by omega) (Ev.pos h r2))))
    ·refine ⟨false, ⟨(fun e => by cases e), fun e => absurd (List.cons.inj e).1 h⟩, Ev.one (fun k => by rw [eqR.l0]) ?_⟩; rw [rd_at a i (by omega), rd_at b i (by omega)]; exact Ev.pos (by omega) (Ev.pos (by omega) (Ev.pos (by omega) (Ev.pos (by omega) (Ev.neg h (Ev.now _)))))
  obtain ⟨r, r1, r2⟩ := go a.length 0 (by omega); exact ⟨r, by rw [r1]; simp, Ev.pos (by omega) r2⟩
 ·exact ⟨false, ⟨(fun e => by cases e), fun e => absurd (congrArg List.length e) h⟩, Ev.neg (by omega) (Ev.now _)⟩
def AtR (all : List (List Int)) (x : List Int) (i : Int) : Prop := (i = -1 ∧ x ∉ all) ∨ ∃ n : Nat, i = (n : Int) ∧ ∃ h : n < all.length, all[n] = x
theorem rdLL_at (xs : List (List Int)) (i : Nat) (h : i < xs.length) : rdLL xs (i : Int) = xs[i] := by unfold rdLL; rw [Int.toNat_natCast, List.getD_eq_getElem?_getD, List.getElem?_eq_getElem h, Option.getD_some]
theorem at_both (all : List (List Int)) (x : List Int) (hl : all.length ≤ 100000000000) (hx : ∀ y ∈ all, y.length ≤ 1048576) (hxl : x.length ≤ 1048576) :
  ∃ i, AtR all x i ∧ Ev (fun k => bq.f k all x) i ∧ Ev (fun k => aI.l0 (fun y => eqR.f k x y) k all 0) i := by
 have go : ∀ (d n : Nat), n + d = all.length → (∀ m (h : m < all.length), m < n → all[m] ≠ x) →
   ∃ i, AtR all x i ∧ Ev (fun k => bq.l0 k all x (n : Int)) i ∧ ∃ K, ∀ m, K ≤ m → ∀ k, K ≤ k → aI.l0 (fun y => eqR.f m x y) k all (n : Int) = some i := by
  intro d
  induction d with
  | zero =>
   intro n hn hno
   refine ⟨-1, .inl ⟨rfl, fun hm => ?_⟩, Ev.one (fun k => by rw [bq.l0]) (Ev.neg (by omega) (Ev.now _)), 1, fun m hm k hk => ?_⟩
   ·obtain ⟨i, hi, he⟩ := List.getElem_of_mem hm
    exact hno i hi (by omega) he
   ·obtain ⟨k, rfl⟩ : ∃ q, k = q + 1 := ⟨k - 1, by omega⟩
    rw [aI.l0, if_neg (by omega)]
  | succ d ih =>
   intro n hn hno
   have hnl : n < all.length := by omega
   obtain ⟨b1, c1, c2⟩ := spec_l2Same_ev all[n] x (hx _ (List.getElem_mem hnl))
   obtain ⟨b2, c3, K1, c4⟩ := eqR_ev x all[n] hxl
   by_cases e : all[n] = x
   ·have hb1 : b1 = true := c1.2 e
    have hb2 : b2 = true := c3.2 e.symm
    subst hb1 hb2
    refine ⟨(n : Int), .inr ⟨n, rfl, hnl, e⟩, Ev.one (fun k => by rw [bq.l0]) ?_, K1 + 1, fun m hm k hk => ?_⟩
    ·rw [rd_L2_at all n hnl]
     exact Ev.pos (by omega) (Ev.pos (by omega) (Ev.bnd c2 (Ev.pos rfl (Ev.now _))))
    ·obtain ⟨k, rfl⟩ : ∃ q, k = q + 1 := ⟨k - 1, by omega⟩
     rw [aI.l0, if_pos (by omega), if_pos (by omega), rdLL_at all n hnl, show eqR.f m x all[n] = some true from c4 m (by omega)]
     rfl
   ·have hb1 : b1 = false := Bool.eq_false_iff.2 (fun q => e (c1.1 q))
    have hb2 : b2 = false := Bool.eq_false_iff.2 (fun q => e (c3.1 q).symm)
    subst hb1 hb2
    obtain ⟨i, i1, i2, K2, i3⟩ := ih (n + 1) (by omega) (fun m h hm => by
     by_cases q : m = n
     ·subst q; exact e
     ·exact hno m h (by omega))
    refine ⟨i, i1, Ev.one (fun k => by rw [bq.l0]) ?_, max K1 K2 + 1, fun m hm k hk => ?_⟩
    ·rw [rd_L2_at all n hnl, w64_succ n (by omega)]
     exact Ev.pos (by omega) (Ev.pos (by omega) (Ev.bnd c2 (Ev.neg (by decide) i2)))
    ·obtain ⟨k, rfl⟩ : ∃ q, k = q + 1 := ⟨k - 1, by omega⟩
     rw [aI.l0, if_pos (by omega), if_pos (by omega), rdLL_at all n hnl, show eqR.f m x all[n] = some false from c4 m (by omega), w64_succ n (by omega)]
     exact i3 m (by omega) k (by omega)
 obtain ⟨i, i1, i2, K, i3⟩ := go all.length 0 (by omega) (fun m _ hm => absurd hm (by omega)); exact ⟨i, i1, i2, K, fun k hk => i3 k hk k hk⟩
theorem dst_comm (a b : List Int) : dst a b = dst b a := by unfold dst; omega
theorem Conn.trans {D : Nat → Nat → Int} {N : Nat} {d : Int} {a b c : Nat} (h : Conn D N d a b) (k : Conn D N d b c) : Conn D N d a c := fun P hp hc => k P (h P hp hc) hc
theorem Conn.symm {D : Nat → Nat → Int} {N : Nat} {d : Int} {a b : Nat} (hD : ∀ i j, D i j = D j i) (h : Conn D N d a b) : Conn D N d b a :=
 h (fun x => Conn D N d x a) (Conn.refl D N d a) (fun i j hi hj hp hd => ((Conn.refl D N d j).step hj hi (by rw [hD]; exact hd)).trans hp)
section
variable (D : Nat → Nat → Int) (all : List (List Int)) (hNb : all.length ≤ 100000000000)
variable (hA : ∀ i j, i < all.length → j < all.length → Ev (fun k => ap.f k (rd_L2 all (i : Int)) (rd_L2 all (j : Int))) (D i j))
variable (hI : ∀ i j, i < all.length → j < all.length → Ev (fun k => aQ.f k (rd_L2 all (i : Int)) (rd_L2 all (j : Int))) (D i j))
structure Bfs2 (d : Int) (s : Nat) (far q : List Int) : Prop extends Bfs D all.length d s far q where
 prev : ∀ k : Nat, k < all.length → 0 < rd far (k : Int) → ∃ p : Nat, p < all.length ∧ rd far (p : Int) = rd far (k : Int) - 1 ∧ D p k ≤ d
 zero : ∀ k : Nat, k < all.length → rd far (k : Int) = 0 → k = s
 s00 : rd far (s : Int) = 0
theorem Bfs2.step {d : Int} {s : Nat} {far q : List Int} (h : Bfs2 D all d s far q) (hs : s < all.length) {p j : Nat} (hp : p < all.length) (hj : j < all.length) (hpf : 0 ≤ rd far (p : Int)) (hjf : rd far (j : Int) < 0) (hd : D p j ≤ d) :
  Bfs2 D all d s (far.set j (rd far (p : Int) + 1)) (q ++ [(j : Int)]) := by
 have hlf := h.lf; have hnew : rd (far.set j (rd far (p : Int) + 1)) (j : Int) = rd far (p : Int) + 1 := rd_set_eq _ _ _ (by omega); have hold : ∀ k : Nat, k ≠ j → rd (far.set j (rd far (p : Int) + 1)) (k : Int) = rd far (k : Int) := fun k hk => rd_set_ne _ _ _ _ (fun e => hk e.symm); refine ⟨h.toBfs.step D all.length hs hp hj hpf hjf hd, ?_, ?_, ?_⟩
 ·intro k hk hkf; by_cases e : k = j
  ·subst e; refine ⟨p, hp, ?_, hd⟩; rw [hnew, hold p (fun e => by subst e; omega)]; omega
  ·rw [hold k e] at hkf ⊢; obtain ⟨x, x1, x2, x3⟩ := h.prev k hk hkf; refine ⟨x, x1, ?_, x3⟩; rw [hold x (fun e => by subst e; omega)]; exact x2
 ·intro k hk hk0; by_cases e : k = j
  ·subst e; rw [hnew] at hk0; omega
  ·rw [hold k e] at hk0; exact h.zero k hk hk0
 ·rw [hold s (fun e => by subst e; have := h.s00; omega)]; exact h.s00
structure FarR2 (d : Int) (s : Nat) (far : List Int) : Prop where
 base : FarR D all.length d s far
 prev : ∀ k : Nat, k < all.length → 0 < rd far (k : Int) → ∃ p : Nat, p < all.length ∧ rd far (p : Int) = rd far (k : Int) - 1 ∧ D p k ≤ d
 zero : ∀ k : Nat, k < all.length → rd far (k : Int) = 0 → k = s
 s00 : rd far (s : Int) = 0
 low : ∀ k : Nat, k < all.length → rd far (k : Int) < (all.length : Int)
def tailF (fr tg d : Int) (k : Nat) (r : List Int) : Option (List (List Int) × Bool) :=
 if 0 ≤ fr then (if fr < (all.length : Int) then ((bi.f (rd_L2 all fr)).bind fun t => (aa.l3 k fr tg d r (([t] : List (List Int))) all)) else (none)) else (none)
include hNb hA hI
theorem both_l2 (d fr tg : Int) (s p c : Nat) (hs : s < all.length) (hp : p < all.length)
  (next : ∀ far q, Bfs2 D all d s far q → c < q.length → Seen D all.length d far q (c + 1) → ∃ r, FarR2 D all d s r ∧ Ev (fun k => ai.l1 k all d far q ((c + 1 : Nat) : Int)) r ∧ ∀ res, Ev (fun k => tailF all fr tg d k r) res → Ev (fun k => aa.l1 k fr tg d far (q.drop (c + 1)) all) res) :
  ∀ (e j : Nat) (far q : List Int), j + e = all.length → Bfs2 D all d s far q → c < q.length → rd q (c : Int) = (p : Int) → 0 ≤ rd far (p : Int) → Seen D all.length d far q c → (∀ i : Nat, i < j → D p i ≤ d → 0 ≤ rd far (i : Int)) →
   ∃ r, FarR2 D all d s r ∧ Ev (fun k => ai.l2 k all d far q (c : Int) (j : Int)) r ∧ ∀ res, Ev (fun k => tailF all fr tg d k r) res → Ev (fun k => aa.l2 k fr tg d far (q.drop (c + 1)) (p : Int) (all.length : Int) (j : Int) all) res := by
 intro e
 induction e with
 | zero =>
  intro j far q hj hB hc hq hpf hS hrow
  obtain ⟨r, r1, r2, r3⟩ := next far q hB hc (fun i hi x hx y hy hd => by
   by_cases e : i = c
   ·subst e
    obtain rfl : x = p := by omega
    exact hrow y (by omega) hd
   ·exact hS i (by omega) x hx y hy hd)
  have hr := hB.room; refine ⟨r, r1, Ev.one (fun k => by rw [ai.l2]) ?_, fun res ht => Ev.one (fun k => by rw [aa.l2]) ?_⟩
  ·rw [w64_succ c (by omega)]; exact Ev.neg (by omega) r2
  ·exact Ev.neg (by omega) (r3 res ht)
 | succ e ih =>
  intro j far q hj hB hc hq hpf hS hrow; have hr := hB.room; have hlf := hB.lf; have hjN : j < all.length := (by omega); have hdl : (q.drop (c + 1)).length = q.length - (c + 1) := List.length_drop; by_cases hjf : rd far (j : Int) < 0
  ·by_cases hd : D p j ≤ d
   ·have hlow := hB.low p hp; have hB2 := hB.step D all hs hp hjN hpf hjf hd; have hold : ∀ k : Nat, k ≠ j → rd (far.set j (rd far (p : Int) + 1)) (k : Int) = rd far (k : Int) := fun k hk => rd_set_ne _ _ _ _ (fun e => hk e.symm)
    have hmono : ∀ k : Nat, 0 ≤ rd far (k : Int) → 0 ≤ rd (far.set j (rd far (p : Int) + 1)) (k : Int) := fun k hk => by
     by_cases e : k = j
     ·subst e; omega
     ·rw [hold k e]; exact hk
    obtain ⟨r, r1, r2, r3⟩ := ih (j + 1) (far.set j (rd far (p : Int) + 1)) (q ++ [(j : Int)]) (by omega) hB2 (by rw [List.length_append]; omega) (by rw [rd_app q _ c hc]; exact hq) (hmono p hpf)
     (fun i hi x hx y hy hdd => hmono y (hS i hi x (by rwa [rd_app q _ i (by omega)] at hx) y hy hdd))
     (fun i hi hdd => by
      by_cases e : i = j
      ·subst e; rw [rd_set_eq _ _ _ (by omega)]; omega
      ·exact hmono i (hrow i (by omega) hdd))
    rw [List.drop_append_of_le_length (by omega)] at r3; refine ⟨r, r1, Ev.one (fun k => by rw [ai.l2]) ?_, fun res ht => Ev.one (fun k => by rw [aa.l2]) ?_⟩
    ·rw [hq, w64_of (x := rd far (p : Int) + 1) (by omega) (by omega), w64_succ j (by omega), Int.toNat_natCast]; exact Ev.pos (by omega) (Ev.pos (by omega) (Ev.pos (by omega) (Ev.pos hjf (Ev.pos (by omega) (Ev.pos (by omega) (Ev.pos (by omega) (Ev.pos (by omega) (Ev.bnd (hA p j hp hjN) (Ev.pos hd (Ev.pos (by omega) (Ev.pos (by omega) r2)))))))))))
    ·rw [w64_of (x := rd far (p : Int) + 1) (by omega) (by omega), w64_succ j (by omega), Int.toNat_natCast]; exact Ev.pos (by omega) (Ev.pos (by omega) (Ev.pos (by omega) (Ev.pos hjf (Ev.pos (by omega) (Ev.pos (by omega) (Ev.pos (by omega) (Ev.bnd (hI p j hp hjN) (Ev.pos hd (Ev.pos (by omega) (Ev.pos (by omega) (r3 res ht)))))))))))
   ·obtain ⟨r, r1, r2, r3⟩ := ih (j + 1) far q (by omega) hB hc hq hpf hS (fun i hi hdd => by
     by_cases e : i = j
     ·subst e; exact absurd hdd hd
     ·exact hrow i (by omega) hdd)
    refine ⟨r, r1, Ev.one (fun k => by rw [ai.l2]) ?_, fun res ht => Ev.one (fun k => by rw [aa.l2]) ?_⟩
    ·rw [hq, w64_succ j (by omega)]; exact Ev.pos (by omega) (Ev.pos (by omega) (Ev.pos (by omega) (Ev.pos hjf (Ev.pos (by omega) (Ev.pos (by omega) (Ev.pos (by omega) (Ev.pos (by omega) (Ev.bnd (hA p j hp hjN) (Ev.neg hd r2)))))))))
    ·rw [w64_succ j (by omega)]; exact Ev.pos (by omega) (Ev.pos (by omega) (Ev.pos (by omega) (Ev.pos hjf (Ev.pos (by omega) (Ev.pos (by omega) (Ev.pos (by omega) (Ev.bnd (hI p j hp hjN) (Ev.neg hd (r3 res ht)))))))))
  ·obtain ⟨r, r1, r2, r3⟩ := ih (j + 1) far q (by omega) hB hc hq hpf hS (fun i hi hdd => by
    by_cases e : i = j
    ·subst e; omega
    ·exact hrow i (by omega) hdd)
   refine ⟨r, r1, Ev.one (fun k => by rw [ai.l2]) ?_, fun res ht => Ev.one (fun k => by rw [aa.l2]) ?_⟩
   ·rw [w64_succ j (by omega)]; exact Ev.pos (by omega) (Ev.pos (by omega) (Ev.pos (by omega) (Ev.neg hjf r2)))
   ·rw [w64_succ j (by omega)]; exact Ev.pos (by omega) (Ev.pos (by omega) (Ev.pos (by omega) (Ev.neg hjf (r3 res ht))))
theorem both_l1 (d fr tg : Int) (s : Nat) (hs : s < all.length) : ∀ (e c : Nat) (far q : List Int), c + e = all.length → Bfs2 D all d s far q → c ≤ q.length → Seen D all.length d far q c →
  ∃ r, FarR2 D all d s r ∧ Ev (fun k => ai.l1 k all d far q (c : Int)) r ∧ ∀ res, Ev (fun k => tailF all fr tg d k r) res → Ev (fun k => aa.l1 k fr tg d far (q.drop c) all) res := by
 have stop : ∀ (c : Nat) (far q : List Int), Bfs2 D all d s far q → c = q.length → Seen D all.length d far q c → ∃ r, FarR2 D all d s r ∧ Ev (fun k => ai.l1 k all d far q (c : Int)) r ∧ ∀ res, Ev (fun k => tailF all fr tg d k r) res → Ev (fun k => aa.l1 k fr tg d far (q.drop c) all) res := by
  intro c far q hB hc hS; have hroom := hB.room; refine ⟨far, ⟨⟨hB.lf, fun k hk => ?_⟩, hB.prev, hB.zero, hB.s00, fun k hk => by have := hB.low k hk; omega⟩, Ev.one (fun k => by rw [ai.l1]) ?_, fun res ht => Ev.one (fun k => by rw [aa.l1]) ?_⟩
  ·by_cases hkf : rd far (k : Int) < 0
   ·refine .inl ⟨hB.neg k hk hkf, fun hC => ?_⟩
    have := hC (fun i => i < all.length → 0 ≤ rd far (i : Int)) (fun _ => hB.s0) (fun i j hi hj hpi hd _ => by
     obtain ⟨x, h1, h2⟩ := hB.full i hi (hpi hi)
     exact hS x (by omega) i h2 j hj hd) hk
    omega
   ·exact .inr ⟨by omega, hB.sound k hk (by omega)⟩
  ·exact Ev.neg (by omega) (Ev.now _)
  ·exact Ev.neg (by rw [List.drop_eq_nil_of_le (by omega)]; simp) ht
 intro e
 induction e with
 | zero => intro c far q hc hB hcq hS; have := hB.room; exact stop c far q hB (by omega) hS
 | succ e ih =>
  intro c far q hc hB hcq hS; by_cases h : c = q.length
  ·exact stop c far q hB h hS
  ·obtain ⟨p, h1, h2, h3⟩ := hB.inq c (by omega); obtain ⟨r, r1, r2, r3⟩ := both_l2 D all hNb hA hI d fr tg s p c hs h2 (fun far q hB hc2 hS => ih (c + 1) far q (by omega) hB (by omega) hS) all.length 0 far q (by omega) hB (by omega) h1 h3 hS (fun i hi => by omega); have hdl : (q.drop c).length = q.length - c := List.length_drop; have e1 : rd (q.drop c) 0 = (p : Int) := (by rw [← h1, show (0 : Int) = ((0 : Nat) : Int) from rfl, rd_at _ 0 (by omega), rd_at _ c (by omega), List.getElem_drop]; rfl); have e2 : (q.drop c).drop (1 : Int).toNat = q.drop (c + 1) := (by rw [List.drop_drop]; rfl); refine ⟨r, r1, Ev.one (fun k => by rw [ai.l1]) ?_, fun res ht => Ev.one (fun k => by rw [aa.l1]) ?_⟩
   ·exact Ev.pos (by omega) r2
   ·rw [e1, e2]; exact Ev.pos (by omega) (Ev.pos (by omega) (Ev.pos (by omega) (r3 res ht)))
theorem both_far (d fr : Int) (s : Nat) (hs : s < all.length) : ∃ r, FarR2 D all d s r ∧ Ev (fun k => ai.f k all (s : Int) d) r ∧
  ∀ res, Ev (fun k => tailF all fr (s : Int) d k r) res → Ev (fun k => aa.l0 k fr (s : Int) d (List.replicate all.length 0) (all.length : Int) 0 all) res := by
 have hlen : ∀ m : Nat, ((List.range m).map fun k : Nat => if k = s then (0 : Int) else -1).length = m := fun m => (by simp); have hat : ∀ m k : Nat, k < m → rd ((List.range m).map fun k : Nat => if k = s then (0 : Int) else -1) (k : Int) = if k = s then 0 else -1 := fun m k hk => (by rw [rd_at _ k (by rw [hlen]; exact hk), List.getElem_map, List.getElem_range])
 have h0 : (List.range all.length).map (fun k : Nat => if k = s then (0 : Int) else -1) = (List.replicate all.length (-1)).set s 0 := by
  apply List.ext_getElem
  ·simp
  ·intro i h1 h2; rw [List.getElem_map, List.getElem_range, List.getElem_set, List.getElem_replicate]; by_cases e : i = s
   ·subst e; simp
   ·rw [if_neg e, if_neg (fun q => e q.symm)]
 have hB : Bfs2 D all d s ((List.range all.length).map fun k : Nat => if k = s then (0 : Int) else -1) [(s : Int)] := by
  refine ⟨⟨hlen all.length, by rw [hat _ s hs, if_pos rfl]; omega, ?_, ?_, ?_, ?_, ?_, ?_⟩, ?_, ?_, by rw [hat _ s hs, if_pos rfl]⟩
  ·intro i hi; obtain rfl : i = 0 := (by simp at hi; omega); exact ⟨s, rfl, hs, by rw [hat _ s hs, if_pos rfl]; omega⟩
  ·intro k hk hkf; rw [hat _ k hk] at hkf; by_cases e : k = s
   ·subst e; exact ⟨0, by simp, rfl⟩
   ·rw [if_neg e] at hkf; omega
  ·intro k hk hkf; rw [hat _ k hk] at hkf ⊢; by_cases e : k = s
   ·rw [if_pos e] at hkf; omega
   ·rw [if_neg e]
  ·rw [h0]; have ht := tot_set neg1 0 (List.replicate all.length (-1)) s (by rw [List.length_replicate]; exact hs); have e1 : neg1 (rd (List.replicate all.length (-1)) (s : Int)) = 1 := (by rw [rd_at _ s (by rw [List.length_replicate]; exact hs), List.getElem_replicate]; rfl); have e2 : neg1 0 = 0 := rfl; have e3 : tot neg1 (List.replicate all.length (-1)) = all.length := (by unfold tot; rw [List.map_replicate]; simp [neg1]); rw [List.length_singleton]; omega
  ·intro k hk; rw [hat _ k hk]; by_cases e : k = s
   ·rw [if_pos e]; simp
   ·rw [if_neg e]; simp
  ·intro k hk hkf; rw [hat _ k hk] at hkf; by_cases e : k = s
   ·subst e; exact Conn.refl D all.length d k
   ·rw [if_neg e] at hkf; omega
  ·intro k hk hkf; rw [hat _ k hk] at hkf; by_cases e : k = s
   ·rw [if_pos e] at hkf; omega
   ·rw [if_neg e] at hkf; omega
  ·intro k hk hk0; rw [hat _ k hk] at hk0; by_cases e : k = s
   ·exact e
   ·rw [if_neg e] at hk0; omega
 obtain ⟨r, r1, r2, r3⟩ := both_l1 D all hNb hA hI d fr (s : Int) s hs all.length 0 _ _ (by omega) hB (by simp) (fun i hi => by omega); refine ⟨r, r1, ?_, fun res ht => ?_⟩
 ·unfold ai.f
  have loop : ∀ (e j : Nat), j + e = all.length → Ev (fun k => ai.l0 k all (s : Int) d ((List.range j).map fun k : Nat => if k = s then (0 : Int) else -1) (j : Int)) r := by
   intro e
   induction e with
   | zero => intro j hj; obtain rfl : j = all.length := (by omega); refine Ev.one (fun k => by rw [ai.l0]) ?_; exact Ev.neg (by omega) r2
   | succ e ih =>
    intro j hj; have ih := ih (j + 1) (by omega); rw [List.range_succ, List.map_append, List.map_cons, List.map_nil] at ih; refine Ev.one (fun k => by rw [ai.l0]) ?_; rw [w64_succ j (by omega)]; refine Ev.pos (by omega) (Ev.bnd (a := if ((j : Int) == (s : Int)) = true then 1 else 0) (Ev.const (by unfold bP.f; split <;> rfl)) (Ev.pos (by rw [hlen]; omega) ?_))
    have e1 : wrap64 ((if ((j : Int) == (s : Int)) = true then 1 else 0) - 1) = if j = s then 0 else -1 := by
     by_cases e : j = s
     ·subst e; rw [if_pos (by simp), if_pos rfl]; exact w64_of (by omega) (by omega)
     ·rw [if_neg (by rw [beq_iff_eq]; omega), if_neg e]; exact w64_of (by omega) (by omega)
    rw [e1]; exact ih
  exact loop all.length 0 (by omega)
 ·have fin := r3 res ht; rw [h0, List.drop_zero] at fin
  have loop : ∀ (e j : Nat) (f : List Int), j + e = all.length → f.length = all.length → (∀ i (h : i < f.length), i < j → f[i] = -1) → Ev (fun k => aa.l0 k fr (s : Int) d f (all.length : Int) (j : Int) all) res := by
   intro e
   induction e with
   | zero => intro j f hj hf hfi; have ef : f = List.replicate all.length (-1) := List.ext_getElem (by rw [hf, List.length_replicate]) (fun i h1 h2 => by rw [List.getElem_replicate]; exact hfi i h1 (by omega)); subst ef; refine Ev.one (fun k => by rw [aa.l0]) ?_; rw [Int.toNat_natCast]; exact Ev.neg (by omega) (Ev.pos (by omega) (Ev.pos (by omega) fin))
   | succ e ih =>
    intro j f hj hf hfi; refine Ev.one (fun k => by rw [aa.l0]) ?_; rw [w64_succ j (by omega), Int.toNat_natCast]; refine Ev.pos (by omega) (Ev.pos (by omega) (Ev.pos (by omega) (ih (j + 1) _ (by omega) (by rw [List.length_set]; exact hf) (fun i h hi => ?_)))); rw [List.getElem_set]; by_cases e : j = i
    ·rw [if_pos e]
    ·rw [if_neg e]; exact hfi i (by rw [List.length_set] at h; exact h) (by omega)
  exact loop all.length 0 _ (by omega) (List.length_replicate ..) (fun i _ hi => absurd hi (by omega))
end
def Link (d : Int) : List Int → List (List Int) → Prop
 | _, [] => True
 | a, b :: t => dst a b ≤ d ∧ Link d b t
def endOf : List Int → List (List Int) → List Int
 | a, [] => a
 | _, b :: t => endOf b t
section
variable (all : List (List Int)) (hNb : all.length ≤ 100000000000) (hx : ∀ x ∈ all, x.length ≤ 1000)
variable (hA : ∀ i j, i < all.length → j < all.length → Ev (fun k => ap.f k (rd_L2 all (i : Int)) (rd_L2 all (j : Int))) (dst (rd_L2 all (i : Int)) (rd_L2 all (j : Int))))
variable (hI : ∀ i j, i < all.length → j < all.length → Ev (fun k => aQ.f k (rd_L2 all (i : Int)) (rd_L2 all (j : Int))) (dst (rd_L2 all (i : Int)) (rd_L2 all (j : Int))))
include hNb hx hA hI
theorem descend (d : Int) (s : Nat) (hs : s < all.length) (r : List Int) (hr : FarR2 (fun i j => dst (rd_L2 all (i : Int)) (rd_L2 all (j : Int))) all d s r) :
  ∀ (m f : Nat) (out : List (List Int)), f < all.length → rd r (f : Int) = (m : Int) → out.length + m ≤ all.length + 1 →
   ∃ t, (∀ x ∈ t, x ∈ all) ∧ t.length ≤ m ∧ Link d (rd_L2 all (f : Int)) t ∧ endOf (rd_L2 all (f : Int)) t = rd_L2 all (s : Int) ∧
    Ev (fun k => aw.l0 k all (f : Int) (s : Int) d r out) (out ++ t, true) ∧ Ev (fun k => aa.l3 k (f : Int) (s : Int) d r out all) (out ++ t, true) := by
 have hlf := hr.base.1; intro m
 induction m with
 | zero =>
  intro f out hf hm ho; obtain rfl : f = s := hr.zero f hf (by omega); refine ⟨[], (fun x h => by cases h), Nat.le_refl _, trivial, rfl, Ev.one (fun k => by rw [aw.l0]) ?_, Ev.one (fun k => by rw [aa.l3]) ?_⟩
  ·rw [List.append_nil]; exact Ev.pos rfl (Ev.now _)
  ·rw [List.append_nil]; exact Ev.pos rfl (Ev.now _)
 | succ m ih =>
  intro f out hf hm ho; have hfs : (f : Int) ≠ (s : Int) := fun e => (by have e : f = s := (by omega); subst e; have := hr.s00; omega); have hlow := hr.low f hf; have ew : wrap64 (rd r (f : Int) - 1) = (m : Int) := (by rw [hm, w64_of (by omega) (by omega)]; omega); obtain ⟨p, p1, p2, p3⟩ := hr.prev f hf (by omega); rw [dst_comm] at p3
  have scan : ∀ (e j : Nat), j + e = all.length → j ≤ p → ∃ t, (∀ x ∈ t, x ∈ all) ∧ t.length ≤ m + 1 ∧ Link d (rd_L2 all (f : Int)) t ∧ endOf (rd_L2 all (f : Int)) t = rd_L2 all (s : Int) ∧
    Ev (fun k => aw.l1 k all (f : Int) (s : Int) d r out (j : Int)) (out ++ t, true) ∧ Ev (fun k => aa.l4 k (f : Int) (s : Int) d r out (all.length : Int) (j : Int) all) (out ++ t, true) := by
   intro e
   induction e with
   | zero => intro j hj hjp; omega
   | succ e ihe =>
    intro j hj hjp
    have hjN : j < all.length := by omega
    have hrow : rd_L2 all (j : Int) ∈ all := by rw [rd_L2_at all j hjN]; exact List.getElem_mem _
    have hlen := hx _ hrow
    have go : ¬ (rd r (j : Int) = (m : Int) ∧ dst (rd_L2 all (f : Int)) (rd_L2 all (j : Int)) ≤ d) → j + 1 ≤ p := fun h => by
     by_cases q : j = p
     ·subst q; exact absurd ⟨by omega, p3⟩ h
     ·omega
    by_cases c1 : rd r (j : Int) = (m : Int)
    ·by_cases c2 : dst (rd_L2 all (f : Int)) (rd_L2 all (j : Int)) ≤ d
     ·obtain ⟨t, t1, t2, t3, t4, t5, t6⟩ := ih j (out ++ [rd_L2 all (j : Int)]) hjN c1 (by rw [List.length_append, List.length_singleton]; omega)
      rw [List.append_assoc] at t5 t6
      refine ⟨rd_L2 all (j : Int) :: t, fun x h => ?_, by rw [List.length_cons]; omega, ⟨c2, t3⟩, t4, Ev.one (fun k => by rw [aw.l1]) ?_, Ev.one (fun k => by rw [aa.l4]) ?_⟩
      ·rcases List.mem_cons.1 h with rfl | h
       ·exact hrow
       ·exact t1 x h
      ·rw [ew]
       exact Ev.pos (by omega) (Ev.pos (by omega) (Ev.pos (by omega) (Ev.pos (by omega) (Ev.pos c1 (Ev.pos (by omega) (Ev.pos (by omega) (Ev.bnd (hA f j hf hjN) (Ev.neg (by omega) (Ev.some (Ev.pos (by simp only [List.length_nil]; omega) (Ev.pos (by omega) t5)))))))))))
      ·rw [ew]
       unfold bi.f
       exact Ev.pos (by omega) (Ev.pos (by omega) (Ev.pos (by omega) (Ev.pos (by omega) (Ev.pos (by omega) (Ev.pos c1 (Ev.pos (by omega) (Ev.pos (by omega) (Ev.bnd (hI f j hf hjN) (Ev.pos c2 (Ev.bnd (Ev.pos (by omega) (Ev.now _)) (Ev.pos (by omega) t6)))))))))))
     ·obtain ⟨t, t1, t2, t3, t4, t5, t6⟩ := ihe (j + 1) (by omega) (go (fun h => c2 h.2))
      refine ⟨t, t1, t2, t3, t4, Ev.one (fun k => by rw [aw.l1]) ?_, Ev.one (fun k => by rw [aa.l4]) ?_⟩
      ·rw [ew, w64_succ j (by omega)]
       exact Ev.pos (by omega) (Ev.pos (by omega) (Ev.pos (by omega) (Ev.pos (by omega) (Ev.pos c1 (Ev.pos (by omega) (Ev.pos (by omega) (Ev.bnd (hA f j hf hjN) (Ev.pos (by omega) t5))))))))
      ·rw [ew, w64_succ j (by omega)]
       exact Ev.pos (by omega) (Ev.pos (by omega) (Ev.pos (by omega) (Ev.pos (by omega) (Ev.pos (by omega) (Ev.pos c1 (Ev.pos (by omega) (Ev.pos (by omega) (Ev.bnd (hI f j hf hjN) (Ev.neg c2 t6)))))))))
    ·obtain ⟨t, t1, t2, t3, t4, t5, t6⟩ := ihe (j + 1) (by omega) (go (fun h => c1 h.1))
     refine ⟨t, t1, t2, t3, t4, Ev.one (fun k => by rw [aw.l1]) ?_, Ev.one (fun k => by rw [aa.l4]) ?_⟩
     ·rw [ew, w64_succ j (by omega)]
      exact Ev.pos (by omega) (Ev.pos (by omega) (Ev.pos (by omega) (Ev.pos (by omega) (Ev.neg c1 t5))))
     ·rw [ew, w64_succ j (by omega)]
      exact Ev.pos (by omega) (Ev.pos (by omega) (Ev.pos (by omega) (Ev.pos (by omega) (Ev.pos (by omega) (Ev.neg c1 t6)))))
  obtain ⟨t, t1, t2, t3, t4, t5, t6⟩ := scan all.length 0 (by omega) (by omega); refine ⟨t, t1, t2, t3, t4, Ev.one (fun k => by rw [aw.l0]) ?_, Ev.one (fun k => by rw [aa.l3]) ?_⟩
  ·exact Ev.neg hfs t5
  ·exact Ev.neg hfs t6
end
structure ChainP (all : List (List Int)) (d : Int) (x y : List Int) (r : List (List Int)) : Prop where
 form : ∃ t, r = x :: t ∧ (∀ z ∈ t, z ∈ all) ∧ Link d x t ∧ endOf x t = y
 few : r.length ≤ all.length
theorem chain_core (all : List (List Int)) (c : Nat) (hc : c ≤ 12) (hF : Fine c all) (hNb : all.length ≤ 100000000000) (fr tg : Nat) (hfr : fr < all.length) (htg : tg < all.length) :
  ∃ (d : Int) (r : List (List Int)), Ev (fun k => ac.f k all) d ∧ ChainP all d all[fr] all[tg] r ∧ Ev (fun k => aw.j0 k all (fr : Int) (tg : Int) false) (r, true) ∧ Ev (fun k => aa.j0 k (fr : Int) (tg : Int) false all) (r, true) := by
 have hat : ∀ i, i < all.length → (rd_L2 all (i : Int)).length = c ∧ ∀ x ∈ rd_L2 all (i : Int), 0 ≤ x ∧ x ≤ 1000000 := fun i hi => (by rw [rd_L2_at all i hi]; exact hF _ (List.getElem_mem hi)); have hD0 : ∀ i j, i < all.length → j < all.length → 0 ≤ dst (rd_L2 all (i : Int)) (rd_L2 all (j : Int)) := fun i j hi hj => (by have h1 := hat i hi; have h2 := hat j hj; have := exc_le _ _ h1.2 h2.2 (by omega); unfold dst; omega); have hD1 : ∀ i j, i < all.length → j < all.length → dst (rd_L2 all (i : Int)) (rd_L2 all (j : Int)) ≤ 1000000000000 := fun i j hi hj => (by have h1 := hat i hi; have h2 := hat j hj; have a1 := exc_le _ _ h1.2 h2.2 (by omega); have a2 := exc_le _ _ h2.2 h1.2 (by omega); unfold dst; omega); have hI : ∀ i j, i < all.length → j < all.length → Ev (fun k => aQ.f k (rd_L2 all (i : Int)) (rd_L2 all (j : Int))) (dst (rd_L2 all (i : Int)) (rd_L2 all (j : Int))) := fun i j hi hj => (by have h1 := hat i hi; have h2 := hat j hj; exact impl_apart_ev _ _ (by omega) (by omega) h1.2 h2.2); have hA : ∀ i j, i < all.length → j < all.length → Ev (fun k => ap.f k (rd_L2 all (i : Int)) (rd_L2 all (j : Int))) (dst (rd_L2 all (i : Int)) (rd_L2 all (j : Int))) := fun i j hi hj => (by have h1 := hat i hi; have h2 := hat j hj; have h := spec_dist_ev (rd_L2 all (i : Int)) (rd_L2 all (j : Int)) (by omega); rw [if_pos ⟨by omega, (allIn_iff _ _ _).2 h1.2, (allIn_iff _ _ _).2 h2.2⟩] at h; exact h); obtain ⟨m, m1, m2, m3, m4, m5⟩ := chained_ev (fun i j => dst (rd_L2 all (i : Int)) (rd_L2 all (j : Int))) all.length all rfl hNb hD0 hD1 hI; obtain ⟨m', _, _, n3, n4⟩ := degree_both all c hc hF hNb; obtain rfl := Ev.uniq m5 n4; have hsym : ∀ i j : Nat, dst (rd_L2 all (i : Int)) (rd_L2 all (j : Int)) = dst (rd_L2 all (j : Int)) (rd_L2 all (i : Int)) := fun i j => dst_comm _ _
 have hcon : ∀ k, k < all.length → Conn (fun i j => dst (rd_L2 all (i : Int)) (rd_L2 all (j : Int))) all.length m 0 k := by
  by_cases h1 : 2 ≤ all.length
  ·exact (m1 h1).1
  ·intro k hk; obtain rfl : k = 0 := (by omega); exact Conn.refl _ _ _ _
 obtain ⟨r, r1, r2, r3⟩ := both_far (fun i j => dst (rd_L2 all (i : Int)) (rd_L2 all (j : Int))) all hNb hA hI m (fr : Int) tg htg
 have hpos : 0 ≤ rd r (fr : Int) := by
  rcases r1.base.2 fr hfr with h | h
  ·exact absurd ((Conn.symm hsym (hcon tg htg)).trans (hcon fr hfr)) h.2
  ·exact h.1
 have hlow := r1.low fr hfr; have hx : ∀ x ∈ all, x.length ≤ 1000 := fun x h => (by have := (hF x h).1; omega); have hlen : (rd_L2 all (fr : Int)).length ≤ 1000 := (by have := (hat fr hfr).1; omega); obtain ⟨t, t1, t2, t3, t4, t5, t6⟩ := descend all hNb hx hA hI m tg htg r r1 (rd r (fr : Int)).toNat fr [rd_L2 all (fr : Int)] hfr (by omega) (by rw [List.length_singleton]; omega); refine ⟨m, rd_L2 all (fr : Int) :: t, m5, ⟨⟨t, by rw [rd_L2_at all fr hfr], t1, by rw [← rd_L2_at all fr hfr]; exact t3, by rw [← rd_L2_at all fr hfr, ← rd_L2_at all tg htg]; exact t4⟩, by rw [List.length_cons]; omega⟩, Ev.one (fun k => by rw [aw.j0]) ?_, Ev.one (fun k => by rw [aa.j0]) ?_⟩
 ·refine Ev.neg (by decide) (Ev.bnd n3 (Ev.bnd r2 (Ev.some (Ev.pos (by omega) (Ev.pos (by omega) (Ev.pos (by simp only [List.length_nil]; omega) ?_)))))); exact t5
 ·refine Ev.neg (by decide) (Ev.bnd m5 (Ev.pos (by omega) (Ev.pos (by omega) (Ev.some ?_)))); rw [Int.toNat_natCast, List.length_replicate]; refine r3 _ ?_; unfold tailF bi.f; exact Ev.pos (by omega) (Ev.pos (by omega) (Ev.bnd (Ev.pos (by omega) (Ev.now _)) t6))
theorem chain_both (g : List Int) (hlen : g.length ≤ 1048576) (n : Int) (x y : List Int) (hx : x.length ≤ 1048576) (hy : y.length ≤ 1048576) :
  ∃ (b : Bool) (r : List (List Int)) (t : Bool), (b = true ↔ SG g) ∧ (t = true → x ∈ facS b g n ∧ y ∈ facS b g n ∧ ∃ d, Ev (fun k => ac.f k (facS b g n)) d ∧ ChainP (facS b g n) d x y r) ∧ (t = false → r = []) ∧ Ev (fun k => aw.f k g n x y) (r, t) ∧ Ev (fun k => aa.f k g n x y) (r, t) := by
 obtain ⟨b, b1, h1, h2⟩ := fac_both g hlen n; obtain ⟨hsm, hsx⟩ := facS_small b g b1.1 n
 have hF : facS b g n ≠ [] → ∃ c, c ≤ 12 ∧ Fine c (facS b g n) := by
  unfold facS; split
  ·rename_i h; obtain ⟨hb, hn⟩ := h; have hS := b1.1 hb; obtain ⟨m, rfl⟩ : ∃ m : Nat, n = (m : Int) := ⟨n.toNat, by omega⟩; exact fun _ => ⟨g.length, hS.len2, fac_fine g hS m (by omega)⟩
  ·exact fun h => absurd rfl h
 obtain ⟨i, i1, i2, i3⟩ := at_both (facS b g n) x hsm (fun z hz => by have := hsx z hz; omega) hx; obtain ⟨j, j1, j2, j3⟩ := at_both (facS b g n) y hsm (fun z hz => by have := hsx z hz; omega) hy; have no1 : ∀ (k : Nat) (p q : Int), aw.j0 (k + 1) (facS b g n) p q true = some ([], false) := fun k p q => (by rw [aw.j0]; rfl); have no2 : ∀ (k : Nat) (p q : Int), aa.j0 (k + 1) p q true (facS b g n) = some ([], false) := fun k p q => (by rw [aa.j0]; rfl); unfold aw.f aa.f bJ.f; rcases i1 with ⟨rfl, hi⟩ | ⟨p, rfl, hp, ep⟩
 ·refine ⟨b, [], false, b1, (fun h => by cases h), fun _ => rfl, Ev.bnd h1 (Ev.bnd i2 (Ev.bnd j2 (Ev.pos (by omega) (Ev.one (fun k => no1 k _ _) (Ev.now _))))), Ev.bnd h2 (Ev.bnd i3 (Ev.bnd j3 (Ev.pos (by omega) (Ev.one (fun k => no2 k _ _) (Ev.now _)))))⟩
 ·rcases j1 with ⟨rfl, hj⟩ | ⟨q, rfl, hq, eq⟩
  ·refine ⟨b, [], false, b1, (fun h => by cases h), fun _ => rfl, Ev.bnd h1 (Ev.bnd i2 (Ev.bnd j2 (Ev.neg (by omega) ?_))), Ev.bnd h2 (Ev.bnd i3 (Ev.bnd j3 (Ev.neg (by omega) ?_)))⟩
   ·exact Ev.one (fun k => no1 k _ _) (Ev.now _)
   ·exact Ev.one (fun k => no2 k _ _) (Ev.now _)
  ·have hxm : x ∈ facS b g n := (by rw [← ep]; exact List.getElem_mem _); have hym : y ∈ facS b g n := (by rw [← eq]; exact List.getElem_mem _); obtain ⟨c, hc, hF⟩ := hF (List.ne_nil_of_mem hxm); obtain ⟨d, r, r1, r2, r3, r4⟩ := chain_core (facS b g n) c hc hF hsm p q hp hq; rw [ep, eq] at r2; have e : decide ((q : Int) < 0) = false := decide_eq_false (by omega); refine ⟨b, r, true, b1, fun _ => ⟨hxm, hym, d, r1, r2⟩, (fun h => by cases h), Ev.bnd h1 (Ev.bnd i2 (Ev.bnd j2 (Ev.neg (by omega) ?_))), Ev.bnd h2 (Ev.bnd i3 (Ev.bnd j3 (Ev.neg (by omega) ?_)))⟩
   ·rw [e]; exact r3
   ·rw [e]; exact r4
theorem catdeg_l0 (g : List Int) (hlen : g.length ≤ 1048576) (n : Nat) (hn : n ≤ 100) : ∀ (d i : Nat) (x : Int), i + d = n + 1 → -1 ≤ x → x ≤ 1000000000000 →
  ∃ r : Int, Ev (fun k => au.l0 k (n : Int) x (i : Int) g) r ∧ Ev (fun k => aq.l0 k x ((n + 1 : Nat) : Int) (i : Int) g) r := by
 intro d
 induction d with
 | zero =>
  intro i x hi h0 h1; refine ⟨x, Ev.one (fun k => by rw [au.l0]) ?_, Ev.one (fun k => by rw [aq.l0]) ?_⟩
  ·exact Ev.neg (by omega) (Ev.now _)
  ·exact Ev.neg (by omega) (Ev.now _)
 | succ d ih =>
  intro i x hi h0 h1; obtain ⟨c, c0, c1, c2, c3⟩ := catenary_both g hlen (i : Int); obtain ⟨r, r1, r2⟩ := ih (i + 1) (max x c) (by omega) (by omega) (by omega); refine ⟨r, Ev.one (fun k => by rw [au.l0]) ?_, Ev.one (fun k => by rw [aq.l0]) ?_⟩
  ·rw [w64_succ i (by omega)]; exact Ev.pos (by omega) (Ev.bnd c2 (Ev.bnd (Ev.const (spec_l1Max_eq x c)) r1))
  ·rw [w64_succ i (by omega)]; refine Ev.pos (by omega) (Ev.bnd c3 ?_); rw [show mx x c = max x c from by unfold mx; omega]; exact r2
theorem catdeg_both (g : List Int) (hlen : g.length ≤ 1048576) (n : Int) : ∃ r : Int, Ev (fun k => au.f k g n) r ∧ Ev (fun k => aq.f k g n) r := by
 obtain ⟨b, b1, b2, b3⟩ := sg_both g hlen; unfold au.f aq.f
 cases b with
 | false =>
  refine ⟨-1, Ev.bnd b2 (Ev.neg (by decide) (Ev.one (fun k => by rw [au.j0]) ?_)), Ev.bnd b3 (Ev.neg (by decide) (Ev.one (fun k => by rw [aq.j0]) ?_))⟩
  ·exact Ev.pos rfl (Ev.now _)
  ·exact Ev.pos rfl (Ev.now _)
 | true =>
  by_cases h : 0 ≤ n ∧ n ≤ 100
  ·obtain ⟨q, rfl⟩ : ∃ q : Nat, n = (q : Int) := ⟨n.toNat, by omega⟩; obtain ⟨r, r1, r2⟩ := catdeg_l0 g hlen q (by omega) (q + 1) 0 0 (by omega) (by omega) (by omega); refine ⟨r, Ev.bnd b2 (Ev.pos rfl (Ev.bnd (spec_l1In_ev _ _ _) (Ev.one (fun k => by rw [au.j0]) ?_))), Ev.bnd b3 (Ev.pos rfl (Ev.bnd (impl_within_ev _ _ _) (Ev.one (fun k => by rw [aq.j0]) ?_)))⟩
   ·exact Ev.neg (by rw [decide_eq_true h]; decide) r1
   ·rw [w64_succ q (by omega)]; exact Ev.neg (by rw [decide_eq_true h]; decide) r2
  ·refine ⟨-1, Ev.bnd b2 (Ev.pos rfl (Ev.bnd (spec_l1In_ev _ _ _) (Ev.one (fun k => by rw [au.j0]) ?_))), Ev.bnd b3 (Ev.pos rfl (Ev.bnd (impl_within_ev _ _ _) (Ev.one (fun k => by rw [aq.j0]) ?_)))⟩
   ·exact Ev.pos (by rw [decide_eq_false h]; decide) (Ev.now _)
   ·exact Ev.pos (by rw [decide_eq_false h]; decide) (Ev.now _)
theorem impl_dist_ev (a b : List Int) (hl : a.length ≤ 1048576) (hl' : b.length ≤ 1048576) :
  Ev (fun k => aW.f k a b) (if a.length = b.length ∧ allIn a 0 1000000 = true ∧ allIn b 0 1000000 = true then dst a b else -1) := by
 unfold aW.f; by_cases h : a.length = b.length
 ·refine Ev.pos (by omega) (Ev.bnd (impl_allWithin_ev a 0 1000000 (by omega)) ?_); by_cases ga : allIn a 0 1000000 = true
  ·refine Ev.pos ga (Ev.bnd (impl_allWithin_ev b 0 1000000 (by omega)) ?_); by_cases gb : allIn b 0 1000000 = true
   ·rw [if_pos ⟨h, ga, gb⟩]; exact Ev.pos gb (Ev.bnd (impl_apart_ev a b h hl ((allIn_iff _ _ _).1 ga) ((allIn_iff _ _ _).1 gb)) (Ev.now _))
   ·rw [if_neg (fun g => gb g.2.2)]; exact Ev.neg gb (Ev.now _)
  ·rw [if_neg (fun g => ga g.2.1)]; exact Ev.neg ga (Ev.now _)
 ·rw [if_neg (fun g => h g.1)]; exact Ev.neg (by omega) (Ev.now _)
def irrS (g : List Int) (x : Int) : Prop := 1 ≤ x ∧ Sums g x ∧ ∀ a b, 1 ≤ a → 1 ≤ b → Sums g a → Sums g b → a + b ≠ x
theorem irr_mem (g : List Int) (hp : ∀ x ∈ g, 1 ≤ x) (x : Int) (h : irrS g x) : x ∈ g := by
 obtain ⟨y, hy, hle, hs⟩ := h.2.1.cut hp (by have := h.1; omega); by_cases e : x = y
 ·rw [e]; exact hy
 ·exact absurd (show y + (x - y) = x by omega) (h.2.2 y (x - y) (hp y hy) (by omega) (Sums.one hy) hs)
theorem mem_take (g : List Int) (hu : asc g) (k : Nat) (hk : k < g.length) (y : Int) (hy : y ∈ g) (hl : y < g[k]) : y ∈ g.take k := by
 obtain ⟨j, hj, rfl⟩ := List.getElem_of_mem hy
 have hjk : j < k := Classical.byContradiction fun hn => by
  by_cases e : j = k
  ·subst e; omega
  ·have := List.pairwise_iff_getElem.1 hu k j hk hj (by omega); omega
 exact List.mem_iff_getElem.2 ⟨j, by rw [List.length_take]; omega, List.getElem_take ..⟩
theorem sums_take (g : List Int) (hp : ∀ x ∈ g, 1 ≤ x) (hu : asc g) (k : Nat) (hk : k < g.length) : ∀ (q : Nat) (a : Int), a ≤ (q : Int) → Sums g a → a < g[k] → Sums (g.take k) a := by
 intro q
 induction q with
 | zero => intro a ha hs _; have := hs.nonneg hp; rw [show a = 0 from by omega]; exact Sums.zero _
 | succ q ih =>
  intro a ha hs hl; by_cases h0 : a = 0
  ·rw [h0]; exact Sums.zero _
  obtain ⟨y, hy, hle, hc⟩ := hs.cut hp h0; have hy1 := hp y hy; have h1 := ih (a - y) (by omega) hc (by omega); have := h1.add (mem_take g hu k hk y hy (by omega)); rwa [show a - y + y = a from by omega] at this
theorem min_irr (l : List Int) (hp : ∀ x ∈ l, 1 ≤ x) (hu : asc l) (y : Int) : y ∈ minL l ↔ irrS l y := by
 unfold minL; rw [List.mem_map]; constructor
 ·rintro ⟨k, hk, rfl⟩; rw [List.mem_filter, List.mem_range, keptB_iff] at hk; obtain ⟨hkl, hk⟩ := hk; rw [getD_at l k hkl]; have hm := List.getElem_mem hkl; refine ⟨hp _ hm, Sums.one hm, fun a b ha hb hsa hsb e => ?_⟩; have h1 := sums_take l hp hu k hkl a.toNat a (by omega) hsa (by omega); have h2 := sums_take l hp hu k hkl b.toNat b (by omega) hsb (by omega); rcases hk with h | h
  ·subst h; rw [List.take_zero] at h1; obtain ⟨z, hz, _⟩ := h1.cut (fun x hx => by cases hx) (by omega); cases hz
  ·rw [getD_at l k hkl, ← e] at h; exact h (h1.both h2)
 ·intro h; have hm := irr_mem l hp y h; obtain ⟨k, hk, rfl⟩ := List.getElem_of_mem hm; refine ⟨k, List.mem_filter.2 ⟨List.mem_range.2 hk, (keptB_iff l k).2 ?_⟩, getD_at l k hk⟩; by_cases h0 : k = 0
  ·exact .inl h0
  refine .inr fun hs => ?_; rw [getD_at l k hk] at hs; obtain ⟨z, hz, hle, hc⟩ := hs.cut (fun x hx => hp x (List.mem_of_mem_take hx)) (by have := hp _ hm; omega); obtain ⟨j, hj, rfl⟩ := List.getElem_of_mem hz; rw [List.length_take] at hj; rw [List.getElem_take] at hle hc; have hlt := List.pairwise_iff_getElem.1 hu j k (by omega) hk (by omega); have hjm := List.getElem_mem (show j < l.length by omega); exact h.2.2 l[j] (l[k] - l[j]) (hp _ hjm) (by omega) (Sums.one hjm) (Sums.mono (fun x hx => List.mem_of_mem_take hx) hc) (by omega)
theorem sg_irr (g : List Int) (hS : SG g) (y : Int) : y ∈ g ↔ irrS g y := by have := min_irr g (fun x hx => (hS.rng x hx).1) hS.up y; rwa [(minL_iff g).2 hS.free] at this
theorem dot_sums : ∀ (g z : List Int), (∀ x ∈ z, 0 ≤ x) → Sums g (dot z g)
 | g, [], _ => by rw [dot_nil]; exact Sums.zero g
 | [], _ :: _, _ => by exact Sums.zero []
 | y :: g, x :: z, h => by
  have ih := dot_sums g z (fun u hu => h u (List.mem_cons_of_mem _ hu))
  have hx := h x (List.mem_cons_self ..)
  rw [dot_cons]
  obtain ⟨m, rfl⟩ : ∃ m : Nat, x = (m : Int) := ⟨x.toNat, by omega⟩
  obtain ⟨l, h1, h2⟩ := ih
  refine ⟨List.replicate m y ++ l, fun u hu => ?_, ?_⟩
  ·rcases List.mem_append.1 hu with hu | hu
   ·rw [(List.mem_replicate.1 hu).2]; exact List.mem_cons_self ..
   ·exact List.mem_cons_of_mem _ (h1 u hu)
  ·rw [List.sum_append, h2]
   congr 1
   clear h hx h1 h2
   induction m with
   | zero => simp
   | succ m ih => rw [List.replicate_succ, List.sum_cons, ih, Int.natCast_add, Int.add_mul]; omega
theorem dot_ge : ∀ (z g : List Int), z.length = g.length → (∀ x ∈ z, 0 ≤ x) → (∀ x ∈ g, 1 ≤ x) → ∀ x ∈ z, x ≤ dot z g
 | [], _, _, _, _, x, hx => by cases hx
 | _ :: _, [], h, _, _, _, _ => by cases h
 | u :: z, v :: g, hl, h0, h1, x, hx => by
  have ih := dot_ge z g (by simpa using hl) (fun y hy => h0 y (List.mem_cons_of_mem _ hy)) (fun y hy => h1 y (List.mem_cons_of_mem _ hy))
  have hz := dot_nonneg z g (fun y hy => h0 y (List.mem_cons_of_mem _ hy)) (fun y hy => by have := h1 y (List.mem_cons_of_mem _ hy); omega)
  have hu := h0 u (List.mem_cons_self ..)
  have hv := h1 v (List.mem_cons_self ..)
  have hm : u * 1 ≤ u * v := Int.mul_le_mul_of_nonneg_left hv hu
  rw [dot_cons]
  rcases List.mem_cons.1 hx with rfl | hx
  ·omega
  ·have := ih x hx
   omega
def sb : List Int → List Int → List Int
 | x :: a, y :: b => (x - min x y) :: sb a b
 | _, _ => []
def mn2 : List Int → List Int → List Int
 | x :: a, y :: b => min x y :: mn2 a b
 | _, _ => []
theorem mn2_comm : ∀ a b : List Int, mn2 a b = mn2 b a
 | [], [] => rfl
 | [], _ :: _ => rfl
 | _ :: _, [] => rfl
 | x :: a, y :: b => by show min x y :: mn2 a b = min y x :: mn2 b a; rw [mn2_comm a b, Int.min_comm]
theorem sb_facts : ∀ (a b g : List Int), a.length = b.length → a.length = g.length → (sb a b).length = g.length ∧ (∀ x ∈ sb a b, 0 ≤ x) ∧ (sb a b).sum = exc a b ∧ (sb a b).sum + (mn2 a b).sum = a.sum ∧ dot (sb a b) g + dot (mn2 a b) g = dot a g
 | [], [], [], _, _ => ⟨rfl, (fun x hx => by cases hx), rfl, rfl, rfl⟩
 | [], _ :: _, _, h, _ => by simp at h
 | _ :: _, [], _, h, _ => by simp at h
 | [], [], _ :: _, _, h => by simp at h
 | _ :: _, _ :: _, [], _, h => by simp at h
 | x :: a, y :: b, z :: g, h1, h2 => by
  obtain ⟨i1, i2, i3, i4, i5⟩ := sb_facts a b g (by simpa using h1) (by simpa using h2)
  refine ⟨by show (sb a b).length + 1 = g.length + 1; rw [i1], fun u hu => ?_, ?_, ?_, ?_⟩
  ·rcases List.mem_cons.1 hu with rfl | hu
   ·omega
   ·exact i2 u hu
  ·show ((x - min x y) :: sb a b).sum = _
   rw [List.sum_cons, i3, exc_cons]
  ·show ((x - min x y) :: sb a b).sum + (min x y :: mn2 a b).sum = _
   rw [List.sum_cons, List.sum_cons, List.sum_cons]
   omega
  ·show dot ((x - min x y) :: sb a b) (z :: g) + dot (min x y :: mn2 a b) (z :: g) = _
   rw [dot_cons, dot_cons, dot_cons, Int.sub_mul]
   omega
theorem dec_one : ∀ (z g : List Int), z.length = g.length → (∀ x ∈ z, 0 ≤ x) → 1 ≤ z.sum → ∃ u ∈ g, ∃ z' : List Int, z'.length = g.length ∧ (∀ x ∈ z', 0 ≤ x) ∧ z'.sum = z.sum - 1 ∧ dot z g = u + dot z' g
 | [], _, _, _, h => by simp at h
 | _ :: _, [], h, _, _ => by simp at h
 | x :: z, y :: g, hl, h0, h1 => by
  have hx := h0 x (List.mem_cons_self ..)
  have hz := fun w hw => h0 w (List.mem_cons_of_mem _ hw)
  by_cases c : 1 ≤ x
  ·refine ⟨y, List.mem_cons_self .., (x - 1) :: z, by simpa using hl, fun w hw => ?_, ?_, ?_⟩
   ·rcases List.mem_cons.1 hw with rfl | hw
    ·omega
    ·exact hz w hw
   ·rw [List.sum_cons, List.sum_cons]; omega
   ·rw [dot_cons, dot_cons, Int.sub_mul]; omega
  ·obtain rfl : x = 0 := by omega
   rw [List.sum_cons] at h1
   obtain ⟨u, hu, z', i1, i2, i3, i4⟩ := dec_one z g (by simpa using hl) hz (by omega)
   refine ⟨u, List.mem_cons_of_mem _ hu, 0 :: z', by simpa using i1, fun w hw => ?_, ?_, ?_⟩
   ·rcases List.mem_cons.1 hw with rfl | hw
    ·omega
    ·exact i2 w hw
   ·rw [List.sum_cons, List.sum_cons]; omega
   ·rw [dot_cons, dot_cons, i4]; omega
theorem gap_dist (g : List Int) (hS : SG g) (x y : List Int) (hx : x.length = g.length) (hy : y.length = g.length) (hx0 : ∀ u ∈ x, 0 ≤ u) (hy0 : ∀ u ∈ y, 0 ≤ u) (hd : dot x g = dot y g) (hlt : x.sum < y.sum) : 2 + (y.sum - x.sum) ≤ dst x y := by
 obtain ⟨a1, a2, a3, a4, a5⟩ := sb_facts x y g (by omega) hx; obtain ⟨b1, b2, b3, b4, b5⟩ := sb_facts y x g (by omega) hy; rw [mn2_comm y x] at b4 b5; have hdd : dot (sb x y) g = dot (sb y x) g := (by omega); have sa := sum_dot _ _ a1 a2 hS.rng; have sb' := sum_dot _ _ b1 b2 hS.rng
 have key : 2 ≤ (sb x y).sum := by
  refine Classical.byContradiction fun hn => ?_; by_cases c0 : (sb x y).sum = 0
  ·rw [c0] at sa; omega
  ·have c1 : (sb x y).sum = 1 := (by omega); obtain ⟨u, hu, z, i1, i2, i3, i4⟩ := dec_one _ g a1 a2 (by omega); have sz := sum_dot _ _ i1 i2 hS.rng; rw [i3, c1] at sz; have eu : dot (sb x y) g = u := (by omega); obtain ⟨v, hv, z', j1, j2, j3, j4⟩ := dec_one _ g b1 b2 (by omega); have sz' := sum_dot _ _ j1 j2 hS.rng; obtain ⟨_, _, hir⟩ := (sg_irr g hS u).1 hu; exact hir v (dot z' g) (hS.rng v hv).1 (by omega) (Sums.one hv) (dot_sums g z' j2) (by omega)
 unfold dst; omega
theorem gap_conn (g : List Int) (hS : SG g) (n : Nat) (c : Int) (all : List (List Int)) (hall : all = facL g (n : Int)) (hcon : ∀ k, k < all.length → Conn (fun i j => dst (rd_L2 all (i : Int)) (rd_L2 all (j : Int))) all.length c 0 k)
  (a b : Int) (hab : a < b) (ha : ∃ z ∈ all, z.sum = a) (hb : ∃ z ∈ all, z.sum = b) (hno : ∀ z ∈ all, z.sum ≤ a ∨ b ≤ z.sum) : 2 + (b - a) ≤ c := by
 refine Classical.byContradiction fun hn => ?_; have hrow : ∀ i, i < all.length → (rd_L2 all (i : Int)).length = g.length ∧ (∀ x ∈ rd_L2 all (i : Int), 0 ≤ x) ∧ dot (rd_L2 all (i : Int)) g = (n : Int) ∧ ((rd_L2 all (i : Int)).sum ≤ a ∨ b ≤ (rd_L2 all (i : Int)).sum) := fun i hi => (by rw [rd_L2_at all i hi]; have hm := List.getElem_mem hi; obtain ⟨h1, h2, h3⟩ := (facL_mem g n (all[i]) (fun x hx => (hS.rng x hx).1)).1 (by rw [← hall]; exact hm); exact ⟨h1, h2, h3, hno _ hm⟩)
 have step : ∀ i j, i < all.length → j < all.length → dst (rd_L2 all (i : Int)) (rd_L2 all (j : Int)) ≤ c → ((rd_L2 all (i : Int)).sum ≤ a ↔ (rd_L2 all (j : Int)).sum ≤ a) := fun i j hi hj hd => by
  obtain ⟨i1, i2, i3, i4⟩ := hrow i hi; obtain ⟨j1, j2, j3, j4⟩ := hrow j hj; constructor
  ·intro h; refine Classical.byContradiction fun hq => ?_; have := gap_dist g hS _ _ i1 j1 i2 j2 (by omega) (show (rd_L2 all (i : Int)).sum < (rd_L2 all (j : Int)).sum by omega); omega
  ·intro h; refine Classical.byContradiction fun hq => ?_; have := gap_dist g hS _ _ j1 i1 j2 i2 (by omega) (show (rd_L2 all (j : Int)).sum < (rd_L2 all (i : Int)).sum by omega); have hc : dst (rd_L2 all (j : Int)) (rd_L2 all (i : Int)) = dst (rd_L2 all (i : Int)) (rd_L2 all (j : Int)) := (by unfold dst; omega); omega
 have same : ∀ k, k < all.length → ((rd_L2 all ((0 : Nat) : Int)).sum ≤ a ↔ (rd_L2 all (k : Int)).sum ≤ a) := fun k hk =>
  hcon k hk (fun k => (rd_L2 all ((0 : Nat) : Int)).sum ≤ a ↔ (rd_L2 all (k : Int)).sum ≤ a) Iff.rfl (fun i j hi hj hp hd => hp.trans (step i j hi hj hd))
 obtain ⟨z, hz, ez⟩ := ha; obtain ⟨w, hw, ew⟩ := hb; obtain ⟨p, hp, rfl⟩ := List.getElem_of_mem hz; obtain ⟨q, hq, rfl⟩ := List.getElem_of_mem hw; have h1 := same p hp; have h2 := same q hq; rw [rd_L2_at all p hp] at h1; rw [rd_L2_at all q hq] at h2; have h3 := h2.1 (h1.2 (by omega)); omega
theorem cat_more (g : List Int) (hlen : g.length ≤ 1048576) (n : Int) : ∃ (b : Bool) (r : Int), (b = true ↔ SG g) ∧ (facS b g n ≠ [] → Ev (fun k => ac.f k (facS b g n)) r) ∧ (∀ k, k < (facS b g n).length → Conn (fun i j => dst (rd_L2 (facS b g n) (i : Int)) (rd_L2 (facS b g n) (j : Int))) (facS b g n).length r 0 k) ∧ -1 ≤ r ∧ r ≤ 1000000000000 ∧ Ev (fun k => aV.f k g n) r ∧ Ev (fun k => aG.f k g n) r := by
 obtain ⟨r, r1, r2, r3, r4⟩ := catenary_both g hlen n; obtain ⟨b, b1, b2, b3⟩ := sg_both g hlen; obtain ⟨c, c1, c2, c3⟩ := fac_both g hlen n; obtain rfl := bool_same c1 b1; refine ⟨c, r, b1, ?_⟩; by_cases hc : c = true ∧ (0 ≤ n ∧ n ≤ 100)
 ·obtain ⟨hcb, h⟩ := hc; have hS := b1.1 hcb; obtain ⟨q, rfl⟩ : ∃ q : Nat, n = (q : Int) := ⟨n.toNat, by omega⟩; have ef : facS c g (q : Int) = facL g (q : Int) := (by unfold facS; rw [if_pos ⟨hcb, h⟩]); rw [ef] at c3 ⊢; have hF := fac_fine g hS q (by omega); have hNb := facL_room g hS g (fun x hx => hx) (Nat.le_refl _) q (by omega); have h12 := hS.len2; have hat : ∀ i, i < (facL g (q : Int)).length → (rd_L2 (facL g (q : Int)) (i : Int)).length = g.length ∧ ∀ x ∈ rd_L2 (facL g (q : Int)) (i : Int), 0 ≤ x ∧ x ≤ 1000000 := fun i hi => (by rw [rd_L2_at _ i hi]; exact hF _ (List.getElem_mem hi))
  obtain ⟨m, m1, m2, m3, m4, m5⟩ := chained_ev (fun i j => dst (rd_L2 (facL g (q : Int)) (i : Int)) (rd_L2 (facL g (q : Int)) (j : Int))) _ (facL g (q : Int)) rfl hNb (fun i j hi hj => by
    have := exc_le _ _ (hat i hi).2 (hat j hj).2 (by have := (hat i hi).1; omega)
    unfold dst
    omega) (fun i j hi hj => by
    have a1 := exc_le _ _ (hat i hi).2 (hat j hj).2 (by have := (hat i hi).1; omega)
    have a2 := exc_le _ _ (hat j hj).2 (hat i hi).2 (by have := (hat j hj).1; omega)
    unfold dst
    omega) (fun i j hi hj => impl_apart_ev _ _ (by have := hat i hi; have := hat j hj; omega) (by have := hat i hi; omega) (hat i hi).2 (hat j hj).2)
  have er : r = m := (by refine Ev.uniq r4 ?_; unfold aG.f; rw [hcb] at b3; refine Ev.bnd b3 (Ev.pos rfl (Ev.bnd (impl_within_ev _ _ _) (Ev.one (fun k => by rw [aG.j0]) ?_))); exact Ev.neg (by rw [decide_eq_true h]; decide) (Ev.bnd c3 (Ev.bnd m5 (Ev.now _)))); subst er; refine ⟨fun _ => m5, ?_, r1, r2, r3, r4⟩; by_cases h1 : 2 ≤ (facL g (q : Int)).length
  ·exact (m1 h1).1
  ·intro k hk; obtain rfl : k = 0 := (by omega); exact Conn.refl _ _ _ _
 ·have ef : facS c g n = [] := (by unfold facS; rw [if_neg hc]); rw [ef]; exact ⟨fun h => absurd rfl h, fun k hk => by simp at hk, r1, r2, r3, r4⟩
theorem impl_ValueOf_l0 (l g : List Int) (hl : l.length = g.length) (h12 : g.length ≤ 12) (hg : ∀ x ∈ g, 1 ≤ x ∧ x ≤ 60) (hin : ∀ x ∈ l, 0 ≤ x ∧ x ≤ 1000000) :
  ∀ (d i : Nat) (s : Int), i + d = l.length → 0 ≤ s → s ≤ 60000000 * (i : Int) → Ev (fun k => aN.l0 k s l (l.length : Int) (i : Int) g) (s + dot (l.drop i) (g.drop i)) := by
 intro d
 induction d with
 | zero => intro i s hi h0 h1; rw [List.drop_eq_nil_of_le (show l.length ≤ i by omega), dot_nil, Int.add_zero]; refine Ev.one (fun k => by rw [aN.l0]) ?_; exact Ev.neg (by omega) (Ev.now _)
 | succ d ih => intro i s hi h0 h1; rw [List.drop_eq_getElem_cons (show i < l.length by omega), List.drop_eq_getElem_cons (show i < g.length by omega), dot_cons]; refine Ev.one (fun k => by rw [aN.l0]) ?_; rw [rd_at l i (by omega), rd_at g i (by omega), w64_succ i (by omega)]; have hm := mul_le60 (hin l[i] (List.getElem_mem _)) (hg g[i] (List.getElem_mem _)); rw [w64_of (x := l[i] * g[i]) (by omega) (by omega), w64_of (x := s + l[i] * g[i]) (by omega) (by omega), ← Int.add_assoc]; exact Ev.pos (by omega) (Ev.pos (by omega) (Ev.pos (by omega) (Ev.pos (by omega) (ih (i + 1) _ (by omega) (by omega) (by omega)))))
def valS (b : Bool) (g l : List Int) : Int := if b = true ∧ l.length = g.length ∧ allIn l 0 1000000 = true then dot l g else -1
theorem implval_ev (g l : List Int) (hlen : g.length ≤ 1048576) (hl : l.length ≤ 1048576) : ∃ b, (b = true ↔ SG g) ∧ Ev (fun k => aN.f k g l) (valS b g l) := by
 obtain ⟨b, b1, b2, b3⟩ := sg_both g hlen; refine ⟨b, b1, ?_⟩; unfold aN.f valS
 cases b with
 | false => refine Ev.bnd b3 (Ev.neg (by decide) (Ev.one (fun k => by rw [aN.j0]) ?_)); exact Ev.pos rfl (Ev.now _)
 | true =>
  have hS := b1.1 rfl; by_cases h1 : l.length = g.length
  ·have h12 := hS.len2; refine Ev.bnd b3 (Ev.pos rfl (Ev.pos (by omega) (Ev.bnd (impl_allWithin_ev l 0 1000000 (by omega)) (Ev.one (fun k => by rw [aN.j0]) ?_)))); by_cases h2 : allIn l 0 1000000 = true
   ·rw [if_pos ⟨rfl, h1, h2⟩, h2]; have h := impl_ValueOf_l0 l g h1 h12 hS.rng ((allIn_iff _ _ _).1 h2) l.length 0 0 (by omega) (by omega) (by omega); rw [Int.zero_add] at h; exact Ev.neg (by decide) h
   ·rw [if_neg (fun e => h2 e.2.2), Bool.eq_false_iff.2 h2]; exact Ev.pos rfl (Ev.now _)
  ·rw [if_neg (fun e => h1 e.2.1)]; refine Ev.bnd b3 (Ev.pos rfl (Ev.neg (by omega) (Ev.one (fun k => by rw [aN.j0]) ?_))); exact Ev.pos rfl (Ev.now _)
theorem implisfac_ev (g : List Int) (n : Int) (l : List Int) (hg : g.length ≤ 1048576) (hl : l.length ≤ 1048576) : ∃ b, (b = true ↔ SG g) ∧ Ev (fun k => bB.f k g n l) (decide (0 ≤ valS b g l) && (valS b g l == n)) := by
 obtain ⟨b, b1, h2⟩ := implval_ev g l hg hl; refine ⟨b, b1, ?_⟩; unfold bB.f; generalize valS b g l = v at h2; by_cases c2 : v ≥ 0
 ·rw [decide_eq_true (show 0 ≤ v from c2), Bool.true_and]; exact Ev.bnd h2 (Ev.pos c2 (Ev.now _))
 ·rw [decide_eq_false (show ¬ 0 ≤ v from c2), Bool.false_and]; exact Ev.bnd h2 (Ev.neg c2 (Ev.now _))
end Go.Proofs.Ytbbehmbpoilffaa.Pure
