/- Plain lemmas (mNumeratorOf, mSeriesFrom, mIsPalindrome, mMultiplyLists, conv, total, euler2, symm, plaw, draw, drawsg, draw2, series): no program, no memory. -/
import Derived.Test.YtbbehmbpoilffaaC0
import Derived.Test.YtbbehmbpoilffaaC1
import Derived.Test.YtbbehmbpoilffaaC10
import Derived.Test.YtbbehmbpoilffaaC11
import Derived.Test.YtbbehmbpoilffaaC3
import Derived.Test.YtbbehmbpoilffaaC4
import Derived.Test.YtbbehmbpoilffaaC5
import Derived.Test.YtbbehmbpoilffaaC6
import Derived.Test.YtbbehmbpoilffaaC7
import Derived.Test.YtbbehmbpoilffaaC8
import Derived.Test.YtbbehmbpoilffaaC9
import Derived.Test.YtbbehmbpoilffaaBbase
namespace Go.Proofs.Ytbbehmbpoilffaa.Pure
open Go.RowKit Go.Proofs.Ytbbehmbpoilffaa.C Go.Proofs.YtbbehmbpoilffaaW.PrintWords Go.Proofs.YtbbehmbpoilffaaW.PrintLast Go.Proofs.YtbbehmbpoilffaaW.PrintMore
set_option linter.unusedVariables false
set_option linter.unusedSimpArgs false
/-- The coefficient of a number. -/
noncomputable def numF (g : List Int) (n : Nat) : Int := (if elB g (n : Int) = true then 1 else 0) - (if n ≠ 0 ∧ elB g ((n : Int) - 1) = true then 1 else 0)
noncomputable def numL (g : List Int) (m : Nat) : List Int := (List.range m).map (numF g)
theorem numL_succ (g : List Int) (m : Nat) : numL g (m + 1) = numL g m ++ [numF g m] := by
 unfold numL
 rw [List.range_succ, List.map_append, List.map_cons, List.map_nil]
theorem numL_len (g : List Int) (m : Nat) : (numL g m).length = m := by simp [numL]
theorem l15Has_ev (g : List Int) (h : SG g) (n : Int) : Ev (fun k => spec_l15Has.f k g n) (elB g n) := by
 unfold spec_l15Has.f
 by_cases h0 : n = 0
 ·rw [h0, show elB g 0 = true from (elB_iff g 0).2 (Sums.zero g)]
  exact Ev.pos rfl (Ev.now _)
 ·obtain ⟨d, d1, d2⟩ := spec_l3Has_ev g h n
  rw [← elB_of (d1.trans ⟨fun e => e.1, fun e => ⟨e, by omega⟩⟩)]
  exact Ev.neg h0 (Ev.bnd d2 (Ev.now _))
theorem l1Bit_ev (b : Bool) : Ev (fun _ => spec_l1Bit.f b) (if b = true then 1 else 0) := by
 refine Ev.const ?_
 unfold spec_l1Bit.f
 cases b <;> rfl
theorem elB_neg1 (g : List Int) (hg : ∀ x ∈ g, 1 ≤ x) : elB g (-1) = false := by
 cases h : elB g (-1) with
 | false => rfl
 | true => have := ((elB_iff g _).1 h).nonneg hg; omega
theorem num_spec_l0 (g : List Int) (hS : SG g) (C : Nat) (hC : C ≤ 200) (hc : Ev (fun k => spec_ConductorOf.f k g) (C : Int)) : ∀ (d i : Nat), i + d = C + 1 → Ev (fun k => spec_NumeratorOf.l0 k (numL g i) (i : Int) g) (numL g (C + 1)) := by
 intro d
 induction d with
 | zero =>
  intro i hi
  obtain rfl : i = C + 1 := by omega
  refine Ev.one (fun k => by rw [spec_NumeratorOf.l0]) ?_
  exact Ev.bnd hc (Ev.neg (by omega) (Ev.now _))
 | succ d ih =>
  intro i hi
  have ih := ih (i + 1) (by omega)
  rw [numL_succ] at ih
  refine Ev.one (fun k => by rw [spec_NumeratorOf.l0]) ?_
  have e1 : wrap64 ((i : Int) - 1) = (i : Int) - 1 := w64_of (by omega) (by omega)
  rw [e1, w64_succ i (by omega)]
  refine Ev.bnd hc (Ev.pos (by omega) (Ev.bnd (l15Has_ev g hS _) (Ev.bnd (l1Bit_ev _) (Ev.bnd (l15Has_ev g hS _) (Ev.bnd (l1Bit_ev _) (Ev.pos (by rw [numL_len]; omega) ?_))))))
  have e2 : wrap64 ((if elB g (i : Int) = true then 1 else 0) - (if elB g ((i : Int) - 1) = true then 1 else 0)) = numF g i := by
   unfold numF
   by_cases h0 : i = 0
   ·subst h0
    rw [show (((0 : Nat) : Int) - 1) = -1 from by omega, elB_neg1 g (fun x hx => (hS.rng x hx).1)]
    rw [w64_of (by split <;> simp) (by split <;> simp)]
    simp
   ·have : (i ≠ 0 ∧ elB g ((i : Int) - 1) = true) ↔ elB g ((i : Int) - 1) = true := ⟨fun h => h.2, fun h => ⟨h0, h⟩⟩
    rw [w64_of (by split <;> split <;> omega) (by split <;> split <;> omega)]
    simp only [this]
  rw [e2]
  exact ih
theorem num_impl_l0 (g : List Int) (C : Nat) (hC : C ≤ 200) : ∀ (d i : Nat), i + d = C + 1 →
  Ev (fun k => impl_NumeratorOf.l0 k (tblL g 201) (numL g i) (decide (i ≠ 0) && elB g ((i : Int) - 1)) ((C + 1 : Nat) : Int) (i : Int)) (numL g (C + 1)) := by
 intro d
 induction d with
 | zero =>
  intro i hi
  obtain rfl : i = C + 1 := by omega
  refine Ev.one (fun k => by rw [impl_NumeratorOf.l0]) ?_
  exact Ev.neg (by omega) (Ev.now _)
 | succ d ih =>
  intro i hi
  have ih := ih (i + 1) (by omega)
  have ht := tblL_length g 201
  have hn := numL_len g i
  rw [numL_succ] at ih
  have e3 : (decide (i + 1 ≠ 0) && elB g (((i + 1 : Nat) : Int) - 1)) = elB g (i : Int) := by
   rw [show (((i + 1 : Nat) : Int) - 1) = (i : Int) from by omega]
   simp
  rw [e3] at ih
  refine Ev.one (fun k => by rw [impl_NumeratorOf.l0]) ?_
  rw [rdOf_tblL g 201 i (by omega)]
  refine Ev.pos (by omega) (Ev.pos (by omega) (Ev.pos (by omega) ?_))
  have e4 : (i ≠ 0 ∧ elB g ((i : Int) - 1) = true) ↔ (decide (i ≠ 0) && elB g ((i : Int) - 1)) = true := by simp
  unfold numF at ih
  simp only [e4] at ih
  generalize (decide (i ≠ 0) && elB g ((i : Int) - 1)) = last at ih ⊢
  cases hb : elB g (i : Int) with
  | true =>
   rw [hb] at ih
   refine Ev.pos rfl (Ev.one (fun k => by rw [impl_NumeratorOf.j1]) ?_)
   rw [rdOf_tblL g 201 i (by omega), hb, w64_succ i (by omega)]
   cases last with
   | true => exact Ev.neg (by decide) (Ev.pos rfl (Ev.pos (by omega) (Ev.pos (by omega) (Ev.pos rfl (Ev.pos (by omega) ih)))))
   | false => exact Ev.pos rfl (Ev.pos (by omega) (Ev.pos (by omega) (Ev.pos (by omega) ih)))
  | false =>
   rw [hb] at ih
   refine Ev.neg (by decide) (Ev.one (fun k => by rw [impl_NumeratorOf.j1]) ?_)
   rw [rdOf_tblL g 201 i (by omega), hb, w64_succ i (by omega)]
   cases last with
   | true => exact Ev.neg (by decide) (Ev.pos rfl (Ev.pos (by omega) (Ev.pos (by omega) (Ev.neg (by decide) (Ev.pos (by omega) ih)))))
   | false => exact Ev.neg (by decide) (Ev.neg (by decide) (Ev.pos (by omega) (Ev.pos (by omega) (Ev.pos (by omega) ih))))
theorem num_both (g : List Int) (hlen : g.length ≤ 1048576) : ∃ r : List Int, r.length ≤ 1000 ∧ Ev (fun k => spec_NumeratorOf.f k g) r ∧ Ev (fun k => impl_NumeratorOf.f k g) r := by
 obtain ⟨b, b1, b2, b3⟩ := sg_both g hlen
 obtain ⟨c, _, c1, c2⟩ := cond_both g hlen
 have hb := lastS_gaps c g
 obtain ⟨C, hC⟩ : ∃ C : Nat, lastS (gapsS c g) + 1 = (C : Int) := ⟨(lastS (gapsS c g) + 1).toNat, by omega⟩
 rw [hC] at c1 c2
 unfold spec_NumeratorOf.f impl_NumeratorOf.f
 cases b with
 | false => exact ⟨[], by simp, Ev.some (Ev.bnd b2 (Ev.neg (by decide) (Ev.now _))), Ev.bnd b3 (Ev.neg (by decide) (Ev.now _))⟩
 | true =>
  have hS := b1.1 rfl
  refine ⟨numL g (C + 1), by rw [numL_len]; omega, Ev.some (Ev.bnd b2 (Ev.pos rfl (num_spec_l0 g hS C (by omega) c1 (C + 1) 0 (by omega)))), Ev.bnd b3 (Ev.pos rfl (Ev.bnd (impl_table_ev g hS 200 (by omega)) (Ev.bnd c2 ?_)))⟩
  rw [w64_succ C (by omega)]
  exact num_impl_l0 g C (by omega) (C + 1) 0 (by omega)
theorem series_both (l : List Int) (n : Nat) (hl : l.length ≤ 1048576) (hn : n ≤ 1000) : ∀ (d i : Nat) (s : Int) (xs : List Int), i + d = n → xs.length = i →
  ∃ r, r.length = n ∧ Ev (fun k => spec_SeriesFrom.l0 k l (n : Int) xs s (i : Int)) r ∧ Ev (fun k => impl_SeriesFrom.l0 k l xs s (n : Int) (i : Int)) r := by
 intro d
 induction d with
 | zero =>
  intro i s xs hi hx
  refine ⟨xs, by omega, Ev.one (fun k => by rw [spec_SeriesFrom.l0]) ?_, Ev.one (fun k => by rw [impl_SeriesFrom.l0]) ?_⟩
  ·exact Ev.neg (by omega) (Ev.now _)
  ·exact Ev.neg (by omega) (Ev.now _)
 | succ d ih =>
  intro i s xs hi hx
  by_cases h : (i : Int) < (l.length : Int)
  ·obtain ⟨r, h0, h1, h2⟩ := ih (i + 1) (wrap64 (s + rd l (i : Int))) (xs ++ [wrap64 (s + rd l (i : Int))]) (by omega) (by rw [List.length_append]; simp; omega)
   refine ⟨r, h0, Ev.one (fun k => by rw [spec_SeriesFrom.l0]) ?_, Ev.one (fun k => by rw [impl_SeriesFrom.l0]) ?_⟩
   ·rw [w64_succ i (by omega)]
    exact Ev.pos (by omega) (Ev.pos h (Ev.pos (by omega) (Ev.pos (by omega) h1)))
   ·rw [w64_succ i (by omega)]
    exact Ev.pos (by omega) (Ev.pos h (Ev.pos (by omega) (Ev.pos (by omega) h2)))
  ·obtain ⟨r, h0, h1, h2⟩ := ih (i + 1) s (xs ++ [s]) (by omega) (by rw [List.length_append]; simp; omega)
   refine ⟨r, h0, Ev.one (fun k => by rw [spec_SeriesFrom.l0]) ?_, Ev.one (fun k => by rw [impl_SeriesFrom.l0]) ?_⟩
   ·rw [w64_succ i (by omega)]
    exact Ev.pos (by omega) (Ev.neg h (Ev.pos (by omega) h1))
   ·rw [w64_succ i (by omega)]
    exact Ev.pos (by omega) (Ev.neg h (Ev.pos (by omega) h2))
theorem series_f (l : List Int) (n : Int) (hl : l.length ≤ 1048576) : ∃ r, r.length ≤ 1000 ∧ Ev (fun k => spec_SeriesFrom.f k l n) r ∧ Ev (fun k => impl_SeriesFrom.f k l n) r := by
 by_cases h : 0 ≤ n ∧ n ≤ 1000
 ·obtain ⟨m, rfl⟩ : ∃ m : Nat, n = (m : Int) := ⟨n.toNat, by omega⟩
  obtain ⟨r, h0, h1, h2⟩ := series_both l m hl (by omega) m 0 0 [] (by omega) rfl
  refine ⟨r, by omega, ?_, ?_⟩
  ·unfold spec_SeriesFrom.f
   simp only [spec_l1In_eq, Option.bind_some]
   exact Ev.pos (decide_eq_true h) h1
  ·unfold impl_SeriesFrom.f
   simp only [impl_within_eq, Option.bind_some]
   exact Ev.pos (decide_eq_true h) h2
 ·refine ⟨[], by simp, ?_, ?_⟩
  ·unfold spec_SeriesFrom.f
   simp only [spec_l1In_eq, Option.bind_some]
   exact Ev.neg (by rw [decide_eq_false h]; decide) (Ev.now _)
  ·unfold impl_SeriesFrom.f
   simp only [impl_within_eq, Option.bind_some]
   exact Ev.neg (by rw [decide_eq_false h]; decide) (Ev.now _)
theorem pal_both (l : List Int) (hl : l.length ≤ 1048576) : ∀ (d i : Nat), i + d = l.length →
  ∃ b, Ev (fun k => spec_IsPalindrome.l0 k l (i : Int)) b ∧ Ev (fun k => impl_IsPalindrome.l0 k l (l.length : Int) (i : Int)) b := by
 intro d
 induction d with
 | zero =>
  intro i hi
  refine ⟨true, Ev.one (fun k => by rw [spec_IsPalindrome.l0]) ?_, Ev.one (fun k => by rw [impl_IsPalindrome.l0]) ?_⟩
  ·exact Ev.neg (by omega) (Ev.now _)
  ·exact Ev.neg (by omega) (Ev.now _)
 | succ d ih =>
  intro i hi
  have e1 : wrap64 ((l.length : Int) - 1) = (l.length : Int) - 1 := w64_of (by omega) (by omega)
  have e2 : wrap64 ((l.length : Int) - 1 - (i : Int)) = (l.length : Int) - 1 - (i : Int) := w64_of (by omega) (by omega)
  by_cases h : rd l (i : Int) = rd l ((l.length : Int) - 1 - (i : Int))
  ·obtain ⟨b, h1, h2⟩ := ih (i + 1) (by omega)
   refine ⟨b, Ev.one (fun k => by rw [spec_IsPalindrome.l0]) ?_, Ev.one (fun k => by rw [impl_IsPalindrome.l0]) ?_⟩
   ·rw [e1, e2, w64_succ i (by omega)]
    exact Ev.pos (by omega) (Ev.pos (by omega) (Ev.pos (by omega) (Ev.pos (by omega) (Ev.pos h h1))))
   ·rw [e1, e2, w64_succ i (by omega)]
    exact Ev.pos (by omega) (Ev.pos (by omega) (Ev.pos (by omega) (Ev.pos (by omega) (Ev.pos (by omega) (Ev.pos h h2)))))
  ·refine ⟨false, Ev.one (fun k => by rw [spec_IsPalindrome.l0]) ?_, Ev.one (fun k => by rw [impl_IsPalindrome.l0]) ?_⟩
   ·rw [e1, e2]
    exact Ev.pos (by omega) (Ev.pos (by omega) (Ev.pos (by omega) (Ev.pos (by omega) (Ev.neg h (Ev.now _)))))
   ·rw [e1, e2]
    exact Ev.pos (by omega) (Ev.pos (by omega) (Ev.pos (by omega) (Ev.pos (by omega) (Ev.pos (by omega) (Ev.neg h (Ev.now _))))))
theorem prod_both (a b : List Int) (ha : a.length ≤ 500) (hb : b.length ≤ 500) : ∀ (d i : Nat) (xs : List Int), i + d = a.length → xs.length + 1 = a.length + b.length →
  ∃ r : List Int, r.length = xs.length ∧ Ev (fun k => spec_MultiplyLists.l0 k a b xs (i : Int)) r ∧ Ev (fun k => impl_product.l0 k b xs a (a.length : Int) (i : Int)) r := by
 intro d
 induction d with
 | zero =>
  intro i xs hi hx
  refine ⟨xs, rfl, Ev.one (fun k => by rw [spec_MultiplyLists.l0]) ?_, Ev.one (fun k => by rw [impl_product.l0]) ?_⟩
  ·exact Ev.neg (by omega) (Ev.now _)
  ·exact Ev.neg (by omega) (Ev.now _)
 | succ d ih =>
  intro i xs hi hx
  have inner : ∀ (e j : Nat) (xs : List Int), j + e = b.length → xs.length + 1 = a.length + b.length →
    ∃ r : List Int, r.length = xs.length ∧ Ev (fun k => spec_MultiplyLists.l1 k a b xs (i : Int) (j : Int)) r ∧ Ev (fun k => impl_product.l1 k b xs (i : Int) (rd a (i : Int)) a (a.length : Int) (i : Int) b (b.length : Int) (j : Int)) r := by
   intro e
   induction e with
   | zero =>
    intro j xs hj hx
    obtain ⟨r, h0, h1, h2⟩ := ih (i + 1) xs (by omega) hx
    refine ⟨r, h0, Ev.one (fun k => by rw [spec_MultiplyLists.l1]) ?_, Ev.one (fun k => by rw [impl_product.l1]) ?_⟩
    ·rw [w64_succ i (by omega)]; exact Ev.neg (by omega) h1
    ·rw [w64_succ i (by omega)]; exact Ev.neg (by omega) h2
   | succ e ihe =>
    intro j xs hj hx
    have e1 : wrap64 ((i : Int) + (j : Int)) = (i : Int) + (j : Int) := w64_of (by omega) (by omega)
    obtain ⟨r, h0, h1, h2⟩ := ihe (j + 1) (xs.set ((i : Int) + (j : Int)).toNat (wrap64 (rd xs ((i : Int) + (j : Int)) + wrap64 (rd a (i : Int) * rd b (j : Int))))) (by omega) (by rw [List.length_set]; exact hx)
    rw [List.length_set] at h0
    refine ⟨r, h0, Ev.one (fun k => by rw [spec_MultiplyLists.l1]) ?_, Ev.one (fun k => by rw [impl_product.l1]) ?_⟩
    ·rw [e1, w64_succ j (by omega)]
     exact Ev.pos (by omega) (Ev.pos (by omega) (Ev.pos (by omega) (Ev.pos (by omega) (Ev.pos (by omega) (Ev.pos (by omega) h1)))))
    ·rw [e1, w64_succ j (by omega)]
     exact Ev.pos (by omega) (Ev.pos (by omega) (Ev.pos (by omega) (Ev.pos (by omega) (Ev.pos (by omega) h2))))
  obtain ⟨r, h0, h1, h2⟩ := inner b.length 0 xs (by omega) hx
  refine ⟨r, h0, Ev.one (fun k => by rw [spec_MultiplyLists.l0]) ?_, Ev.one (fun k => by rw [impl_product.l0]) ?_⟩
  ·exact Ev.pos (by omega) h1
  ·exact Ev.pos (by omega) (Ev.pos (by omega) (Ev.pos (by omega) h2))
theorem mult_f (a b : List Int) : ∃ r : List Int, r.length ≤ 1000 ∧ Ev (fun k => spec_MultiplyLists.f k a b) r ∧ Ev (fun k => impl_MultiplyLists.f k a b) r := by
 by_cases h1 : (1 : Int) ≤ (a.length : Int) ∧ (a.length : Int) ≤ 500
 ·by_cases h2 : (1 : Int) ≤ (b.length : Int) ∧ (b.length : Int) ≤ 500
  ·have e1 : wrap64 ((a.length : Int) + (b.length : Int)) = (a.length : Int) + (b.length : Int) := w64_of (by omega) (by omega)
   have e2 : wrap64 ((a.length : Int) + (b.length : Int) - 1) = (a.length : Int) + (b.length : Int) - 1 := w64_of (by omega) (by omega)
   obtain ⟨r, h0, g1, g2⟩ := prod_both a b (by omega) (by omega) a.length 0 (List.replicate ((a.length : Int) + (b.length : Int) - 1).toNat 0) (by omega) (by rw [List.length_replicate]; omega)
   rw [List.length_replicate] at h0
   refine ⟨r, by omega, ?_, ?_⟩
   ·unfold spec_MultiplyLists.f
    refine Ev.bnd (spec_l1In_ev _ _ _) (Ev.pos (decide_eq_true h1) (Ev.bnd (spec_l1In_ev _ _ _) ?_))
    refine Ev.one (fun k => by rw [spec_MultiplyLists.j0]) ?_
    rw [e1, e2]
    exact Ev.neg (by rw [decide_eq_true h2]; simp) (Ev.pos (by omega) (Ev.pos (by omega) g1))
   ·have g3 : Ev (fun k => impl_product.f k a b) r := by
     unfold impl_product.f
     rw [e1, e2]
     exact Ev.pos (by omega) (Ev.pos (by omega) g2)
    unfold impl_MultiplyLists.f
    exact Ev.bnd (impl_within_ev _ _ _) (Ev.pos (decide_eq_true h1) (Ev.bnd (impl_within_ev _ _ _) (Ev.pos (decide_eq_true h2) (Ev.bnd g3 (Ev.now _)))))
  ·refine ⟨[], by simp, ?_, ?_⟩
   ·unfold spec_MultiplyLists.f
    refine Ev.bnd (spec_l1In_ev _ _ _) (Ev.pos (decide_eq_true h1) (Ev.bnd (spec_l1In_ev _ _ _) ?_))
    refine Ev.one (fun k => by rw [spec_MultiplyLists.j0]) ?_
    exact Ev.pos (by rw [decide_eq_false h2]; simp) (Ev.now _)
   ·unfold impl_MultiplyLists.f
    exact Ev.bnd (impl_within_ev _ _ _) (Ev.pos (decide_eq_true h1) (Ev.bnd (impl_within_ev _ _ _) (Ev.neg (by rw [decide_eq_false h2]; simp) (Ev.now _))))
 ·refine ⟨[], by simp, ?_, ?_⟩
  ·unfold spec_MultiplyLists.f
   refine Ev.bnd (spec_l1In_ev _ _ _) (Ev.neg (by rw [decide_eq_false h1]; simp) (Ev.one (fun k => by rw [spec_MultiplyLists.j0]) ?_))
   exact Ev.pos (by simp) (Ev.now _)
  ·unfold impl_MultiplyLists.f
   exact Ev.bnd (impl_within_ev _ _ _) (Ev.neg (by rw [decide_eq_false h1]; simp) (Ev.now _))
/-! conv: a product with 1 - t^g, and sums from the front -/
def gpoly (g : Nat) : List Int := ((List.replicate (g + 1) (0 : Int)).set 0 1).set g (-1)
theorem gpoly_len (g : Nat) : (gpoly g).length = g + 1 := by simp [gpoly]
theorem rd_rep (n : Nat) (i : Nat) : rd (List.replicate n (0 : Int)) (i : Int) = 0 := by
 unfold rd
 rw [Int.toNat_natCast, List.getD_eq_getElem?_getD, List.getElem?_replicate]
 split <;> rfl
theorem rd_out (xs : List Int) (i : Nat) (h : xs.length ≤ i) : rd xs (i : Int) = 0 := by
 unfold rd
 rw [Int.toNat_natCast, List.getD_eq_getElem?_getD, List.getElem?_eq_none h]
 rfl
theorem gpoly_rd (g : Nat) (hg : 1 ≤ g) (j : Nat) : rd (gpoly g) (j : Int) = if j = 0 then 1 else if j = g then -1 else 0 := by
 unfold gpoly
 by_cases e : j = g
 ·subst e
  rw [rd_set_eq _ _ _ (by simp), if_neg (by omega), if_pos rfl]
 ·rw [rd_set_ne _ _ _ _ (fun q => e q.symm)]
  by_cases e0 : j = 0
  ·subst e0
   rw [rd_set_eq _ _ _ (by simp), if_pos rfl]
  ·rw [rd_set_ne _ _ _ _ (fun q => e0 q.symm), rd_rep, if_neg e0, if_neg e]
def stepE (f : Nat → Int) (g : Nat) (n : Nat) : Int := f n - (if g ≤ n then f (n - g) else 0)
/-- What has been made of the first i numbers. -/
def convE (a : List Int) (g i n : Nat) : Int := (if n < i then rd a (n : Int) else 0) - (if g ≤ n ∧ n < i + g then rd a ((n - g : Nat) : Int) else 0)
theorem convE_rng (a : List Int) (g i n : Nat) (hB : ∀ n : Nat, -1000000000000 ≤ rd a (n : Int) ∧ rd a (n : Int) ≤ 1000000000000) : -2000000000000 ≤ convE a g i n ∧ convE a g i n ≤ 2000000000000 := by
 have h1 := hB n
 have h2 := hB (n - g)
 unfold convE
 split <;> split <;> omega
theorem convE_succ (a : List Int) (g i n : Nat) : convE a g (i + 1) n = convE a g i n + (if n = i then rd a (i : Int) else 0) - (if n = i + g then rd a (i : Int) else 0) := by
 unfold convE
 have e1 : (if n < i + 1 then rd a (n : Int) else 0) = (if n < i then rd a (n : Int) else 0) + (if n = i then rd a (i : Int) else 0) := by
  by_cases e : n = i
  ·subst e
   rw [if_pos (by omega), if_neg (by omega), if_pos rfl]
   omega
  ·rw [if_neg e]
   by_cases c : n < i
   ·rw [if_pos (by omega), if_pos c]; omega
   ·rw [if_neg (by omega), if_neg c]; rfl
 have e2 : (if g ≤ n ∧ n < i + 1 + g then rd a ((n - g : Nat) : Int) else 0) = (if g ≤ n ∧ n < i + g then rd a ((n - g : Nat) : Int) else 0) + (if n = i + g then rd a (i : Int) else 0) := by
  by_cases e : n = i + g
  ·subst e
   rw [if_pos (by omega), if_neg (by omega), if_pos rfl, Nat.add_sub_cancel]
   omega
  ·rw [if_neg e]
   by_cases c : g ≤ n ∧ n < i + g
   ·rw [if_pos (by omega), if_pos c]; omega
   ·rw [if_neg (by omega), if_neg c]; rfl
 rw [e1, e2]
 omega
section
variable (a : List Int) (g : Nat) (hg1 : 1 ≤ g) (hg : g ≤ 1000) (ha : a.length ≤ 100000) (hB : ∀ n : Nat, -1000000000000 ≤ rd a (n : Int) ∧ rd a (n : Int) ≤ 1000000000000)
include hg1 hg ha hB
theorem conv_l1 (i : Nat) (hi : i < a.length) (res : List Int)
  (next : ∀ xs : List Int, xs.length = a.length + g → (∀ n, n < a.length + g → rd xs (n : Int) = convE a g (i + 1) n) → Ev (fun k => impl_product.l0 k (gpoly g) xs a (a.length : Int) ((i + 1 : Nat) : Int)) res) :
  ∀ (d j : Nat) (xs : List Int), j + d = g + 1 → xs.length = a.length + g →
   (∀ n, n < a.length + g → rd xs (n : Int) = convE a g i n + (if n = i ∧ 0 < j then rd a (i : Int) else 0) - (if n = i + g ∧ g < j then rd a (i : Int) else 0)) →
   Ev (fun k => impl_product.l1 k (gpoly g) xs (i : Int) (rd a (i : Int)) a (a.length : Int) (i : Int) (gpoly g) ((gpoly g).length : Int) (j : Int)) res := by
 intro d
 induction d with
 | zero =>
  intro j xs hj hx h
  refine Ev.one (fun k => by rw [impl_product.l1]) ?_
  rw [w64_succ i (by omega), gpoly_len]
  refine Ev.neg (by omega) (next xs hx (fun n hn => ?_))
  rw [h n hn, convE_succ]
  have e1 : (n = i ∧ 0 < j) ↔ n = i := ⟨fun q => q.1, fun q => ⟨q, by omega⟩⟩
  have e2 : (n = i + g ∧ g < j) ↔ n = i + g := ⟨fun q => q.1, fun q => ⟨q, by omega⟩⟩
  simp only [e1, e2]
 | succ d ih =>
  intro j xs hj hx h
  have hai := hB i
  have e1 : wrap64 ((i : Int) + (j : Int)) = ((i + j : Nat) : Int) := by rw [w64_of (by omega) (by omega)]; omega
  have e2 : wrap64 (rd a (i : Int) * rd (gpoly g) (j : Int)) = if j = 0 then rd a (i : Int) else if j = g then - rd a (i : Int) else 0 := by
   rw [gpoly_rd g hg1 j]
   split
   ·rw [Int.mul_one]; exact w64_of (by omega) (by omega)
   ·split
    ·rw [Int.mul_neg, Int.mul_one]; exact w64_of (by omega) (by omega)
    ·rw [Int.mul_zero]; exact w64_of (by omega) (by omega)
  have hij := h (i + j) (by omega)
  have hcr := convE_rng a g i (i + j) hB
  refine Ev.one (fun k => by rw [impl_product.l1]) ?_
  rw [e1, e2, w64_succ j (by omega), Int.toNat_natCast]
  have hlen := gpoly_len g
  refine Ev.pos (by omega) (Ev.pos (by omega) (Ev.pos (by omega) (Ev.pos (by omega) (Ev.pos (by omega) (ih (j + 1) _ (by omega) (by rw [List.length_set]; exact hx) (fun n hn => ?_))))))
  have hn0 := h n hn
  by_cases e : n = i + j
  ·subst e
   rw [rd_set_eq _ _ _ (by omega), hij]
   have v : ∀ x : Int, -5000000000000 ≤ x → x ≤ 5000000000000 → wrap64 x = x := fun x h1 h2 => w64_of (by omega) (by omega)
   generalize convE a g i (i + j) = q at hcr
   generalize rd a (i : Int) = ai at hai
   by_cases j0 : j = 0
   ·subst j0
    rw [if_neg (by omega), if_neg (by omega), if_pos (by omega), if_pos (by omega), if_neg (by omega), v _ (by omega) (by omega)]
    omega
   ·by_cases jg : j = g
    ·subst jg
     rw [if_neg (by omega), if_neg (by omega), if_neg (by omega), if_pos rfl, if_neg (by omega), if_pos (by omega), v _ (by omega) (by omega)]
     omega
    ·rw [if_neg (by omega), if_neg (by omega), if_neg j0, if_neg jg, if_neg (by omega), if_neg (by omega), v _ (by omega) (by omega)]
     omega
  ·rw [rd_set_ne _ _ _ _ (fun q => e q.symm), hn0]
   have e3 : (n = i ∧ 0 < j) ↔ (n = i ∧ 0 < j + 1) := ⟨fun q => ⟨q.1, by omega⟩, fun q => ⟨q.1, by omega⟩⟩
   have e4 : (n = i + g ∧ g < j) ↔ (n = i + g ∧ g < j + 1) := ⟨fun q => ⟨q.1, by omega⟩, fun q => ⟨q.1, by omega⟩⟩
   simp only [e3, e4]
theorem conv_l0 : ∀ (d i : Nat) (xs : List Int), i + d = a.length → xs.length = a.length + g → (∀ n, n < a.length + g → rd xs (n : Int) = convE a g i n) →
  ∃ r : List Int, r.length = a.length + g ∧ (∀ n, n < a.length + g → rd r (n : Int) = convE a g a.length n) ∧ Ev (fun k => impl_product.l0 k (gpoly g) xs a (a.length : Int) (i : Int)) r := by
 intro d
 induction d with
 | zero =>
  intro i xs hi hx h
  refine ⟨xs, hx, ?_, Ev.one (fun k => by rw [impl_product.l0]) ?_⟩
  ·rw [show a.length = i from by omega] at h ⊢
   exact h
  ·exact Ev.neg (by omega) (Ev.now _)
 | succ d ih =>
  intro i xs hi hx h
  have key : ∃ r : List Int, r.length = a.length + g ∧ (∀ n, n < a.length + g → rd r (n : Int) = convE a g a.length n) ∧ Ev (fun k => impl_product.l1 k (gpoly g) xs (i : Int) (rd a (i : Int)) a (a.length : Int) (i : Int) (gpoly g) ((gpoly g).length : Int) ((0 : Nat) : Int)) r := by
   apply Classical.byContradiction
   intro hno
   have all : ∀ res, Ev (fun k => impl_product.l1 k (gpoly g) xs (i : Int) (rd a (i : Int)) a (a.length : Int) (i : Int) (gpoly g) ((gpoly g).length : Int) ((0 : Nat) : Int)) res → False := fun res hr => by
    have := conv_l1 a g hg1 hg ha hB i (by omega) (res ++ [0]) (fun ys hy hv => ?_) (g + 1) 0 xs (by omega) hx (fun n hn => by rw [h n hn, if_neg (by omega), if_neg (by omega)]; omega)
    ·have := congrArg List.length (Ev.uniq hr this)
     simp at this
    ·exfalso
     obtain ⟨r, h0, h1, h2⟩ := ih (i + 1) ys (by omega) hy hv
     exact hno ⟨r, h0, h1, conv_l1 a g hg1 hg ha hB i (by omega) r (fun zs hz hw => by
      obtain ⟨r', _, _, h2'⟩ := ih (i + 1) zs (by omega) hz hw
      have : zs = ys := List.ext_getElem (by omega) (fun n q1 q2 => by rw [← rd_at zs n q1, ← rd_at ys n q2, hw n (by omega), hv n (by omega)])
      rw [this]
      exact h2) (g + 1) 0 xs (by omega) hx (fun n hn => by rw [h n hn, if_neg (by omega), if_neg (by omega)]; omega)⟩
   have := conv_l1 a g hg1 hg ha hB i (by omega) [] (fun ys hy hv => by
     exfalso
     obtain ⟨r, h0, h1, h2⟩ := ih (i + 1) ys (by omega) hy hv
     exact hno ⟨r, h0, h1, conv_l1 a g hg1 hg ha hB i (by omega) r (fun zs hz hw => by
      have : zs = ys := List.ext_getElem (by omega) (fun n q1 q2 => by rw [← rd_at zs n q1, ← rd_at ys n q2, hw n (by omega), hv n (by omega)])
      rw [this]
      exact h2) (g + 1) 0 xs (by omega) hx (fun n hn => by rw [h n hn, if_neg (by omega), if_neg (by omega)]; omega)⟩) (g + 1) 0 xs (by omega) hx (fun n hn => by rw [h n hn, if_neg (by omega), if_neg (by omega)]; omega)
   exact all [] this
  obtain ⟨r, h0, h1, h2⟩ := key
  refine ⟨r, h0, h1, Ev.one (fun k => by rw [impl_product.l0]) ?_⟩
  exact Ev.pos (by omega) (Ev.pos (by omega) (Ev.pos (by omega) h2))
theorem conv_ev : ∃ r : List Int, r.length = a.length + g ∧ (∀ n : Nat, rd r (n : Int) = stepE (fun n => rd a (n : Int)) g n) ∧ Ev (fun k => impl_product.f k a (gpoly g)) r := by
 have hlen := gpoly_len g
 have e1 : wrap64 ((a.length : Int) + ((gpoly g).length : Int)) = (a.length : Int) + ((gpoly g).length : Int) := w64_of (by omega) (by omega)
 have e2 : wrap64 ((a.length : Int) + ((gpoly g).length : Int) - 1) = ((a.length + g : Nat) : Int) := by rw [w64_of (by omega) (by omega)]; omega
 obtain ⟨r, h0, h1, h2⟩ := conv_l0 a g hg1 hg ha hB a.length 0 (List.replicate (a.length + g) 0) (by omega) (by simp) (fun n hn => by
  rw [rd_rep]
  unfold convE
  rw [if_neg (by omega), if_neg (by omega)]
  rfl)
 refine ⟨r, h0, fun n => ?_, ?_⟩
 ·show _ = rd a (n : Int) - (if g ≤ n then rd a ((n - g : Nat) : Int) else 0)
  by_cases c : n < a.length + g
  ·rw [h1 n c]
   unfold convE
   by_cases c1 : n < a.length
   ·rw [if_pos c1]
    by_cases c2 : g ≤ n
    ·rw [if_pos (by omega), if_pos c2]
    ·rw [if_neg (by omega), if_neg c2]
   ·rw [if_neg c1, rd_out a n (by omega)]
    by_cases c2 : g ≤ n
    ·rw [if_pos (by omega), if_pos c2]
    ·rw [if_neg (by omega), if_neg c2]
  ·rw [rd_out r n (by omega)]
   rw [rd_out a n (by omega), if_pos (by omega), rd_out a (n - g) (by omega)]
   rfl
 ·unfold impl_product.f
  rw [e1, e2, Int.toNat_natCast]
  exact Ev.pos (by omega) (Ev.pos (by omega) h2)
end
def psum (a : List Int) : Nat → Int
 | 0 => rd a ((0 : Nat) : Int)
 | n + 1 => psum a n + rd a ((n + 1 : Nat) : Int)
theorem psum_step (a r : List Int) (g : Nat) (hg : 1 ≤ g) (h : ∀ n : Nat, rd r (n : Int) = stepE (fun n => rd a (n : Int)) g n) : ∀ n, psum r n = stepE (psum a) g n := by
 intro n
 induction n with
 | zero =>
  show rd r ((0 : Nat) : Int) = _
  rw [h 0]
  unfold stepE
  rw [if_neg (by omega), if_neg (by omega)]
  rfl
 | succ n ih =>
  show psum r n + rd r ((n + 1 : Nat) : Int) = _
  have hn : rd r ((n + 1 : Nat) : Int) = rd a ((n + 1 : Nat) : Int) - (if g ≤ n + 1 then rd a ((n + 1 - g : Nat) : Int) else 0) := h (n + 1)
  rw [ih, hn]
  unfold stepE
  show _ = (psum a n + rd a ((n + 1 : Nat) : Int)) - _
  by_cases c : g ≤ n
  ·rw [if_pos c, if_pos (show g ≤ n + 1 by omega), if_pos (show g ≤ n + 1 by omega), show n + 1 - g = (n - g) + 1 from by omega]
   show _ = _ - (psum a (n - g) + rd a ((n - g + 1 : Nat) : Int))
   omega
  ·by_cases c2 : g = n + 1
   ·rw [if_neg c, if_pos (show g ≤ n + 1 by omega), if_pos (show g ≤ n + 1 by omega), show n + 1 - g = 0 from by omega]
    show _ = _ - rd a ((0 : Nat) : Int)
    omega
   ·rw [if_neg c, if_neg (show ¬ g ≤ n + 1 by omega), if_neg (show ¬ g ≤ n + 1 by omega)]
    omega
theorem psum_rng (a : List Int) (B : Int) (hB : ∀ n : Nat, -B ≤ rd a (n : Int) ∧ rd a (n : Int) ≤ B) : ∀ n : Nat, -(B * ((n : Int) + 1)) ≤ psum a n ∧ psum a n ≤ B * ((n : Int) + 1) := by
 intro n
 induction n with
 | zero =>
  have := hB 0
  show -(B * (((0 : Nat) : Int) + 1)) ≤ rd a ((0 : Nat) : Int) ∧ rd a ((0 : Nat) : Int) ≤ B * (((0 : Nat) : Int) + 1)
  rw [show B * (((0 : Nat) : Int) + 1) = B from by simp]
  exact this
 | succ n ih =>
  have := hB (n + 1)
  show -(B * (((n + 1 : Nat) : Int) + 1)) ≤ psum a n + rd a ((n + 1 : Nat) : Int) ∧ psum a n + rd a ((n + 1 : Nat) : Int) ≤ B * (((n + 1 : Nat) : Int) + 1)
  rw [show B * (((n + 1 : Nat) : Int) + 1) = B * ((n : Int) + 1) + B from by rw [Int.mul_add B ((n + 1 : Nat) : Int) 1, Int.mul_one, Int.natCast_add]; rfl]
  omega
theorem stepE_rng (f : Nat → Int) (B : Int) (hB : ∀ n, -B ≤ f n ∧ f n ≤ B) (g n : Nat) : -(2 * B) ≤ stepE f g n ∧ stepE f g n ≤ 2 * B := by
 have h1 := hB n
 have h2 := hB (n - g)
 unfold stepE
 split <;> omega
/-! total: the sum of a list -/
theorem sum_take (l : List Int) (i : Nat) (hi : i < l.length) : (l.take (i + 1)).sum = (l.take i).sum + l[i] := by
 rw [List.take_succ_eq_append_getElem hi, List.sum_append, List.sum_cons, List.sum_nil, Int.add_zero]
theorem sum_bound (l : List Int) (h : ∀ x ∈ l, 0 ≤ x ∧ x ≤ 1000000) (i : Nat) : 0 ≤ (l.take i).sum ∧ (l.take i).sum ≤ (i : Int) * 1000000 := by
 induction i with
 | zero => simp
 | succ i ih =>
  by_cases hi : i < l.length
  ·have := h l[i] (List.getElem_mem hi)
   rw [sum_take l i hi]
   omega
  ·rw [List.take_of_length_le (by omega)] at ih ⊢
   omega
theorem impl_total_l0 (l : List Int) (hl : l.length ≤ 1048576) (h : ∀ x ∈ l, 0 ≤ x ∧ x ≤ 1000000) : ∀ d i, i + d = l.length → Ev (fun k => impl_total.l0 k (l.take i).sum l (l.length : Int) (i : Int)) l.sum := by
 intro d
 induction d with
 | zero =>
  intro i hi
  rw [List.take_of_length_le (by omega)]
  refine Ev.one (fun k => by rw [impl_total.l0]) ?_
  exact Ev.neg (by omega) (Ev.now _)
 | succ d ih =>
  intro i hi
  have ih := ih (i + 1) (by omega)
  have hil : i < l.length := by omega
  have hb := sum_bound l h i
  have hx := h l[i] (List.getElem_mem hil)
  rw [sum_take l i hil] at ih
  refine Ev.one (fun k => by rw [impl_total.l0]) ?_
  rw [rd_at l i hil, w64_succ i (by omega), w64_of (by omega) (by omega)]
  exact Ev.pos (by omega) (Ev.pos (by omega) (Ev.pos (by omega) ih))
theorem impl_total_ev (l : List Int) (hl : l.length ≤ 1048576) (h : ∀ x ∈ l, 0 ≤ x ∧ x ≤ 1000000) : Ev (fun k => impl_total.f k l) l.sum := impl_total_l0 l hl h l.length 0 (by omega)
/-! euler2: EulerList of both sides -/
def stepsE (f : Nat → Int) : List Int → Nat → Int
 | [] => f
 | x :: r => stepsE (stepE f x.toNat) r
def tab (f : Nat → Int) (n : Nat) : List Int := (List.range n).map f
theorem tab_len (f : Nat → Int) (n : Nat) : (tab f n).length = n := by simp [tab]
theorem tab_succ (f : Nat → Int) (n : Nat) : tab f (n + 1) = tab f n ++ [f n] := by
 unfold tab
 rw [List.range_succ, List.map_append, List.map_cons, List.map_nil]
theorem tab_rd (f : Nat → Int) (n i : Nat) (h : i < n) : rd (tab f n) (i : Int) = f i := by
 rw [rd_at _ _ (by rw [tab_len]; exact h)]
 simp [tab]
theorem tab_of (f : Nat → Int) (n : Nat) (xs : List Int) (hl : xs.length = n) (h : ∀ i, i < n → rd xs (i : Int) = f i) : xs = tab f n := by
 refine List.ext_getElem (by rw [tab_len]; exact hl) (fun i h1 h2 => ?_)
 rw [← rd_at xs i h1, ← rd_at (tab f n) i h2, h i (by omega), tab_rd f n i (by omega)]
theorem drop_rd (g : List Int) (i : Nat) (hi : i < g.length) : g.drop i = rd g (i : Int) :: g.drop (i + 1) := by
 rw [rd_at g i hi]
 exact List.drop_eq_getElem_cons hi
theorem eul_l2 (g : List Int) (i gi N : Nat) (hl : g.length ≤ 1000) (hi : i < g.length) (hgi : rd g (i : Int) = (gi : Int)) (hg1 : 1 ≤ gi) (hN : N ≤ 1000000) (f : Nat → Int) (hf : ∀ n, -1000000000000 ≤ f n ∧ f n ≤ 1000000000000) (res : List Int)
  (next : ∀ xs : List Int, xs.length = N → (∀ n, n < N → rd xs (n : Int) = stepE f gi n) → Ev (fun k => spec_EulerList.l1 k (N : Int) xs ((i + 1 : Nat) : Int) g) res) :
  ∀ (m : Nat) (xs : List Int), m < N → xs.length = N → (∀ n, n < N → rd xs (n : Int) = if m < n then stepE f gi n else f n) → Ev (fun k => spec_EulerList.l2 k (N : Int) xs (i : Int) (m : Int) g) res := by
 intro m
 induction m with
 | zero =>
  intro xs hm hx h
  refine Ev.one (fun k => by rw [spec_EulerList.l2]) ?_
  rw [hgi, w64_succ i (by omega)]
  refine Ev.pos (by omega) (Ev.pos (by omega) (Ev.neg (by omega) (next xs hx (fun n hn => ?_))))
  rw [h n hn]
  by_cases c : 0 < n
  ·rw [if_pos c]
  ·rw [if_neg c]
   unfold stepE
   rw [if_neg (by omega)]
   omega
 | succ m ih =>
  intro xs hm hx h
  refine Ev.one (fun k => by rw [spec_EulerList.l2]) ?_
  rw [hgi, w64_succ i (by omega)]
  by_cases c : ((m + 1 : Nat) : Int) ≥ (gi : Int)
  ·have e1 : wrap64 (((m + 1 : Nat) : Int) - (gi : Int)) = ((m + 1 - gi : Nat) : Int) := by rw [w64_of (by omega) (by omega)]; omega
   have e2 : wrap64 (((m + 1 : Nat) : Int) - 1) = (m : Int) := by rw [w64_of (by omega) (by omega)]; omega
   have v1 := h (m + 1) hm
   have v2 := h (m + 1 - gi) (by omega)
   rw [if_neg (by omega)] at v1 v2
   have b1 := hf (m + 1)
   have b2 := hf (m + 1 - gi)
   rw [e1, e2, v1, v2, w64_of (x := f (m + 1) - f (m + 1 - gi)) (by omega) (by omega), Int.toNat_natCast]
   refine Ev.pos (by omega) (Ev.pos (by omega) (Ev.pos c (Ev.pos (by omega) (Ev.pos (by omega) (Ev.pos (by omega) (Ev.pos (by omega) (ih _ (by omega) (by rw [List.length_set]; exact hx) (fun n hn => ?_))))))))
   by_cases e : n = m + 1
   ·subst e
    rw [rd_set_eq _ _ _ (by omega), if_pos (by omega)]
    unfold stepE
    rw [if_pos (by omega)]
   ·rw [rd_set_ne _ _ _ _ (fun q => e q.symm), h n hn]
    by_cases c2 : m + 1 < n
    ·rw [if_pos c2, if_pos (show m < n by omega)]
    ·rw [if_neg c2, if_neg (show ¬ m < n by omega)]
  ·refine Ev.pos (by omega) (Ev.pos (by omega) (Ev.neg c (next xs hx (fun n hn => ?_))))
   rw [h n hn]
   by_cases c : m + 1 < n
   ·rw [if_pos c]
   ·rw [if_neg c]
    unfold stepE
    rw [if_neg (by omega)]
    omega
theorem eul_l1 (g : List Int) (N : Nat) (hl : g.length ≤ 1000) (hr : ∀ x ∈ g, 1 ≤ x ∧ x ≤ 60) (hN1 : 1 ≤ N) (hN : N ≤ 1000000) :
  ∀ (d i : Nat) (f : Nat → Int) (B : Nat) (xs : List Int), i + d = g.length → B * 2 ^ d ≤ 1000000000000 → (∀ n, -(B : Int) ≤ f n ∧ f n ≤ (B : Int)) → xs.length = N → (∀ n, n < N → rd xs (n : Int) = f n) → Ev (fun k => spec_EulerList.l1 k (N : Int) xs (i : Int) g) (tab (stepsE f (g.drop i)) N) := by
 intro d
 induction d with
 | zero =>
  intro i f B xs hi hB hf hx h
  refine Ev.one (fun k => by rw [spec_EulerList.l1]) ?_
  rw [List.drop_eq_nil_of_le (by omega)]
  show Ev _ (tab f N)
  rw [← tab_of f N xs hx h]
  exact Ev.neg (by omega) (Ev.now _)
 | succ d ih =>
  intro i f B xs hi hB hf hx h
  have hri := hr (rd g (i : Int)) (by rw [rd_at g i (by omega)]; exact List.getElem_mem _)
  obtain ⟨gi, hgi⟩ : ∃ gi : Nat, rd g (i : Int) = (gi : Int) := ⟨(rd g (i : Int)).toNat, by omega⟩
  have hBB : B ≤ 1000000000000 := Nat.le_trans (Nat.le_mul_of_pos_right B (Nat.two_pow_pos _)) hB
  refine Ev.one (fun k => by rw [spec_EulerList.l1]) ?_
  rw [drop_rd g i (by omega), hgi, show wrap64 ((N : Int) - 1) = ((N - 1 : Nat) : Int) from by rw [w64_of (by omega) (by omega)]; omega]
  refine Ev.pos (by omega) (eul_l2 g i gi N hl (by omega) hgi (by omega) hN f (fun n => by have := hf n; omega) _ (fun ys hy hv => ?_) (N - 1) xs (by omega) hx (fun n hn => by rw [h n hn, if_neg (by omega)]))
  show Ev _ (tab (stepsE (stepE f (gi : Int).toNat) (g.drop (i + 1))) N)
  rw [Int.toNat_natCast]
  refine ih (i + 1) (stepE f gi) (2 * B) ys (by omega) (by rw [Nat.mul_comm 2 B, Nat.mul_assoc, ← Nat.pow_succ']; exact hB) (fun n => ?_) hy hv
  have := stepE_rng f (B : Int) hf gi n
  omega
theorem eul_sum (g : List Int) (hl : g.length ≤ 1000) (hr : ∀ x ∈ g, 1 ≤ x ∧ x ≤ 60) (k0 : Int) (hk0 : 0 ≤ k0 ∧ k0 ≤ 1000) (tail : Nat → Option (List Int)) (res : List Int)
  (htail : ∀ k, spec_EulerList.l0 (k + 1) (k0 + g.sum) (g.length : Int) g = tail k) (h : Ev tail res) :
  ∀ (d i : Nat), i + d = g.length → Ev (fun k => spec_EulerList.l0 k (k0 + (g.take i).sum) (i : Int) g) res := by
 intro d
 induction d with
 | zero =>
  intro i hi
  rw [show i = g.length from by omega, List.take_length]
  exact Ev.one htail h
 | succ d ih =>
  intro i hi
  have hri := hr (rd g (i : Int)) (by rw [rd_at g i (by omega)]; exact List.getElem_mem _)
  have hs : ∀ l : List Int, (∀ x ∈ l, 1 ≤ x ∧ x ≤ 60) → 0 ≤ l.sum ∧ l.sum ≤ 60 * (l.length : Int) := by
   intro l
   induction l with
   | nil => intro _; simp
   | cons x l ihl =>
    intro h
    have h1 := h x List.mem_cons_self
    have h2 := ihl (fun y hy => h y (List.mem_cons_of_mem _ hy))
    rw [List.sum_cons, List.length_cons]
    omega
  have h1 := hs (g.take i) (fun x hx => hr x (List.mem_of_mem_take hx))
  rw [List.length_take] at h1
  refine Ev.one (fun k => by rw [spec_EulerList.l0]) ?_
  have ih := ih (i + 1) (by omega)
  rw [List.take_succ_eq_append_getElem (by omega), List.sum_append, List.sum_singleton, ← rd_at g i (by omega)] at ih
  rw [w64_of (x := k0 + (g.take i).sum + rd g (i : Int)) (by omega) (by omega), w64_succ i (by omega), Int.add_assoc]
  exact Ev.pos (by omega) (Ev.pos (by omega) ih)
theorem eul_impl_l1 (q : List Int) (N : Nat) (hN : N ≤ 100000) (hq : ∀ n : Nat, -1000000 ≤ rd q (n : Int) ∧ rd q (n : Int) ≤ 1000000) :
  ∀ (d i : Nat) (s : Int), i + d = N → s = (if i = 0 then 0 else psum q (i - 1)) → Ev (fun k => impl_EulerList.l1 k q (tab (psum q) i) s (N : Int) (i : Int)) (tab (psum q) N) := by
 intro d
 induction d with
 | zero =>
  intro i s hi hs
  refine Ev.one (fun k => by rw [impl_EulerList.l1]) ?_
  rw [show i = N from by omega]
  unfold slices_Clip_int_int.f
  exact Ev.neg (by omega) (Ev.some (Ev.now _))
 | succ d ih =>
  intro i s hi hs
  have e : s + rd q (i : Int) = psum q i := by
   rw [hs]
   cases i with
   | zero => rw [if_pos rfl]; show 0 + rd q ((0 : Nat) : Int) = rd q ((0 : Nat) : Int); omega
   | succ i => rw [if_neg (by omega)]; rfl
  have hp := psum_rng q 1000000 hq i
  have ih := ih (i + 1) (psum q i) (by omega) (by rw [if_neg (by omega)]; rfl)
  rw [tab_succ] at ih
  refine Ev.one (fun k => by rw [impl_EulerList.l1]) ?_
  rw [w64_succ i (by omega), e, w64_of (x := psum q i) (by omega) (by omega)]
  by_cases c : (i : Int) < (q.length : Int)
  ·exact Ev.pos (by omega) (Ev.pos c (Ev.pos (by omega) (Ev.pos (by rw [tab_len]; omega) ih)))
  ·have e0 : s = psum q i := by rw [← e, rd_out q i (by omega)]; omega
   rw [e0]
   exact Ev.pos (by omega) (Ev.neg c (Ev.pos (by rw [tab_len]; omega) ih))
theorem eul_impl_l0 (g : List Int) (hl : g.length ≤ 12) (hr : ∀ x ∈ g, 1 ≤ x ∧ x ≤ 60) (F N : Nat) (hN : N ≤ 100000) (f0 : Int) (hF : Ev (fun k => impl_FrobeniusOf.f k g) f0) (T : Int) (hT : Ev (fun k => impl_total.f k g) T) (hs : wrap64 (wrap64 (f0 + T) + 1) = (N : Int)) :
  ∀ (d i B : Nat) (p : List Int), i + d = g.length → p.length ≤ 1000 + 60 * i → B * 2 ^ d ≤ 1000000 → (∀ n : Nat, -(B : Int) ≤ rd p (n : Int) ∧ rd p (n : Int) ≤ (B : Int)) →
   Ev (fun k => impl_EulerList.l0 k p g (g.length : Int) (i : Int) g) (tab (stepsE (psum p) (g.drop i)) N) := by
 intro d
 induction d with
 | zero =>
  intro i B p hi hp hB hb
  refine Ev.one (fun k => by rw [impl_EulerList.l0]) ?_
  rw [List.drop_eq_nil_of_le (by omega)]
  refine Ev.neg (by omega) (Ev.bnd hF (Ev.bnd hT ?_))
  rw [hs]
  exact eul_impl_l1 p N hN (fun n => by have := hb n; have : B ≤ 1000000 := (by simpa using hB); omega) N 0 0 (by omega) (by rw [if_pos rfl])
 | succ d ih =>
  intro i B p hi hp hB hb
  have hri := hr (rd g (i : Int)) (by rw [rd_at g i (by omega)]; exact List.getElem_mem _)
  obtain ⟨gi, hgi⟩ : ∃ gi : Nat, rd g (i : Int) = (gi : Int) := ⟨(rd g (i : Int)).toNat, by omega⟩
  have hBB : B ≤ 1000000 := Nat.le_trans (Nat.le_mul_of_pos_right B (Nat.two_pow_pos _)) hB
  obtain ⟨r, r0, r1, r2⟩ := conv_ev p gi (by omega) (by omega) (by omega) (fun n => by have := hb n; omega)
  refine Ev.one (fun k => by rw [impl_EulerList.l0]) ?_
  rw [hgi, w64_succ gi (by omega), w64_succ i (by omega), Int.toNat_natCast, Int.toNat_natCast]
  have ih := ih (i + 1) (2 * B) r (by omega) (by omega) (by rw [Nat.mul_comm 2 B, Nat.mul_assoc, ← Nat.pow_succ']; exact hB) (fun n => by
   have := stepE_rng (fun n => rd p (n : Int)) (B : Int) hb gi n
   rw [r1 n]
   omega)
  rw [drop_rd g i (by omega), hgi]
  show Ev _ (tab (stepsE (stepE (psum p) (gi : Int).toNat) (g.drop (i + 1))) N)
  rw [Int.toNat_natCast, ← (funext (psum_step p r gi (by omega) r1) : psum r = stepE (psum p) gi)]
  refine Ev.pos (by omega) (Ev.pos (by omega) (Ev.pos (by omega) (Ev.pos (by omega) (Ev.pos (by omega) (Ev.some (Ev.pos (by rw [List.length_replicate]; omega) (Ev.pos (by omega) (Ev.pos (by rw [List.length_replicate]; omega) (Ev.bnd ?_ ih)))))))))
  exact r2
theorem numL_rng (g : List Int) (m n : Nat) : -1 ≤ rd (numL g m) (n : Int) ∧ rd (numL g m) (n : Int) ≤ 1 := by
 by_cases c : n < m
 ·rw [rd_at _ _ (by rw [numL_len]; exact c)]
  unfold numL
  rw [List.getElem_map, List.getElem_range]
  unfold numF
  split <;> split <;> omega
 ·rw [rd_out _ _ (by rw [numL_len]; omega)]
  omega
theorem ser_l0 (a : List Int) (N : Nat) (hN : N ≤ 1000) (hq : ∀ n : Nat, -1000000 ≤ rd a (n : Int) ∧ rd a (n : Int) ≤ 1000000) :
  ∀ (d i : Nat) (s : Int), i + d = N → s = (if i = 0 then 0 else psum a (i - 1)) → Ev (fun k => spec_SeriesFrom.l0 k a (N : Int) (tab (psum a) i) s (i : Int)) (tab (psum a) N) := by
 intro d
 induction d with
 | zero =>
  intro i s hi hs
  refine Ev.one (fun k => by rw [spec_SeriesFrom.l0]) ?_
  rw [show i = N from by omega]
  exact Ev.neg (by omega) (Ev.now _)
 | succ d ih =>
  intro i s hi hs
  have e : s + rd a (i : Int) = psum a i := by
   rw [hs]
   cases i with
   | zero => rw [if_pos rfl]; show 0 + rd a ((0 : Nat) : Int) = rd a ((0 : Nat) : Int); omega
   | succ i => rw [if_neg (by omega)]; rfl
  have hp := psum_rng a 1000000 hq i
  have ih := ih (i + 1) (psum a i) (by omega) (by rw [if_neg (by omega)]; rfl)
  rw [tab_succ] at ih
  refine Ev.one (fun k => by rw [spec_SeriesFrom.l0]) ?_
  rw [w64_succ i (by omega), e, w64_of (x := psum a i) (by omega) (by omega)]
  by_cases c : (i : Int) < (a.length : Int)
  ·exact Ev.pos (by omega) (Ev.pos c (Ev.pos (by omega) (Ev.pos (by rw [tab_len]; omega) ih)))
  ·have e0 : s = psum a i := by rw [← e, rd_out a i (by omega)]; omega
   rw [e0]
   exact Ev.pos (by omega) (Ev.neg c (Ev.pos (by rw [tab_len]; omega) ih))
theorem eulerlist_val (g : List Int) (hlen : g.length ≤ 1048576) (hS : SG g) (b2 : Ev (fun k => spec_IsSemigroup.f k g) true) (b3 : Ev (fun k => impl_IsSemigroup.f k g) true) (C : Nat) (hF : C ≤ 200)
  (c2 : Ev (fun k => spec_FrobeniusOf.f k g) ((C : Int) - 1)) (c3 : Ev (fun k => impl_FrobeniusOf.f k g) ((C : Int) - 1)) (d2 : Ev (fun k => spec_ConductorOf.f k g) (C : Int)) (d3 : Ev (fun k => impl_ConductorOf.f k g) (C : Int)) :
  ∃ N : Nat, N ≤ 1000 ∧ Ev (fun k => spec_EulerList.f k g) (tab (stepsE (psum (numL g (C + 1))) g) N) ∧ Ev (fun k => impl_EulerList.f k g) (tab (stepsE (psum (numL g (C + 1))) g) N) := by
 have hl1 := hS.len1
 have hl2 := hS.len2
 have n1 : Ev (fun k => spec_NumeratorOf.f k g) (numL g (C + 1)) := by
  unfold spec_NumeratorOf.f
  exact Ev.some (Ev.bnd b2 (Ev.pos rfl (num_spec_l0 g hS C (by omega) d2 (C + 1) 0 (by omega))))
 have n2 : Ev (fun k => impl_NumeratorOf.f k g) (numL g (C + 1)) := by
  unfold impl_NumeratorOf.f
  refine Ev.bnd b3 (Ev.pos rfl (Ev.bnd (impl_table_ev g hS 200 (by omega)) (Ev.bnd d3 ?_)))
  rw [w64_succ C (by omega)]
  exact num_impl_l0 g C (by omega) (C + 1) 0 (by omega)
 have hs : ∀ l : List Int, (∀ x ∈ l, 1 ≤ x ∧ x ≤ 60) → (l.length : Int) ≤ l.sum ∧ l.sum ≤ 60 * (l.length : Int) := by
  intro l
  induction l with
  | nil => intro _; simp
  | cons x l ihl =>
   intro h
   have h1 := h x List.mem_cons_self
   have h2 := ihl (fun y hy => h y (List.mem_cons_of_mem _ hy))
   rw [List.sum_cons, List.length_cons]
   omega
 have hsum := hs g hS.rng
 obtain ⟨N, hN⟩ : ∃ N : Nat, (C : Int) + g.sum = (N : Int) := ⟨((C : Int) + g.sum).toNat, by omega⟩
 have hrng := numL_rng g (C + 1)
 have hp := fun n => psum_rng (numL g (C + 1)) 1 hrng n
 refine ⟨N, by omega, ?_, ?_⟩
 ·unfold spec_EulerList.f
  refine Ev.bnd b2 (Ev.pos rfl (Ev.bnd c2 ?_))
  rw [show wrap64 ((C : Int) - 1 + 1) = (C : Int) from by rw [w64_of (by omega) (by omega)]; omega]
  -- the sums of the numerator, then one generator after the other
  have ser : Ev (fun k => spec_SeriesFrom.f k (numL g (C + 1)) (N : Int)) (tab (psum (numL g (C + 1))) N) := by
   unfold spec_SeriesFrom.f
   refine Ev.some (Ev.bnd (spec_l1In_ev _ _ _) (Ev.pos (decide_eq_true (by omega)) ?_))
   exact ser_l0 (numL g (C + 1)) N (by omega) (fun n => by have := hrng n; omega) N 0 0 (by omega) (by rw [if_pos rfl])
  have fin := fun (f : Nat → Int) (hf : ∀ n, -(1001 : Int) ≤ f n ∧ f n ≤ 1001) => eul_l1 g N (by omega) hS.rng (by omega) (by omega) g.length 0 f 1001 (tab f N) (by omega) (Nat.le_trans (Nat.mul_le_mul_left _ (Nat.pow_le_pow_right (by omega) hl2)) (by decide)) hf (tab_len f N) (fun n hn => tab_rd f N n hn)
  -- behind N the function is cut off: it is not read there
  have cut : tab (psum (numL g (C + 1))) N = tab (fun n => if n < N then psum (numL g (C + 1)) n else 0) N := tab_of _ _ _ (tab_len _ _) (fun i hi => by rw [tab_rd _ _ _ hi, if_pos hi])
  have fin2 := fin (fun n => if n < N then psum (numL g (C + 1)) n else 0) (fun n => by
   have := hp n
   show -(1001 : Int) ≤ (if n < N then psum (numL g (C + 1)) n else 0) ∧ (if n < N then psum (numL g (C + 1)) n else 0) ≤ 1001
   split <;> omega)
  have same : ∀ (l : List Int) (f h : Nat → Int), (∀ n, n < N → f n = h n) → ∀ n, n < N → stepsE f l n = stepsE h l n := by
   intro l
   induction l with
   | nil => intro f h e n hn; exact e n hn
   | cons x l ih =>
    intro f h e n hn
    refine ih (stepE f x.toNat) (stepE h x.toNat) (fun m hm => ?_) n hn
    unfold stepE
    rw [e m hm]
    split
    ·rw [e (m - x.toNat) (by omega)]
    ·rfl
  have e3 : tab (stepsE (fun n => if n < N then psum (numL g (C + 1)) n else 0) g) N = tab (stepsE (psum (numL g (C + 1))) g) N := tab_of _ _ _ (tab_len _ _) (fun i hi => by
   rw [tab_rd _ _ _ hi]
   exact same g _ _ (fun n hn => by rw [if_pos hn]) i hi)
  rw [List.drop_zero, e3, ← cut] at fin2
  have key := eul_sum g (by omega) hS.rng (C : Int) (by omega) (fun k => (spec_NumeratorOf.f k g).bind fun t290 => (spec_SeriesFrom.f k t290 ((C : Int) + g.sum)).bind fun t293 => spec_EulerList.l1 k ((C : Int) + g.sum) t293 0 g) (tab (stepsE (psum (numL g (C + 1))) g) N)
   (fun k => by rw [spec_EulerList.l0, if_neg (by omega)]) (Ev.bnd n1 (by rw [hN]; exact Ev.bnd ser fin2)) g.length 0 (by omega)
  rw [List.take_zero, List.sum_nil, Int.add_zero] at key
  exact key
 ·unfold impl_EulerList.f
  refine Ev.bnd b3 (Ev.pos rfl (Ev.bnd n2 ?_))
  have hT := impl_total_ev g (by omega) (fun x hx => by have := hS.rng x hx; omega)
  have := eul_impl_l0 g hl2 hS.rng C N (by omega) ((C : Int) - 1) c3 g.sum hT (by rw [w64_of (x := (C : Int) - 1 + g.sum) (by omega) (by omega), w64_of (by omega) (by omega)]; omega) g.length 0 1 (numL g (C + 1)) (by omega) (by rw [numL_len]; omega) (by rw [Nat.one_mul]; exact Nat.le_trans (Nat.pow_le_pow_right (by omega) hl2) (by decide)) (fun n => hrng n)
  rw [List.drop_zero] at this
  exact this
theorem eulerlist_both (g : List Int) (hlen : g.length ≤ 1048576) : ∃ r : List Int, r.length ≤ 1048576 ∧ Ev (fun k => spec_EulerList.f k g) r ∧ Ev (fun k => impl_EulerList.f k g) r := by
 obtain ⟨b, b1, b2, b3⟩ := sg_both g hlen
 obtain ⟨c, c1, c2, c3⟩ := frob_both g hlen
 obtain ⟨c', c1', d2, d3⟩ := cond_both g hlen
 have ec : c = c' := by
  have : c = true ↔ c' = true := c1.trans c1'.symm
  cases c <;> cases c' <;> simp_all
 subst ec
 have hF := lastS_gaps c g
 obtain ⟨C, hC⟩ : ∃ C : Nat, lastS (gapsS c g) + 1 = (C : Int) := ⟨(lastS (gapsS c g) + 1).toNat, by omega⟩
 rw [hC] at d2 d3
 have eF : lastS (gapsS c g) = (C : Int) - 1 := by omega
 rw [eF] at c2 c3
 cases b with
 | false =>
  refine ⟨[], by simp, ?_, ?_⟩
  ·unfold spec_EulerList.f
   exact Ev.bnd b2 (Ev.neg (by decide) (Ev.now _))
  ·unfold impl_EulerList.f
   exact Ev.bnd b3 (Ev.neg (by decide) (Ev.now _))
 | true =>
  obtain ⟨N, n0, n1, n2⟩ := eulerlist_val g hlen (b1.1 rfl) b2 b3 C (by omega) c2 c3 d2 d3
  exact ⟨_, by rw [tab_len]; omega, n1, n2⟩
/-! symm: spec.IsSymmetric -/
theorem spec_mirror_l0 (g : List Int) (hS : SG g) (f : Int) (hf : -1 ≤ f ∧ f ≤ 199) : ∀ (d : Nat) (i : Int), 0 ≤ i → i + (d : Int) = f + 1 → ∃ r, (r = true ↔ ∀ x, i ≤ x → x ≤ f → ¬ elB g x = elB g (f - x)) ∧ Ev (fun k => spec_l9Mirror.l0 k false f i g) r := by
 intro d
 induction d with
 | zero =>
  intro i hi0 hi
  refine ⟨true, ⟨fun _ x h1 h2 => by omega, fun _ => rfl⟩, ?_⟩
  refine Ev.one (fun k => by rw [spec_l9Mirror.l0]) ?_
  exact Ev.neg (by omega) (Ev.now _)
 | succ d ih =>
  intro i hi0 hi
  obtain ⟨r, r1, r2⟩ := ih (i + 1) (by omega) (by omega)
  have h1 := spec_l3Has_el g hS i
  have h2 := spec_l3Has_el g hS (wrap64 (f - i))
  rw [w64_of (x := f - i) (by omega) (by omega)] at h2
  by_cases he : elB g i = elB g (f - i)
  ·refine ⟨false, ⟨fun h => (by cases h), fun h => absurd he (h i (by omega) (by omega))⟩, ?_⟩
   refine Ev.one (fun k => by rw [spec_l9Mirror.l0]) ?_
   refine Ev.pos (by omega) (Ev.neg (by decide) (Ev.one (fun k => by rw [spec_l9Mirror.j1]) ?_))
   rw [w64_of (x := f - i) (by omega) (by omega)]
   refine Ev.neg (by decide) (Ev.bnd h1 (Ev.bnd h2 (Ev.pos (by rw [he]; simp) (Ev.now _))))
  ·refine ⟨r, r1.trans ⟨fun h x hx0 hx1 => ?_, fun h x hx0 hx1 => h x (by omega) hx1⟩, ?_⟩
   ·by_cases hx : x = i
    ·subst hx; exact he
    ·exact h x (by omega) hx1
   refine Ev.one (fun k => by rw [spec_l9Mirror.l0]) ?_
   refine Ev.pos (by omega) (Ev.neg (by decide) (Ev.one (fun k => by rw [spec_l9Mirror.j1]) ?_))
   rw [w64_of (x := f - i) (by omega) (by omega), w64_of (x := i + 1) (by omega) (by omega)]
   exact Ev.neg (by decide) (Ev.bnd h1 (Ev.bnd h2 (Ev.neg (by rw [beq_iff_eq]; exact he) r2)))
theorem spec_symmetric_ev (g : List Int) (hS : SG g) (f : Int) (hf : -1 ≤ f ∧ f ≤ 199) (b2 : Ev (fun k => spec_IsSemigroup.f k g) true) (c2 : Ev (fun k => spec_FrobeniusOf.f k g) f) : ∃ r, (r = true ↔ ∀ x, 0 ≤ x → x ≤ f → ¬ elB g x = elB g (f - x)) ∧ Ev (fun k => spec_IsSymmetric.f k g) r := by
 obtain ⟨n, hn⟩ : ∃ n : Nat, f + 1 = (n : Int) := ⟨(f + 1).toNat, by omega⟩
 obtain ⟨r, r1, r2⟩ := spec_mirror_l0 g hS f hf n 0 (by omega) (by omega)
 refine ⟨r, r1, ?_⟩
 unfold spec_IsSymmetric.f spec_l9Mirror.f
 exact Ev.bnd b2 (Ev.pos rfl (Ev.bnd (Ev.bnd c2 r2) (Ev.now _)))
/-! plaw: words on laws over bytes -/
theorem big_no (b : List Int) (h : b.length ≤ 1048576) : Ev (fun _ => laws_big.f b) false := by
 refine Ev.const ?_
 unfold laws_big.f
 rw [decide_eq_false (by omega)]
theorem big_yes (b : List Int) (h : ¬ b.length ≤ 1048576) : Ev (fun _ => laws_big.f b) true := by
 refine Ev.const ?_
 unfold laws_big.f
 rw [decide_eq_true (by omega)]
theorem sameInts_l0 (l : List Int) (hl : l.length ≤ 35184372088832) : ∀ (d i : Nat), i + d = l.length → Ev (fun k => laws_sameInts.l0 k l l (i : Int)) true := by
 intro d
 induction d with
 | zero =>
  intro i hi
  refine Ev.one (fun k => by rw [laws_sameInts.l0]) ?_
  exact Ev.neg (by omega) (Ev.now _)
 | succ d ih =>
  intro i hi
  refine Ev.one (fun k => by rw [laws_sameInts.l0]) ?_
  refine Ev.pos (by omega) (Ev.pos (by omega) (Ev.pos (by omega) (Ev.pos rfl ?_)))
  rw [w64_succ i (by omega)]
  exact ih (i + 1) (by omega)
theorem sameInts_ev (l : List Int) (hl : l.length ≤ 35184372088832) : Ev (fun k => laws_sameInts.f k l l) true := by
 unfold laws_sameInts.f
 exact Ev.pos rfl (sameInts_l0 l hl l.length 0 (by omega))
/-! draw: the cursor of the draws, what it picks, the drawn semigroups -/
theorem i64_and255 (n : Int) : Go.bits .and .i64 n 255 = n % 256 := by
 have h1 : (BitVec.ofInt 64 255).toNat = 2 ^ 8 - 1 := by decide
 have key : (BitVec.ofInt 64 n &&& BitVec.ofInt 64 255).toNat = (n % ((2 ^ 64 : Nat) : Int)).toNat % 2 ^ 8 := by
  rw [BitVec.toNat_and, BitVec.toNat_ofInt, h1, Nat.and_two_pow_sub_one_eq_mod]
 show IntKind.i64.wrap ((BitVec.ofInt 64 n &&& BitVec.ofInt 64 255).toNat : Nat) = n % 256
 rw [key, IntKind.wrap_i64]
 omega
/-- The cursor stands inside the bytes. -/
def CurOk (b : List Int) (i : Int) : Prop := b.length ≤ 1048576 ∧ 0 ≤ i ∧ i ≤ (b.length : Int)
theorem l1Byte_ok (b : List Int) (i h : Int) (ok : CurOk b i) : ∃ x i' h', spec_l1Byte.f b i h = some (x, i', h') ∧ (0 ≤ x ∧ x ≤ 255) ∧ CurOk b i' := by
 obtain ⟨o1, o2, o3⟩ := ok
 unfold spec_l1Byte.f
 by_cases c : i < (b.length : Int)
 ·rw [if_pos c, if_pos o2]
  refine ⟨_, _, _, rfl, ?_, o1, ?_⟩
  ·rw [i64_and255]; omega
  ·rw [w64_of (by omega) (by omega)]; omega
 ·rw [if_neg c]
  refine ⟨_, _, _, rfl, ?_, o1, o2, o3⟩
  rw [i64_and255]; omega
theorem tmod_in (x n : Int) (h0 : 0 ≤ x) (hn : 1 ≤ n) : 0 ≤ Int.tmod x n ∧ Int.tmod x n < n :=
 ⟨Int.tmod_nonneg n h0, by have := Int.tmod_lt_of_pos x (show 0 < n by omega); exact this⟩
theorem l1Below_ok (b : List Int) (i h n : Int) (ok : CurOk b i) : ∃ x i' h', spec_l1Below.f b i h n = some (x, i', h') ∧ (0 ≤ x ∧ (1 ≤ n → x < n) ∧ (n ≤ 0 → x = 0)) ∧ CurOk b i' := by
 unfold spec_l1Below.f
 by_cases c : n ≤ 0
 ·rw [if_pos c]
  exact ⟨_, _, _, rfl, ⟨by omega, by omega, fun _ => rfl⟩, ok⟩
 rw [if_neg c]
 obtain ⟨x, i1, h1, e1, b1, k1⟩ := l1Byte_ok b i h ok
 rw [e1]
 by_cases c2 : n ≤ 256
 ·rw [if_pos c2]
  simp only [Option.bind_some]
  rw [if_neg (by omega)]
  exact ⟨_, _, _, rfl, ⟨(tmod_in x n b1.1 (by omega)).1, fun _ => (tmod_in x n b1.1 (by omega)).2, by omega⟩, k1⟩
 ·rw [if_neg c2]
  obtain ⟨y, i2, h2, e2, b2, k2⟩ := l1Byte_ok b i1 h1 k1
  obtain ⟨z, i3, h3, e3, b3, k3⟩ := l1Byte_ok b i2 h2 k2
  obtain ⟨u, i4, h4, e4, b4, k4⟩ := l1Byte_ok b i3 h3 k3
  simp only [Option.bind_some, e2, e3, e4]
  rw [if_neg (by omega)]
  have hv : 0 ≤ wrap64 ((wrap64 ((wrap64 ((wrap64 (x * 16777216)) + (wrap64 (y * 65536)))) + (wrap64 (z * 256)))) + u) := by
   rw [w64_of (x := x * 16777216) (by omega) (by omega), w64_of (x := y * 65536) (by omega) (by omega), w64_of (x := z * 256) (by omega) (by omega), w64_of (x := x * 16777216 + y * 65536) (by omega) (by omega), w64_of (x := x * 16777216 + y * 65536 + z * 256) (by omega) (by omega), w64_of (by omega) (by omega)]
   omega
  exact ⟨_, _, _, rfl, ⟨(tmod_in _ n hv (by omega)).1, fun _ => (tmod_in _ n hv (by omega)).2, by omega⟩, k4⟩
theorem l1Once_ok (b : List Int) (i h n : Int) (ok : CurOk b i) : ∃ x i' h', spec_l1Once.f b i h n = some (x, i', h') ∧ CurOk b i' := by
 unfold spec_l1Once.f
 obtain ⟨x, i1, h1, e1, _, k1⟩ := l1Below_ok b i h n ok
 rw [e1]
 exact ⟨_, _, _, rfl, k1⟩
theorem l1PickInt_ok (b : List Int) (i h : Int) (l : List Int) (ok : CurOk b i) (hl : 1 ≤ l.length) : ∃ x i' h', spec_l1PickInt.f b i h l = some (x, i', h') ∧ x ∈ l ∧ CurOk b i' := by
 unfold spec_l1PickInt.f
 obtain ⟨x, i1, h1, e1, b1, k1⟩ := l1Below_ok b i h (l.length : Int) ok
 have b2 := b1.2.1 (by omega)
 rw [e1]
 simp only [Option.bind_some]
 rw [if_pos b1.1, if_pos b2]
 refine ⟨_, _, _, rfl, ?_, k1⟩
 obtain ⟨m, rfl⟩ : ∃ m : Nat, x = (m : Int) := ⟨x.toNat, by omega⟩
 rw [rd_at l m (by omega)]
 exact List.getElem_mem _
theorem l1New_l0 (b : List Int) (hb : b.length ≤ 1048576) : ∀ (d i : Nat) (h : Int), i + d = 4001 → ∃ h', Ev (fun k => spec_l1New.l0 k b h (i : Int)) (b, 0, h') := by
 intro d
 induction d with
 | zero =>
  intro i h hi
  refine ⟨h, Ev.one (fun k => by rw [spec_l1New.l0]) ?_⟩
  by_cases c : (i : Int) < (b.length : Int)
  ·exact Ev.pos c (Ev.neg (by omega) (Ev.now _))
  ·exact Ev.neg c (Ev.now _)
 | succ d ih =>
  intro i h hi
  by_cases c : (i : Int) < (b.length : Int)
  ·by_cases c2 : (i : Int) < 4000
   ·obtain ⟨h', e⟩ := ih (i + 1) (Go.bits .and .i64 (wrap64 ((wrap64 ((wrap64 (h * 131)) + (wrap64 (rd b (i : Int))))) + 7)) 1073741823) (by omega)
    refine ⟨h', Ev.one (fun k => by rw [spec_l1New.l0]) ?_⟩
    refine Ev.pos c (Ev.pos c2 (Ev.pos (by omega) ?_))
    rw [w64_succ i (by omega)]
    exact e
   ·refine ⟨h, Ev.one (fun k => by rw [spec_l1New.l0]) ?_⟩
    exact Ev.pos c (Ev.neg c2 (Ev.now _))
  ·refine ⟨h, Ev.one (fun k => by rw [spec_l1New.l0]) ?_⟩
   exact Ev.neg c (Ev.now _)
theorem l1New_ok (b : List Int) (hb : b.length ≤ 1048576) : ∃ h, Ev (fun k => spec_l1New.f k b) (b, 0, h) ∧ CurOk b 0 := by
 obtain ⟨h', e⟩ := l1New_l0 b hb 4001 0 (wrap64 (26583 + (b.length : Int))) (by omega)
 exact ⟨h', e, hb, by omega, by omega⟩
/-! drawsg: the drawn semigroups -/
def sB (g : List Int) : Nat → Int → Bool
 | 0, n => decide (n = 0)
 | f + 1, n => decide (n = 0) || g.any fun x => decide (x ≤ n) && sB g f (n - x)
theorem sB_sound (g : List Int) : ∀ (f : Nat) (n : Int), sB g f n = true → Sums g n := by
 intro f
 induction f with
 | zero => intro n h; rw [sB, decide_eq_true_eq] at h; rw [h]; exact Sums.zero g
 | succ f ih =>
  intro n h
  rw [sB, Bool.or_eq_true, decide_eq_true_eq, List.any_eq_true] at h
  rcases h with h | ⟨x, hx, h⟩
  ·rw [h]; exact Sums.zero g
  ·rw [Bool.and_eq_true] at h
   have := Sums.add hx (ih _ h.2)
   rwa [show n - x + x = n from by omega] at this
theorem sB_all (g : List Int) (hp : ∀ x ∈ g, 1 ≤ x) : ∀ (f : Nat) (n : Int), n ≤ (f : Int) → Sums g n → sB g f n = true := by
 intro f
 induction f with
 | zero => intro n h hs; have := hs.nonneg hp; rw [sB, decide_eq_true_eq]; omega
 | succ f ih =>
  intro n h hs
  rw [sB, Bool.or_eq_true, decide_eq_true_eq, List.any_eq_true]
  by_cases h0 : n = 0
  ·exact .inl h0
  ·obtain ⟨x, hx, hxn, hc⟩ := hs.cut hp h0
   have := hp x hx
   exact .inr ⟨x, hx, by rw [Bool.and_eq_true, decide_eq_true_eq]; exact ⟨hxn, ih _ (by omega) hc⟩⟩
theorem SG_of (g : List Int) (a : Nat) (w : List Int) (ha : 1 ≤ a) (hm : (a : Int) ∈ g) (h1 : 1 ≤ g.length ∧ g.length ≤ 12) (h2 : ∀ x ∈ g, 1 ≤ x ∧ x ≤ 60) (h3 : asc g) (h4 : gcdL g = 1)
  (h5 : ∀ k, k < g.length → k = 0 ∨ (g.getD k 0 ≤ 60 ∧ sB (g.take k) 60 (g.getD k 0) = false))
  (h6 : ∀ r : Nat, r < a → ∃ m ∈ w, m ≤ 200 ∧ m % (a : Int) = (r : Int) ∧ sB g 60 m = true) : SG g := by
 refine ⟨h1.1, h1.2, h2, h3, h4, fun k hk => ?_, fun n hn => ?_⟩
 ·rcases h5 k hk with h | h
  ·exact .inl h
  ·refine .inr fun hs => ?_
   have := sB_all (g.take k) (fun x hx => (h2 x (List.mem_of_mem_take hx)).1) 60 _ h.1 hs
   rw [h.2] at this
   cases this
 ·obtain ⟨m, _, m1, m2, m3⟩ := h6 (n % (a : Int)).toNat (by have := Int.emod_nonneg n (show (a : Int) ≠ 0 by omega); have := Int.emod_lt_of_pos n (show (0 : Int) < a by omega); omega)
  have e0 := Int.emod_nonneg n (show (a : Int) ≠ 0 by omega)
  have e1 : m % (a : Int) = n % (a : Int) := by omega
  have e2 : (n - m) % (a : Int) = 0 := Int.emod_eq_emod_iff_emod_sub_eq_zero.1 e1.symm
  obtain ⟨q, hq⟩ := Int.dvd_of_emod_eq_zero e2
  have hq0 : 0 ≤ q := Classical.byContradiction fun hn' => by
   have : (a : Int) * q ≤ (a : Int) * (-1) := Int.mul_le_mul_of_nonneg_left (by omega) (by omega)
   omega
  obtain ⟨c, rfl⟩ : ∃ c : Nat, q = (c : Int) := ⟨q.toNat, by omega⟩
  have := (sB_sound g 60 m m3).both (Sums.times hm c)
  rwa [show m + (c : Int) * (a : Int) = n from by rw [Int.mul_comm]; omega] at this
def eight : List (List Int) := [[1], [3, 5], [4, 6, 9], [3, 4, 5], [6, 9, 20], [5, 7, 9, 11], [2, 3], [4, 5, 11]]
theorem eight_SG : ∀ g ∈ eight, SG g := by
 intro g hg
 have a1 : ∀ l : List Int, l.Pairwise (· < ·) → asc l := fun _ h => h
 simp only [eight, List.mem_cons, List.not_mem_nil, or_false] at hg
 rcases hg with rfl | rfl | rfl | rfl | rfl | rfl | rfl | rfl
 ·exact SG_of _ 1 [0] (by decide) (by decide) (by decide) (by decide) (a1 _ (by decide)) (by decide) (by decide) (by decide)
 ·exact SG_of _ 3 [0, 10, 5] (by decide) (by decide) (by decide) (by decide) (a1 _ (by decide)) (by decide) (by decide +kernel) (by decide +kernel)
 ·exact SG_of _ 4 [0, 9, 6, 15] (by decide) (by decide) (by decide) (by decide) (a1 _ (by decide)) (by decide) (by decide +kernel) (by decide +kernel)
 ·exact SG_of _ 3 [0, 4, 5] (by decide) (by decide) (by decide) (by decide) (a1 _ (by decide)) (by decide) (by decide +kernel) (by decide +kernel)
 ·exact SG_of _ 6 [0, 49, 20, 9, 40, 29] (by decide) (by decide) (by decide) (by decide) (a1 _ (by decide)) (by decide) (by decide +kernel) (by decide +kernel)
 ·exact SG_of _ 5 [0, 11, 7, 18, 9] (by decide) (by decide) (by decide) (by decide) (a1 _ (by decide)) (by decide) (by decide +kernel) (by decide +kernel)
 ·exact SG_of _ 2 [0, 3] (by decide) (by decide) (by decide) (by decide) (a1 _ (by decide)) (by decide) (by decide +kernel) (by decide +kernel)
 ·exact SG_of _ 4 [0, 5, 10, 11] (by decide) (by decide) (by decide) (by decide) (a1 _ (by decide)) (by decide) (by decide +kernel) (by decide +kernel)
/-- What spec.FromGens gives. -/
theorem spec_FromGens_ev (l : List Int) (hl : l.length ≤ 1048576) : ∃ r : List Int × Bool, ((r.2 = true → SG r.1) ∧ (r.2 = false → r.1 = []) ∧ (SG l → r = (l, true))) ∧ Ev (fun k => spec_FromGens.f k l) r := by
 have u1 := spec_l3Gens_ev l hl
 unfold spec_FromGens.f
 cases hb : (allIn l 1 60 && decide ((1 : Int) ≤ (l.length : Int) ∧ (l.length : Int) ≤ 20)) with
 | false =>
  rw [hb] at u1
  refine ⟨([], false), ⟨by simp, by simp, fun h => ?_⟩, Ev.bnd u1 (Ev.neg (by decide) (Ev.now _))⟩
  rw [(allIn_iff l 1 60).2 h.rng, Bool.true_and, decide_eq_false_iff_not] at hb
  have := h.len1; have := h.len2
  omega
 | true =>
  rw [hb] at u1
  rw [Bool.and_eq_true, decide_eq_true_eq] at hb
  have hr := (allIn_iff l 1 60).1 hb.1
  obtain ⟨s, s1, s2⟩ := spec_l3Minimal_ev l hl (fun x hx => by have := hr x hx; omega)
  have hml := minL_len s
  obtain ⟨c, c1, c2⟩ := spec_IsSemigroup_ev (minL s) (by omega)
  refine ⟨if c = true then (minL s, true) else ([], false), ⟨?_, ?_, fun h => ?_⟩, Ev.bnd u1 (Ev.pos rfl (Ev.bnd s2 (Ev.bnd c2 ?_)))⟩
  ·cases c with
   | true => exact fun _ => c1.1 rfl
   | false => intro h; cases h
  ·cases c with
   | true => intro h; cases h
   | false => exact fun _ => rfl
  ·obtain rfl : s = l := asc_uniq s l s1.1 h.up s1.2.1
   have e := (minL_iff s).2 h.free
   rw [e] at c1 ⊢
   rw [if_pos (c1.2 h)]
  ·cases c with
   | true => exact Ev.pos rfl (Ev.now _)
   | false => exact Ev.neg (by decide) (Ev.now _)
theorem l3List_ok (b : List Int) (i h : Int) (ok : CurOk b i) : ∃ x i' h', spec_l3List.f b i h = some (x, i', h') ∧ SG x ∧ CurOk b i' := by
 unfold spec_l3List.f
 obtain ⟨x, i1, h1, e1, b1, k1⟩ := l1Below_ok b i h 8 ok
 have b2 := b1.2.1 (by omega)
 rw [e1]
 simp only [Option.bind_some]
 have key : ∀ g ∈ eight, ∃ x i' h', (some (g, i1, h1) : Option (List Int × Int × Int)) = some (x, i', h') ∧ SG x ∧ CurOk b i' := fun g hg => ⟨_, _, _, rfl, eight_SG g hg, k1⟩
 by_cases c0 : x = 0
 ·rw [if_pos c0]; exact key _ (by decide)
 rw [if_neg c0]
 by_cases c1 : x = 1
 ·rw [if_pos c1]; exact key _ (by decide)
 rw [if_neg c1]
 by_cases c2 : x = 2
 ·rw [if_pos c2]; exact key _ (by decide)
 rw [if_neg c2]
 by_cases c3 : x = 3
 ·rw [if_pos c3]; exact key _ (by decide)
 rw [if_neg c3]
 by_cases c4 : x = 4
 ·rw [if_pos c4]; exact key _ (by decide)
 rw [if_neg c4]
 by_cases c5 : x = 5
 ·rw [if_pos c5]; exact key _ (by decide)
 rw [if_neg c5]
 by_cases c6 : x = 6
 ·rw [if_pos c6]; exact key _ (by decide)
 ·rw [if_neg c6]; exact key _ (by decide)
theorem l3Fall_ok (b : List Int) (i h : Int) (ok : CurOk b i) : ∃ x i' h', SG x ∧ CurOk b i' ∧ Ev (fun k => (spec_l3List.f b i h).bind fun bt => (spec_FromGens.f k bt.1).bind fun bu => (some (bu.1, bt.2.1, bt.2.2))) (x, i', h') := by
 obtain ⟨x, i1, h1, e1, b1, k1⟩ := l3List_ok b i h ok
 obtain ⟨r, r1, r2⟩ := spec_FromGens_ev x (by have := b1.len2; omega)
 obtain rfl := r1.2.2 b1
 have f1 : Ev (fun _ : Nat => spec_l3List.f b i h) (x, i1, h1) := Ev.const e1
 exact ⟨x, i1, h1, b1, k1, Ev.bnd f1 (Ev.bnd r2 (Ev.now _))⟩
theorem l3Draw_l1 (b : List Int) (x5 : Int) (next : ∀ i h, CurOk b i → ∃ x i' h', SG x ∧ CurOk b i' ∧ Ev (fun k => spec_l3Draw.l0 k (wrap64 (x5 + 1)) b i h) (x, i', h')) (x7 : Int) (h7 : x7 ≤ 4) :
  ∀ (d j : Nat) (l : List Int) (i h : Int), j + d = 4 → l.length = j + 1 → (∀ x ∈ l.take 1, 0 ≤ x ∧ x ≤ 100) → CurOk b i → ∃ x i' h', SG x ∧ CurOk b i' ∧ Ev (fun k => spec_l3Draw.l1 k x5 l x7 (j : Int) b i h) (x, i', h') := by
 intro d
 induction d with
 | zero =>
  intro j l i h hj hl h0 ok
  obtain ⟨r, r1, r2⟩ := spec_FromGens_ev l (by omega)
  cases hr : r.2 with
  | true =>
   refine ⟨r.1, i, h, r1.1 hr, ok, Ev.one (fun k => by rw [spec_l3Draw.l1]) (Ev.neg (by omega) (Ev.bnd r2 (Ev.pos hr (Ev.now _))))⟩
  | false =>
   obtain ⟨x, i', h', n1, n2, n3⟩ := next i h ok
   exact ⟨x, i', h', n1, n2, Ev.one (fun k => by rw [spec_l3Draw.l1]) (Ev.neg (by omega) (Ev.bnd r2 (Ev.neg (show ¬ r.2 = true by rw [hr]; decide) n3)))⟩
 | succ d ih =>
  intro j l i h hj hl h0 ok
  by_cases c : (j : Int) < x7
  ·obtain ⟨y, i1, h1, e1, b1, k1⟩ := l1Below_ok b i h 12 ok
   have e1' : Ev (fun _ : Nat => spec_l1Below.f b i h 12) (y, i1, h1) := Ev.const e1
   obtain ⟨x, i', h', n1, n2, n3⟩ := ih (j + 1) (l ++ [wrap64 ((wrap64 ((rd l 0) + 1)) + y)]) i1 h1 (by omega) (by simp; omega) (by rw [List.take_append_of_le_length (by omega)]; exact h0) k1
   refine ⟨x, i', h', n1, n2, ?_⟩
   refine Ev.one (fun k => by rw [spec_l3Draw.l1]) ?_
   refine Ev.pos c (Ev.pos (by omega) (Ev.bnd e1' ?_))
   rw [w64_succ j (by omega)]
   exact Ev.pos (show l.length < 17592186044416 by omega) n3
  ·obtain ⟨r, r1, r2⟩ := spec_FromGens_ev l (by omega)
   cases hr : r.2 with
   | true =>
    refine ⟨r.1, i, h, r1.1 hr, ok, Ev.one (fun k => by rw [spec_l3Draw.l1]) (Ev.neg c (Ev.bnd r2 (Ev.pos hr (Ev.now _))))⟩
   | false =>
    obtain ⟨x, i', h', n1, n2, n3⟩ := next i h ok
    exact ⟨x, i', h', n1, n2, Ev.one (fun k => by rw [spec_l3Draw.l1]) (Ev.neg c (Ev.bnd r2 (Ev.neg (show ¬ r.2 = true by rw [hr]; decide) n3)))⟩
theorem l3Draw_l0 (b : List Int) : ∀ (d q : Nat) (i h : Int), q + d = 4 → CurOk b i → ∃ x i' h', SG x ∧ CurOk b i' ∧ Ev (fun k => spec_l3Draw.l0 k (q : Int) b i h) (x, i', h') := by
 intro d
 induction d with
 | zero =>
  intro q i h hq ok
  obtain ⟨x, i', h', n1, n2, n3⟩ := l3Fall_ok b i h ok
  exact ⟨x, i', h', n1, n2, Ev.one (fun k => by rw [spec_l3Draw.l0]) (Ev.neg (by omega) n3)⟩
 | succ d ih =>
  intro q i h hq ok
  obtain ⟨y, i1, h1, e1, b1, k1⟩ := l1Below_ok b i h 8 ok
  obtain ⟨z, i2, h2, e2, b2, k2⟩ := l1Below_ok b i1 h1 4 k1
  have f1 : Ev (fun _ : Nat => spec_l1Below.f b i h 8) (y, i1, h1) := Ev.const e1
  have f2 : Ev (fun _ : Nat => spec_l1Below.f b i1 h1 4) (z, i2, h2) := Ev.const e2
  have y8 := b1.2.1 (by omega)
  have z4 := b2.2.1 (by omega)
  have h7 : wrap64 (1 + z) ≤ 4 := by rw [w64_of (by omega) (by omega)]; omega
  obtain ⟨x, i', h', n1, n2, n3⟩ := l3Draw_l1 b (q : Int) (fun i h ok => by rw [w64_succ q (by omega)]; exact ih (q + 1) i h (by omega) ok) (wrap64 (1 + z)) h7 4 0 [wrap64 (2 + y)] i2 h2 (by omega) rfl (by
   intro x hx
   rw [List.mem_singleton.1 hx, w64_of (by omega) (by omega)]
   omega) k2
  exact ⟨x, i', h', n1, n2, Ev.one (fun k => by rw [spec_l3Draw.l0]) (Ev.pos (by omega) (Ev.bnd f1 (Ev.bnd f2 n3)))⟩
theorem l3Draw_ok (b : List Int) (i h : Int) (ok : CurOk b i) : ∃ x i' h', SG x ∧ CurOk b i' ∧ Ev (fun k => spec_l3Draw.f k b i h) (x, i', h') := by
 unfold spec_l3Draw.f
 obtain ⟨y, i1, h1, e1, k1⟩ := l1Once_ok b i h 4 ok
 have f1 : Ev (fun _ : Nat => spec_l1Once.f b i h 4) (y, i1, h1) := Ev.const e1
 cases y with
 | true =>
  obtain ⟨x, i', h', n1, n2, n3⟩ := l3Fall_ok b i1 h1 k1
  exact ⟨x, i', h', n1, n2, Ev.bnd f1 (Ev.pos rfl n3)⟩
 | false =>
  obtain ⟨x, i', h', n1, n2, n3⟩ := l3Draw_l0 b 4 0 i1 h1 (by omega) k1
  exact ⟨x, i', h', n1, n2, Ev.bnd f1 (Ev.neg (show ¬ false = true by decide) n3)⟩
theorem l3Bent_ok (b : List Int) (i h : Int) (ok : CurOk b i) : ∃ x i' h', x.length ≤ 13 ∧ CurOk b i' ∧ Ev (fun k => spec_l3Bent.f k b i h) (x, i', h') := by
 unfold spec_l3Bent.f
 obtain ⟨g, i1, h1, hS, k1, e1⟩ := l3Draw_ok b i h ok
 have n1 := hS.len1; have n2 := hS.len2
 obtain ⟨y, i2, h2, e2, b2, k2⟩ := l1Below_ok b i1 h1 12 k1
 have f2 : Ev (fun _ : Nat => spec_l1Below.f b i1 h1 12) (y, i2, h2) := Ev.const e2
 by_cases c0 : y = 0
 ·obtain ⟨v, i3, h3, e3, _, k3⟩ := l1PickInt_ok b i2 h2 [0, 61, 12, (-3), 60] k2 (by decide)
  have f3 : Ev (fun _ : Nat => spec_l1PickInt.f b i2 h2 [0, 61, 12, (-3), 60]) (v, i3, h3) := Ev.const e3
  exact ⟨g ++ [v], i3, h3, by simp; omega, k3, Ev.bnd e1 (Ev.bnd f2 (Ev.pos c0 (Ev.bnd f3 (Ev.pos (by show g.length < _; omega) (Ev.now _)))))⟩
 by_cases c1 : y = 1
 ·exact ⟨g.drop 1, i2, h2, by simp; omega, k2, Ev.bnd e1 (Ev.bnd f2 (Ev.neg c0 (Ev.pos c1 (Ev.pos (by show 1 ≤ (g.length : Int); omega) (Ev.now _)))))⟩
 by_cases c2 : y = 2
 ·obtain ⟨v, i3, h3, e3, _, k3⟩ := l1PickInt_ok b i2 h2 [0, 59, 4] k2 (by decide)
  have f3 : Ev (fun _ : Nat => spec_l1PickInt.f b i2 h2 [0, 59, 4]) (v, i3, h3) := Ev.const e3
  exact ⟨[v, 60], i3, h3, by simp, k3, Ev.bnd e1 (Ev.bnd f2 (Ev.neg c0 (Ev.neg c1 (Ev.pos c2 (Ev.bnd f3 (Ev.now _))))))⟩
 ·exact ⟨g, i2, h2, by omega, k2, Ev.bnd e1 (Ev.bnd f2 (Ev.neg c0 (Ev.neg c1 (Ev.neg c2 (Ev.now _)))))⟩
/-! draw2: drawn lists of small numbers -/
theorem l2Draw_l0 (b : List Int) (x4 : Int) (h4 : x4 ≤ 5) : ∀ (d q : Nat) (l : List Int) (i h : Int), q + d = 5 → l.length = q → CurOk b i → ∃ x i' h', x.length ≤ 5 ∧ CurOk b i' ∧ Ev (fun k => spec_l2Draw.l0 k l x4 (q : Int) b i h) (x, i', h') := by
 intro d
 induction d with
 | zero =>
  intro q l i h hq hl ok
  refine ⟨l, i, h, by omega, ok, Ev.one (fun k => by rw [spec_l2Draw.l0]) ?_⟩
  exact Ev.neg (by omega) (Ev.now _)
 | succ d ih =>
  intro q l i h hq hl ok
  by_cases c : (q : Int) < x4
  ·obtain ⟨y, i1, h1, e1, _, k1⟩ := l1Below_ok b i h 25 ok
   have f1 : Ev (fun _ : Nat => spec_l1Below.f b i h 25) (y, i1, h1) := Ev.const e1
   obtain ⟨x, i', h', n1, n2, n3⟩ := ih (q + 1) (l ++ [wrap64 (y - 4)]) i1 h1 (by omega) (by simp; omega) k1
   refine ⟨x, i', h', n1, n2, ?_⟩
   refine Ev.one (fun k => by rw [spec_l2Draw.l0]) ?_
   refine Ev.pos c (Ev.bnd f1 ?_)
   rw [w64_succ q (by omega)]
   exact Ev.pos (show l.length < 17592186044416 by omega) n3
  ·refine ⟨l, i, h, by omega, ok, Ev.one (fun k => by rw [spec_l2Draw.l0]) ?_⟩
   exact Ev.neg c (Ev.now _)
theorem l2Draw_ok (b : List Int) (i h : Int) (ok : CurOk b i) : ∃ x i' h', x.length ≤ 5 ∧ CurOk b i' ∧ Ev (fun k => spec_l2Draw.f k b i h) (x, i', h') := by
 unfold spec_l2Draw.f
 obtain ⟨y, i1, h1, e1, b1, k1⟩ := l1Below_ok b i h 6 ok
 have f1 : Ev (fun _ : Nat => spec_l1Below.f b i h 6) (y, i1, h1) := Ev.const e1
 obtain ⟨x, i', h', n1, n2, n3⟩ := l2Draw_l0 b y (by have := b1.2.1 (by omega); omega) 5 0 [] i1 h1 (by omega) rfl k1
 exact ⟨x, i', h', n1, n2, Ev.bnd f1 n3⟩
theorem l2Bent_ok (b : List Int) (i h : Int) (ok : CurOk b i) : ∃ x i' h', x.length ≤ 6 ∧ CurOk b i' ∧ Ev (fun k => spec_l2Bent.f k b i h) (x, i', h') := by
 unfold spec_l2Bent.f
 obtain ⟨x, i1, h1, hx, k1, e1⟩ := l2Draw_ok b i h ok
 obtain ⟨y, i2, h2, e2, k2⟩ := l1Once_ok b i1 h1 8 k1
 have f2 : Ev (fun _ : Nat => spec_l1Once.f b i1 h1 8) (y, i2, h2) := Ev.const e2
 cases y with
 | false => exact ⟨x, i2, h2, by omega, k2, Ev.bnd e1 (Ev.bnd f2 (Ev.neg (show ¬ false = true by decide) (Ev.now _)))⟩
 | true =>
  obtain ⟨v, i3, h3, e3, _, k3⟩ := l1PickInt_ok b i2 h2 [1000000, 1000001, (-1000001), (-9223372036854775808)] k2 (by decide)
  have f3 : Ev (fun _ : Nat => spec_l1PickInt.f b i2 h2 [1000000, 1000001, (-1000001), (-9223372036854775808)]) (v, i3, h3) := Ev.const e3
  exact ⟨x ++ [v], i3, h3, by simp; omega, k3, Ev.bnd e1 (Ev.bnd f2 (Ev.pos rfl (Ev.bnd f3 (Ev.pos (show x.length < 17592186044416 by omega) (Ev.now _)))))⟩
/-! series: partial sums of the numerator, EulerList at its places, mirrors -/
theorem numF_split (g : List Int) (n : Nat) : numF g n = bitI g (n : Int) - (if n = 0 then 0 else bitI g ((n : Int) - 1)) := by
 unfold numF bitI
 by_cases h : n = 0
 ·have hn : ¬ (n ≠ 0 ∧ elB g ((n : Int) - 1) = true) := fun q => q.1 h
  rw [if_pos h, if_neg hn]
 ·rw [if_neg h]
  have e : (n ≠ 0 ∧ elB g ((n : Int) - 1) = true) ↔ elB g ((n : Int) - 1) = true := ⟨fun q => q.2, fun q => ⟨h, q⟩⟩
  simp only [e]
theorem numL_rd (g : List Int) (m n : Nat) (h : n < m) : rd (numL g m) (n : Int) = numF g n := by
 rw [rd_at _ _ (by rw [numL_len]; exact h)]
 unfold numL
 rw [List.getElem_map, List.getElem_range]
theorem psum_num (g : List Int) (C : Nat) (hC : ∀ n : Nat, C ≤ n → elB g (n : Int) = true) : ∀ n : Nat, psum (numL g (C + 1)) n = bitI g (n : Int) := by
 intro n
 induction n with
 | zero =>
  show rd (numL g (C + 1)) ((0 : Nat) : Int) = _
  rw [numL_rd g (C + 1) 0 (by omega), numF_split, if_pos rfl]
  omega
 | succ n ih =>
  show psum (numL g (C + 1)) n + rd (numL g (C + 1)) ((n + 1 : Nat) : Int) = _
  rw [ih]
  by_cases c : n + 1 < C + 1
  ·rw [numL_rd g (C + 1) (n + 1) c, numF_split, if_neg (by omega), show ((n + 1 : Nat) : Int) - 1 = (n : Int) from by omega]
   omega
  ·rw [rd_out _ _ (by rw [numL_len]; omega)]
   have h1 := hC n (by omega)
   have h2 := hC (n + 1) (by omega)
   unfold bitI
   rw [if_pos h1, if_pos h2]
   rfl
theorem eu_swap (g : List Int) (x y : Int) (t : List Int) (n : Int) : eu g (x :: y :: t) n = eu g (y :: x :: t) n := by
 show (eu g t n - eu g t (n - y)) - (eu g t (n - x) - eu g t (n - x - y)) = (eu g t n - eu g t (n - x)) - (eu g t (n - y) - eu g t (n - y - x))
 rw [show n - x - y = n - y - x from by omega]
 omega
theorem eu_perm (g : List Int) {a b : List Int} (h : a.Perm b) : ∀ n, eu g a n = eu g b n := by
 induction h with
 | nil => intro n; rfl
 | cons x _ ih =>
  intro n
  show eu g _ n - eu g _ (n - x) = eu g _ n - eu g _ (n - x)
  rw [ih n, ih (n - x)]
 | swap x y t => intro n; exact eu_swap g y x t n
 | trans _ _ h1 h2 => intro n; rw [h1 n, h2 n]
theorem steps_eu (g : List Int) (hS : SG g) : ∀ (r l : List Int) (f : Nat → Int), (∀ x ∈ r, 1 ≤ x ∧ x ≤ 60) → (∀ x ∈ l, 1 ≤ x ∧ x ≤ 60) → (∀ n : Nat, f n = eu g l (n : Int)) → ∀ n : Nat, stepsE f r n = eu g (r.reverse ++ l) (n : Int)
 | [], l, f, _, _, h, n => h n
 | x :: r, l, f, hr, hl, h, n => by
  have hx := hr x List.mem_cons_self
  have hl2 : ∀ y ∈ x :: l, 1 ≤ y ∧ y ≤ 60 := fun y hy => by
   rcases List.mem_cons.1 hy with e | e
   ·rw [e]; exact hx
   ·exact hl y e
  have key := steps_eu g hS r (x :: l) (stepE f x.toNat) (fun y hy => hr y (List.mem_cons_of_mem _ hy)) hl2 (fun m => by
   show stepE f x.toNat m = eu g l (m : Int) - eu g l ((m : Int) - x)
   unfold stepE
   rw [h m]
   by_cases c : x.toNat ≤ m
   ·rw [if_pos c, h (m - x.toNat), show ((m - x.toNat : Nat) : Int) = (m : Int) - x from by omega]
   ·rw [if_neg c, eu_neg g hS l ((m : Int) - x) hl (by omega)]) n
  show stepsE (stepE f x.toNat) r n = _
  rw [key, List.reverse_cons, List.append_assoc]
  rfl
/-- EulerList at one of its places is EulerAt there. -/
theorem steps_at (g : List Int) (hS : SG g) (C : Nat) (hC : ∀ n : Nat, C ≤ n → elB g (n : Int) = true) (n : Nat) : stepsE (psum (numL g (C + 1))) g n = eu g g (n : Int) := by
 rw [steps_eu g hS g [] _ hS.rng (fun x hx => by cases hx) (fun m => psum_num g C hC m) n, List.append_nil]
 exact eu_perm g (List.reverse_perm g) _
theorem euler_at (g : List Int) (hS : SG g) (hlen : g.length ≤ 1048576) (b3 : Ev (fun k => impl_IsSemigroup.f k g) true) (n : Int) (hx : 0 ≤ n ∧ n ≤ 1000) : Ev (fun k => impl_EulerAt.f k g n) (eu g g n) := by
 have hl := hS.len2
 have w2 := impl_within_ev n 0 1000
 rw [decide_eq_true hx] at w2
 obtain ⟨p, p1, p2⟩ := reach_any g hlen
 have hM : 2 ^ g.length ≤ 4096 := Nat.le_trans (Nat.pow_le_pow_right (by omega) hl) (Nat.le_of_eq rfl)
 have e2 := impl_euler_l0 g hS p (p1 hS) n hx (2 ^ g.length) hM (2 ^ g.length) 0 (by omega) 0 (by omega) (by omega)
 rw [sm_wt, Int.zero_add, Int.one_mul] at e2
 unfold impl_EulerAt.f
 refine Ev.bnd b3 (Ev.pos rfl (Ev.bnd w2 ?_))
 refine Ev.one (fun k => by rw [impl_EulerAt.j0]) ?_
 rw [shl_one g.length hl]
 exact Ev.neg (by decide) (Ev.bnd p2 e2)
theorem pal_char (l : List Int) (hl : l.length ≤ 1048576) : ∃ b, (b = true ↔ ∀ i : Nat, i < l.length → rd l (i : Int) = rd l ((l.length : Int) - 1 - (i : Int))) ∧ Ev (fun k => impl_IsPalindrome.f k l) b := by
 have go : ∀ (d i : Nat), i + d = l.length → (∀ j : Nat, j < i → rd l (j : Int) = rd l ((l.length : Int) - 1 - (j : Int))) →
   ∃ b, (b = true ↔ ∀ i : Nat, i < l.length → rd l (i : Int) = rd l ((l.length : Int) - 1 - (i : Int))) ∧ Ev (fun k => impl_IsPalindrome.l0 k l (l.length : Int) (i : Int)) b := by
  intro d
  induction d with
  | zero =>
   intro i hi h
   refine ⟨true, ⟨fun _ j hj => h j (by omega), fun _ => rfl⟩, Ev.one (fun k => by rw [impl_IsPalindrome.l0]) ?_⟩
   exact Ev.neg (by omega) (Ev.now _)
  | succ d ih =>
   intro i hi hh
   have e1 : wrap64 ((l.length : Int) - 1) = (l.length : Int) - 1 := w64_of (by omega) (by omega)
   have e2 : wrap64 ((l.length : Int) - 1 - (i : Int)) = (l.length : Int) - 1 - (i : Int) := w64_of (by omega) (by omega)
   by_cases h : rd l (i : Int) = rd l ((l.length : Int) - 1 - (i : Int))
   ·obtain ⟨b, b1, h2⟩ := ih (i + 1) (by omega) (fun j hj => by
     by_cases e : j = i
     ·rw [e]; exact h
     ·exact hh j (by omega))
    refine ⟨b, b1, Ev.one (fun k => by rw [impl_IsPalindrome.l0]) ?_⟩
    rw [e1, e2, w64_succ i (by omega)]
    exact Ev.pos (by omega) (Ev.pos (by omega) (Ev.pos (by omega) (Ev.pos (by omega) (Ev.pos (by omega) (Ev.pos h h2)))))
   ·refine ⟨false, ⟨fun q => (by cases q), fun q => absurd (q i (by omega)) h⟩, Ev.one (fun k => by rw [impl_IsPalindrome.l0]) ?_⟩
    rw [e1, e2]
    exact Ev.pos (by omega) (Ev.pos (by omega) (Ev.pos (by omega) (Ev.pos (by omega) (Ev.pos (by omega) (Ev.neg h (Ev.now _))))))
 unfold impl_IsPalindrome.f
 exact go l.length 0 (by omega) (fun j hj => absurd hj (by omega))
theorem bitI_val (g : List Int) (n : Int) : bitI g n = 0 ∨ bitI g n = 1 := by
 unfold bitI
 split
 ·exact .inr rfl
 ·exact .inl rfl
theorem bitI_ne (g : List Int) (x y : Int) : ¬ elB g x = elB g y ↔ bitI g x + bitI g y = 1 := by
 unfold bitI
 cases elB g x <;> cases elB g y <;> simp
/-- The numerator reads the same from both ends exactly if no number and its mirror are both in or both out. -/
theorem mirror (g : List Int) (hS : SG g) (F : Int) (hF : -1 ≤ F) (C : Nat) (hCF : (C : Int) = F + 1) (hC : ∀ n : Nat, C ≤ n → elB g (n : Int) = true) :
  (∀ i : Nat, i < C + 1 → rd (numL g (C + 1)) (i : Int) = rd (numL g (C + 1)) ((C : Int) - (i : Int))) ↔ ∀ x : Int, 0 ≤ x → x ≤ F → ¬ elB g x = elB g (F - x) := by
 have val : ∀ i : Nat, i < C + 1 → rd (numL g (C + 1)) (i : Int) = bitI g (i : Int) - bitI g ((i : Int) - 1) := fun i hi => by
  rw [numL_rd g (C + 1) i hi, numF_split]
  by_cases e : i = 0
  ·rw [if_pos e, e]
   have : bitI g (((0 : Nat) : Int) - 1) = 0 := by
    unfold bitI
    rw [elB_neg g hS _ (by omega)]
    rfl
   omega
  ·rw [if_neg e]
 have val2 : ∀ i : Nat, i < C + 1 → rd (numL g (C + 1)) ((C : Int) - (i : Int)) = bitI g (F + 1 - (i : Int)) - bitI g (F - (i : Int)) := fun i hi => by
  have := val (C - i) (by omega)
  rw [show ((C - i : Nat) : Int) = (C : Int) - (i : Int) from by omega] at this
  rw [this, hCF, show F + 1 - (i : Int) - 1 = F - (i : Int) from by omega]
 have b0 : bitI g (-1) = 0 := by
  unfold bitI
  rw [elB_neg g hS _ (by omega)]
  rfl
 have b1 : bitI g (F + 1) = 1 := by
  unfold bitI
  have := hC C (Nat.le_refl _)
  rw [hCF] at this
  rw [this]
  rfl
 constructor
 ·intro h
  have all : ∀ i : Nat, i < C + 1 → bitI g (i : Int) + bitI g (F - (i : Int)) = 1 := by
   intro i
   induction i with
   | zero =>
    intro hi
    have := h 0 hi
    rw [val 0 hi, val2 0 hi] at this
    rw [show (((0 : Nat) : Int) - 1) = -1 from by omega, b0, show F + 1 - ((0 : Nat) : Int) = F + 1 from by omega, b1] at this
    omega
   | succ i ih =>
    intro hi
    have h0 := ih (by omega)
    have := h (i + 1) hi
    rw [val (i + 1) hi, val2 (i + 1) hi, show ((i + 1 : Nat) : Int) - 1 = (i : Int) from by omega, show F + 1 - ((i + 1 : Nat) : Int) = F - (i : Int) from by omega] at this
    omega
  intro x hx0 hx1
  obtain ⟨i, rfl⟩ : ∃ i : Nat, x = (i : Int) := ⟨x.toNat, by omega⟩
  exact (bitI_ne g _ _).2 (all i (by omega))
 ·intro h
  have all : ∀ x : Int, -1 ≤ x → x ≤ F + 1 → bitI g x + bitI g (F - x) = 1 := by
   intro x h0 h1
   by_cases e : x = -1
   ·rw [e, b0, show F - -1 = F + 1 from by omega, b1]
    rfl
   ·by_cases e2 : x = F + 1
    ·rw [e2, b1, show F - (F + 1) = -1 from by omega, b0]
     rfl
    ·exact (bitI_ne g _ _).1 (h x (by omega) (by omega))
  intro i hi
  rw [val i hi, val2 i hi]
  have h1 := all (i : Int) (by omega) (by omega)
  have h2 := all ((i : Int) - 1) (by omega) (by omega)
  rw [show F - ((i : Int) - 1) = F + 1 - (i : Int) from by omega] at h2
  omega
/-- All that the law asks of one semigroup value. -/
theorem series_of (g : List Int) (hlen : g.length ≤ 1048576) : ∃ b : Bool, (b = true ↔ SG g) ∧ Ev (fun k => spec_IsSemigroup.f k g) b ∧ Ev (fun k => impl_IsSemigroup.f k g) b ∧
  (b = true → ∃ C N : Nat, C ≤ 200 ∧ N ≤ 1000 ∧ (∀ n : Nat, C ≤ n → elB g (n : Int) = true) ∧ Ev (fun k => spec_FrobeniusOf.f k g) ((C : Int) - 1) ∧
   Ev (fun k => spec_NumeratorOf.f k g) (numL g (C + 1)) ∧ Ev (fun k => impl_NumeratorOf.f k g) (numL g (C + 1)) ∧
   Ev (fun k => spec_EulerList.f k g) (tab (stepsE (psum (numL g (C + 1))) g) N) ∧ Ev (fun k => impl_EulerList.f k g) (tab (stepsE (psum (numL g (C + 1))) g) N)) ∧
  (b = false → Ev (fun k => spec_NumeratorOf.f k g) [] ∧ Ev (fun k => impl_NumeratorOf.f k g) [] ∧ Ev (fun k => spec_EulerList.f k g) [] ∧ Ev (fun k => impl_EulerList.f k g) []) := by
 obtain ⟨b, b1, b2, b3⟩ := sg_both g hlen
 obtain ⟨c, c1, c2, c3⟩ := frob_both g hlen
 obtain ⟨c', c1', d2, d3⟩ := cond_both g hlen
 have ec : c = c' := by
  have : c = true ↔ c' = true := c1.trans c1'.symm
  cases c <;> cases c' <;> simp_all
 subst ec
 have hF := lastS_gaps c g
 obtain ⟨C, hC⟩ : ∃ C : Nat, lastS (gapsS c g) + 1 = (C : Int) := ⟨(lastS (gapsS c g) + 1).toNat, by omega⟩
 have eF : lastS (gapsS c g) = (C : Int) - 1 := by omega
 refine ⟨b, b1, b2, b3, fun hb => ?_, fun hb => ?_⟩
 ·subst hb
  have hS := b1.1 rfl
  have hc : c = true := c1.2 hS
  have hall : ∀ n : Nat, C ≤ n → elB g (n : Int) = true := fun n hn => by
   refine (elB_iff g n).2 (cond_all g hS _ ?_)
   have : gapsS c g = gapL g := by unfold gapsS; rw [if_pos hc]
   rw [← this, eF]
   omega
  rw [hC] at d2 d3
  rw [eF] at c2 c3
  obtain ⟨N, n0, n1, n2⟩ := eulerlist_val g hlen hS b2 b3 C (by omega) c2 c3 d2 d3
  refine ⟨C, N, by omega, n0, hall, c2, ?_, ?_, n1, n2⟩
  ·unfold spec_NumeratorOf.f
   exact Ev.some (Ev.bnd b2 (Ev.pos rfl (num_spec_l0 g hS C (by omega) d2 (C + 1) 0 (by omega))))
  ·unfold impl_NumeratorOf.f
   refine Ev.bnd b3 (Ev.pos rfl (Ev.bnd (impl_table_ev g hS 200 (by omega)) (Ev.bnd d3 ?_)))
   rw [w64_succ C (by omega)]
   exact num_impl_l0 g C (by omega) (C + 1) 0 (by omega)
 ·subst hb
  unfold spec_NumeratorOf.f impl_NumeratorOf.f spec_EulerList.f impl_EulerList.f
  exact ⟨Ev.some (Ev.bnd b2 (Ev.neg (by decide) (Ev.now _))), Ev.bnd b3 (Ev.neg (by decide) (Ev.now _)), Ev.bnd b2 (Ev.neg (by decide) (Ev.now _)), Ev.bnd b3 (Ev.neg (by decide) (Ev.now _))⟩
/-- The first sums of a list. -/
theorem impl_ser_l0 (a : List Int) (N : Nat) (hN : N ≤ 1000) (hq : ∀ n : Nat, -1000000 ≤ rd a (n : Int) ∧ rd a (n : Int) ≤ 1000000) :
  ∀ (d i : Nat) (s : Int), i + d = N → s = (if i = 0 then 0 else psum a (i - 1)) → Ev (fun k => impl_SeriesFrom.l0 k a (tab (psum a) i) s (N : Int) (i : Int)) (tab (psum a) N) := by
 intro d
 induction d with
 | zero =>
  intro i s hi hs
  refine Ev.one (fun k => by rw [impl_SeriesFrom.l0]) ?_
  rw [show i = N from by omega]
  exact Ev.neg (by omega) (Ev.now _)
 | succ d ih =>
  intro i s hi hs
  have e : s + rd a (i : Int) = psum a i := by
   rw [hs]
   cases i with
   | zero => rw [if_pos rfl]; show 0 + rd a ((0 : Nat) : Int) = rd a ((0 : Nat) : Int); omega
   | succ i => rw [if_neg (by omega)]; rfl
  have hp := psum_rng a 1000000 hq i
  have ih := ih (i + 1) (psum a i) (by omega) (by rw [if_neg (by omega)]; rfl)
  rw [tab_succ] at ih
  refine Ev.one (fun k => by rw [impl_SeriesFrom.l0]) ?_
  rw [w64_succ i (by omega), e, w64_of (x := psum a i) (by omega) (by omega)]
  by_cases c : (i : Int) < (a.length : Int)
  ·exact Ev.pos (by omega) (Ev.pos c (Ev.pos (by omega) (Ev.pos (by rw [tab_len]; omega) ih)))
  ·have e0 : s = psum a i := by rw [← e, rd_out a i (by omega)]; omega
   rw [e0]
   exact Ev.pos (by omega) (Ev.neg c (Ev.pos (by rw [tab_len]; omega) ih))
theorem impl_ser_ev (a : List Int) (hq : ∀ n : Nat, -1000000 ≤ rd a (n : Int) ∧ rd a (n : Int) ≤ 1000000) : Ev (fun k => impl_SeriesFrom.f k a 60) (tab (psum a) 60) := by
 unfold impl_SeriesFrom.f
 refine Ev.bnd (impl_within_ev _ _ _) (Ev.pos (by decide) ?_)
 exact impl_ser_l0 a 60 (by omega) hq 60 0 0 (by omega) (by rw [if_pos rfl])
end Go.Proofs.Ytbbehmbpoilffaa.Pure
