/- Plain lemmas (spechas, cond, mNumeratorOf, conv, total, euler2): no program, no memory. -/
import Derived.Test.YtlfdipnhlmjiaaaC0
import Derived.Test.YtlfdipnhlmjiaaaC5
import Derived.Test.YtlfdipnhlmjiaaaC6
import Derived.Test.YtlfdipnhlmjiaaaC7
import Derived.Test.YtlfdipnhlmjiaaaBbase
namespace Go.Proofs.Ytlfdipnhlmjiaaa.Pure
open Go.RowKit Go.Proofs.Ytlfdipnhlmjiaaa.C Go.Proofs.YtlfdipnhlmjiaaaW.PrintWords Go.Proofs.YtlfdipnhlmjiaaaW.PrintLast Go.Proofs.YtlfdipnhlmjiaaaW.PrintMore
set_option linter.unusedVariables false
set_option linter.unusedSimpArgs false
/-! spechas: spec.l3Has -/
theorem spec_l3Has_ev (g : List Int) (h : SG g) (n : Int) : ∃ b, (b = true ↔ Sums g n ∧ (n ≠ 0 ∨ n = 0)) ∧ Ev (fun k => spec_l3Has.f k g n) b := by
 have hp : ∀ x ∈ g, 1 ≤ x := fun x hx => (h.rng x hx).1
 have := h.len2
 unfold spec_l3Has.f
 by_cases h1 : n < 0
 ·exact ⟨decide (n > 0), ⟨fun e => by simp at e; omega, fun e => by have := e.1.nonneg hp; omega⟩, Ev.pos h1 (Ev.now _)⟩
 ·by_cases h2 : n ≥ 200
  ·exact ⟨decide (n > 0), ⟨fun _ => ⟨h.ends n h2, by omega⟩, fun _ => by simp; omega⟩, Ev.neg h1 (Ev.pos h2 (Ev.now _))⟩
  ·obtain ⟨q, rfl⟩ : ∃ q : Nat, n = (q : Int) := ⟨n.toNat, by omega⟩
   obtain ⟨t, t1, t2, t3⟩ := spec_l3Table_ev g q hp (by omega) (by omega)
   refine ⟨t.getD q false, ?_, ?_⟩
   ·rw [t2 q (Nat.le_refl _)]
    exact ⟨fun e => ⟨e, by omega⟩, fun e => e.1⟩
   ·refine Ev.neg h1 (Ev.neg h2 (Ev.bnd t3 (Ev.pos (by omega) (Ev.pos (by omega) ?_))))
    rw [rdOf_at]
    exact Ev.now _
/-! cond: FrobeniusOf and ConductorOf of both sides -/
theorem cond_both (g : List Int) (hlen : g.length ≤ 1048576) : ∃ b, (b = true ↔ SG g) ∧ Ev (fun k => spec_ConductorOf.f k g) (lastS (gapsS b g) + 1) ∧ Ev (fun k => impl_ConductorOf.f k g) (lastS (gapsS b g) + 1) := by
 obtain ⟨b, b1, b2, b3⟩ := frob_both g hlen
 have hb := lastS_gaps b g
 have e1 : wrap64 (lastS (gapsS b g) + 1) = lastS (gapsS b g) + 1 := w64_of (by omega) (by omega)
 refine ⟨b, b1, ?_⟩
 unfold spec_ConductorOf.f impl_ConductorOf.f
 constructor
 ·refine Ev.bnd b2 ?_
  rw [e1]
  exact Ev.now _
 ·refine Ev.bnd b3 ?_
  rw [e1]
  exact Ev.now _
/-- The coefficient of a number. -/
noncomputable def numF (g : List Int) (n : Nat) : Int := (if elB g (n : Int) = true then 1 else 0) - (if n ≠ 0 ∧ elB g ((n : Int) - 1) = true then 1 else 0)
noncomputable def numL (g : List Int) (m : Nat) : List Int := (List.range m).map (numF g)
theorem numL_succ (g : List Int) (m : Nat) : numL g (m + 1) = numL g m ++ [numF g m] := by
 unfold numL
 rw [List.range_succ, List.map_append, List.map_cons, List.map_nil]
theorem numL_len (g : List Int) (m : Nat) : (numL g m).length = m := by simp [numL]
theorem l15Has_ev (g : List Int) (h : SG g) (n : Int) : Ev (fun k => spec_l15Has.f k g n) (elB g n) := by
 unfold spec_l15Has.f
 by_cases h0 : n = 0
 ·rw [h0, show elB g 0 = true from (elB_iff g 0).2 (Sums.zero g)]
  exact Ev.pos rfl (Ev.now _)
 ·obtain ⟨d, d1, d2⟩ := spec_l3Has_ev g h n
  rw [← elB_of (d1.trans ⟨fun e => e.1, fun e => ⟨e, by omega⟩⟩)]
  exact Ev.neg h0 (Ev.bnd d2 (Ev.now _))
theorem l1Bit_ev (b : Bool) : Ev (fun _ => spec_l1Bit.f b) (if b = true then 1 else 0) := by
 refine Ev.const ?_
 unfold spec_l1Bit.f
 cases b <;> rfl
theorem elB_neg (g : List Int) (hg : ∀ x ∈ g, 1 ≤ x) : elB g (-1) = false := by
 cases h : elB g (-1) with
 | false => rfl
 | true => have := ((elB_iff g _).1 h).nonneg hg; omega
theorem num_spec_l0 (g : List Int) (hS : SG g) (C : Nat) (hC : C ≤ 200) (hc : Ev (fun k => spec_ConductorOf.f k g) (C : Int)) : ∀ (d i : Nat), i + d = C + 1 → Ev (fun k => spec_NumeratorOf.l0 k (numL g i) (i : Int) g) (numL g (C + 1)) := by
 intro d
 induction d with
 | zero =>
  intro i hi
  obtain rfl : i = C + 1 := by omega
  refine Ev.one (fun k => by rw [spec_NumeratorOf.l0]) ?_
  exact Ev.bnd hc (Ev.neg (by omega) (Ev.now _))
 | succ d ih =>
  intro i hi
  have ih := ih (i + 1) (by omega)
  rw [numL_succ] at ih
  refine Ev.one (fun k => by rw [spec_NumeratorOf.l0]) ?_
  have e1 : wrap64 ((i : Int) - 1) = (i : Int) - 1 := w64_of (by omega) (by omega)
  rw [e1, w64_succ i (by omega)]
  refine Ev.bnd hc (Ev.pos (by omega) (Ev.bnd (l15Has_ev g hS _) (Ev.bnd (l1Bit_ev _) (Ev.bnd (l15Has_ev g hS _) (Ev.bnd (l1Bit_ev _) (Ev.pos (by rw [numL_len]; omega) ?_))))))
  have e2 : wrap64 ((if elB g (i : Int) = true then 1 else 0) - (if elB g ((i : Int) - 1) = true then 1 else 0)) = numF g i := by
   unfold numF
   by_cases h0 : i = 0
   ·subst h0
    rw [show (((0 : Nat) : Int) - 1) = -1 from by omega, elB_neg g (fun x hx => (hS.rng x hx).1)]
    rw [w64_of (by split <;> simp) (by split <;> simp)]
    simp
   ·have : (i ≠ 0 ∧ elB g ((i : Int) - 1) = true) ↔ elB g ((i : Int) - 1) = true := ⟨fun h => h.2, fun h => ⟨h0, h⟩⟩
    rw [w64_of (by split <;> split <;> omega) (by split <;> split <;> omega)]
    simp only [this]
  rw [e2]
  exact ih
theorem num_impl_l0 (g : List Int) (C : Nat) (hC : C ≤ 200) : ∀ (d i : Nat), i + d = C + 1 →
  Ev (fun k => impl_NumeratorOf.l0 k (tblL g 201) (numL g i) (decide (i ≠ 0) && elB g ((i : Int) - 1)) ((C + 1 : Nat) : Int) (i : Int)) (numL g (C + 1)) := by
 intro d
 induction d with
 | zero =>
  intro i hi
  obtain rfl : i = C + 1 := by omega
  refine Ev.one (fun k => by rw [impl_NumeratorOf.l0]) ?_
  exact Ev.neg (by omega) (Ev.now _)
 | succ d ih =>
  intro i hi
  have ih := ih (i + 1) (by omega)
  have ht := tblL_length g 201
  have hn := numL_len g i
  rw [numL_succ] at ih
  have e3 : (decide (i + 1 ≠ 0) && elB g (((i + 1 : Nat) : Int) - 1)) = elB g (i : Int) := by
   rw [show (((i + 1 : Nat) : Int) - 1) = (i : Int) from by omega]
   simp
  rw [e3] at ih
  refine Ev.one (fun k => by rw [impl_NumeratorOf.l0]) ?_
  rw [rdOf_tblL g 201 i (by omega)]
  refine Ev.pos (by omega) (Ev.pos (by omega) (Ev.pos (by omega) ?_))
  have e4 : (i ≠ 0 ∧ elB g ((i : Int) - 1) = true) ↔ (decide (i ≠ 0) && elB g ((i : Int) - 1)) = true := by simp
  unfold numF at ih
  simp only [e4] at ih
  generalize (decide (i ≠ 0) && elB g ((i : Int) - 1)) = last at ih ⊢
  cases hb : elB g (i : Int) with
  | true =>
   rw [hb] at ih
   refine Ev.pos rfl (Ev.one (fun k => by rw [impl_NumeratorOf.j1]) ?_)
   rw [rdOf_tblL g 201 i (by omega), hb, w64_succ i (by omega)]
   cases last with
   | true => exact Ev.neg (by decide) (Ev.pos rfl (Ev.pos (by omega) (Ev.pos (by omega) (Ev.pos rfl (Ev.pos (by omega) ih)))))
   | false => exact Ev.pos rfl (Ev.pos (by omega) (Ev.pos (by omega) (Ev.pos (by omega) ih)))
  | false =>
   rw [hb] at ih
   refine Ev.neg (by decide) (Ev.one (fun k => by rw [impl_NumeratorOf.j1]) ?_)
   rw [rdOf_tblL g 201 i (by omega), hb, w64_succ i (by omega)]
   cases last with
   | true => exact Ev.neg (by decide) (Ev.pos rfl (Ev.pos (by omega) (Ev.pos (by omega) (Ev.neg (by decide) (Ev.pos (by omega) ih)))))
   | false => exact Ev.neg (by decide) (Ev.neg (by decide) (Ev.pos (by omega) (Ev.pos (by omega) (Ev.pos (by omega) ih))))
theorem num_both (g : List Int) (hlen : g.length ≤ 1048576) : ∃ r : List Int, r.length ≤ 1000 ∧ Ev (fun k => spec_NumeratorOf.f k g) r ∧ Ev (fun k => impl_NumeratorOf.f k g) r := by
 obtain ⟨b, b1, b2, b3⟩ := sg_both g hlen
 obtain ⟨c, _, c1, c2⟩ := cond_both g hlen
 have hb := lastS_gaps c g
 obtain ⟨C, hC⟩ : ∃ C : Nat, lastS (gapsS c g) + 1 = (C : Int) := ⟨(lastS (gapsS c g) + 1).toNat, by omega⟩
 rw [hC] at c1 c2
 unfold spec_NumeratorOf.f impl_NumeratorOf.f
 cases b with
 | false => exact ⟨[], by simp, Ev.some (Ev.bnd b2 (Ev.neg (by decide) (Ev.now _))), Ev.bnd b3 (Ev.neg (by decide) (Ev.now _))⟩
 | true =>
  have hS := b1.1 rfl
  refine ⟨numL g (C + 1), by rw [numL_len]; omega, Ev.some (Ev.bnd b2 (Ev.pos rfl (num_spec_l0 g hS C (by omega) c1 (C + 1) 0 (by omega)))), Ev.bnd b3 (Ev.pos rfl (Ev.bnd (impl_table_ev g hS 200 (by omega)) (Ev.bnd c2 ?_)))⟩
  rw [w64_succ C (by omega)]
  exact num_impl_l0 g C (by omega) (C + 1) 0 (by omega)
/-! conv: a product with 1 - t^g, and sums from the front -/
def gpoly (g : Nat) : List Int := ((List.replicate (g + 1) (0 : Int)).set 0 1).set g (-1)
theorem gpoly_len (g : Nat) : (gpoly g).length = g + 1 := by simp [gpoly]
theorem rd_rep (n : Nat) (i : Nat) : rd (List.replicate n (0 : Int)) (i : Int) = 0 := by
 unfold rd
 rw [Int.toNat_natCast, List.getD_eq_getElem?_getD, List.getElem?_replicate]
 split <;> rfl
theorem rd_out (xs : List Int) (i : Nat) (h : xs.length ≤ i) : rd xs (i : Int) = 0 := by
 unfold rd
 rw [Int.toNat_natCast, List.getD_eq_getElem?_getD, List.getElem?_eq_none h]
 rfl
theorem gpoly_rd (g : Nat) (hg : 1 ≤ g) (j : Nat) : rd (gpoly g) (j : Int) = if j = 0 then 1 else if j = g then -1 else 0 := by
 unfold gpoly
 by_cases e : j = g
 ·subst e
  rw [rd_set_eq _ _ _ (by simp), if_neg (by omega), if_pos rfl]
 ·rw [rd_set_ne _ _ _ _ (fun q => e q.symm)]
  by_cases e0 : j = 0
  ·subst e0
   rw [rd_set_eq _ _ _ (by simp), if_pos rfl]
  ·rw [rd_set_ne _ _ _ _ (fun q => e0 q.symm), rd_rep, if_neg e0, if_neg e]
def stepE (f : Nat → Int) (g : Nat) (n : Nat) : Int := f n - (if g ≤ n then f (n - g) else 0)
/-- What has been made of the first i numbers. -/
def convE (a : List Int) (g i n : Nat) : Int := (if n < i then rd a (n : Int) else 0) - (if g ≤ n ∧ n < i + g then rd a ((n - g : Nat) : Int) else 0)
theorem convE_rng (a : List Int) (g i n : Nat) (hB : ∀ n : Nat, -1000000000000 ≤ rd a (n : Int) ∧ rd a (n : Int) ≤ 1000000000000) : -2000000000000 ≤ convE a g i n ∧ convE a g i n ≤ 2000000000000 := by
 have h1 := hB n
 have h2 := hB (n - g)
 unfold convE
 split <;> split <;> omega
theorem convE_succ (a : List Int) (g i n : Nat) : convE a g (i + 1) n = convE a g i n + (if n = i then rd a (i : Int) else 0) - (if n = i + g then rd a (i : Int) else 0) := by
 unfold convE
 have e1 : (if n < i + 1 then rd a (n : Int) else 0) = (if n < i then rd a (n : Int) else 0) + (if n = i then rd a (i : Int) else 0) := by
  by_cases e : n = i
  ·subst e
   rw [if_pos (by omega), if_neg (by omega), if_pos rfl]
   omega
  ·rw [if_neg e]
   by_cases c : n < i
   ·rw [if_pos (by omega), if_pos c]; omega
   ·rw [if_neg (by omega), if_neg c]; rfl
 have e2 : (if g ≤ n ∧ n < i + 1 + g then rd a ((n - g : Nat) : Int) else 0) = (if g ≤ n ∧ n < i + g then rd a ((n - g : Nat) : Int) else 0) + (if n = i + g then rd a (i : Int) else 0) := by
  by_cases e : n = i + g
  ·subst e
   rw [if_pos (by omega), if_neg (by omega), if_pos rfl, Nat.add_sub_cancel]
   omega
  ·rw [if_neg e]
   by_cases c : g ≤ n ∧ n < i + g
   ·rw [if_pos (by omega), if_pos c]; omega
   ·rw [if_neg (by omega), if_neg c]; rfl
 rw [e1, e2]
 omega
section
variable (a : List Int) (g : Nat) (hg1 : 1 ≤ g) (hg : g ≤ 1000) (ha : a.length ≤ 100000) (hB : ∀ n : Nat, -1000000000000 ≤ rd a (n : Int) ∧ rd a (n : Int) ≤ 1000000000000)
include hg1 hg ha hB
theorem conv_l1 (i : Nat) (hi : i < a.length) (res : List Int)
  (next : ∀ xs : List Int, xs.length = a.length + g → (∀ n, n < a.length + g → rd xs (n : Int) = convE a g (i + 1) n) → Ev (fun k => impl_product.l0 k (gpoly g) xs a (a.length : Int) ((i + 1 : Nat) : Int)) res) :
  ∀ (d j : Nat) (xs : List Int), j + d = g + 1 → xs.length = a.length + g →
   (∀ n, n < a.length + g → rd xs (n : Int) = convE a g i n + (if n = i ∧ 0 < j then rd a (i : Int) else 0) - (if n = i + g ∧ g < j then rd a (i : Int) else 0)) →
   Ev (fun k => impl_product.l1 k (gpoly g) xs (i : Int) (rd a (i : Int)) a (a.length : Int) (i : Int) (gpoly g) ((gpoly g).length : Int) (j : Int)) res := by
 intro d
 induction d with
 | zero =>
  intro j xs hj hx h
  refine Ev.one (fun k => by rw [impl_product.l1]) ?_
  rw [w64_succ i (by omega), gpoly_len]
  refine Ev.neg (by omega) (next xs hx (fun n hn => ?_))
  rw [h n hn, convE_succ]
  have e1 : (n = i ∧ 0 < j) ↔ n = i := ⟨fun q => q.1, fun q => ⟨q, by omega⟩⟩
  have e2 : (n = i + g ∧ g < j) ↔ n = i + g := ⟨fun q => q.1, fun q => ⟨q, by omega⟩⟩
  simp only [e1, e2]
 | succ d ih =>
  intro j xs hj hx h
  have hai := hB i
  have e1 : wrap64 ((i : Int) + (j : Int)) = ((i + j : Nat) : Int) := by rw [w64_of (by omega) (by omega)]; omega
  have e2 : wrap64 (rd a (i : Int) * rd (gpoly g) (j : Int)) = if j = 0 then rd a (i : Int) else if j = g then - rd a (i : Int) else 0 := by
   rw [gpoly_rd g hg1 j]
   split
   ·rw [Int.mul_one]; exact w64_of (by omega) (by omega)
   ·split
    ·rw [Int.mul_neg, Int.mul_one]; exact w64_of (by omega) (by omega)
    ·rw [Int.mul_zero]; exact w64_of (by omega) (by omega)
  have hij := h (i + j) (by omega)
  have hcr := convE_rng a g i (i + j) hB
  refine Ev.one (fun k => by rw [impl_product.l1]) ?_
  rw [e1, e2, w64_succ j (by omega), Int.toNat_natCast]
  have hlen := gpoly_len g
  refine Ev.pos (by omega) (Ev.pos (by omega) (Ev.pos (by omega) (Ev.pos (by omega) (Ev.pos (by omega) (ih (j + 1) _ (by omega) (by rw [List.length_set]; exact hx) (fun n hn => ?_))))))
  have hn0 := h n hn
  by_cases e : n = i + j
  ·subst e
   rw [rd_set_eq _ _ _ (by omega), hij]
   have v : ∀ x : Int, -5000000000000 ≤ x → x ≤ 5000000000000 → wrap64 x = x := fun x h1 h2 => w64_of (by omega) (by omega)
   generalize convE a g i (i + j) = q at hcr
   generalize rd a (i : Int) = ai at hai
   by_cases j0 : j = 0
   ·subst j0
    rw [if_neg (by omega), if_neg (by omega), if_pos (by omega), if_pos (by omega), if_neg (by omega), v _ (by omega) (by omega)]
    omega
   ·by_cases jg : j = g
    ·subst jg
     rw [if_neg (by omega), if_neg (by omega), if_neg (by omega), if_pos rfl, if_neg (by omega), if_pos (by omega), v _ (by omega) (by omega)]
     omega
    ·rw [if_neg (by omega), if_neg (by omega), if_neg j0, if_neg jg, if_neg (by omega), if_neg (by omega), v _ (by omega) (by omega)]
     omega
  ·rw [rd_set_ne _ _ _ _ (fun q => e q.symm), hn0]
   have e3 : (n = i ∧ 0 < j) ↔ (n = i ∧ 0 < j + 1) := ⟨fun q => ⟨q.1, by omega⟩, fun q => ⟨q.1, by omega⟩⟩
   have e4 : (n = i + g ∧ g < j) ↔ (n = i + g ∧ g < j + 1) := ⟨fun q => ⟨q.1, by omega⟩, fun q => ⟨q.1, by omega⟩⟩
   simp only [e3, e4]
theorem conv_l0 : ∀ (d i : Nat) (xs : List Int), i + d = a.length → xs.length = a.length + g → (∀ n, n < a.length + g → rd xs (n : Int) = convE a g i n) →
  ∃ r : List Int, r.length = a.length + g ∧ (∀ n, n < a.length + g → rd r (n : Int) = convE a g a.length n) ∧ Ev (fun k => impl_product.l0 k (gpoly g) xs a (a.length : Int) (i : Int)) r := by
 intro d
 induction d with
 | zero =>
  intro i xs hi hx h
  refine ⟨xs, hx, ?_, Ev.one (fun k => by rw [impl_product.l0]) ?_⟩
  ·rw [show a.length = i from by omega] at h ⊢
   exact h
  ·exact Ev.neg (by omega) (Ev.now _)
 | succ d ih =>
  intro i xs hi hx h
  have key : ∃ r : List Int, r.length = a.length + g ∧ (∀ n, n < a.length + g → rd r (n : Int) = convE a g a.length n) ∧ Ev (fun k => impl_product.l1 k (gpoly g) xs (i : Int) (rd a (i : Int)) a (a.length : Int) (i : Int) (gpoly g) ((gpoly g).length : Int) ((0 : Nat) : Int)) r := by
   apply Classical.byContradiction
   intro hno
   have all : ∀ res, Ev (fun k => impl_product.l1 k (gpoly g) xs (i : Int) (rd a (i : Int)) a (a.length : Int) (i : Int) (gpoly g) ((gpoly g).length : Int) ((0 : Nat) : Int)) res → False := fun res hr => by
    have := conv_l1 a g hg1 hg ha hB i (by omega) (res ++ [0]) (fun ys hy hv => ?_) (g + 1) 0 xs (by omega) hx (fun n hn => by rw [h n hn, if_neg (by omega), if_neg (by omega)]; omega)
    ·have := congrArg List.length (Ev.uniq hr this)
     simp at this
    ·exfalso
     obtain ⟨r, h0, h1, h2⟩ := ih (i + 1) ys (by omega) hy hv
     exact hno ⟨r, h0, h1, conv_l1 a g hg1 hg ha hB i (by omega) r (fun zs hz hw => by
      obtain ⟨r', _, _, h2'⟩ := ih (i + 1) zs (by omega) hz hw
      have : zs = ys := List.ext_getElem (by omega) (fun n q1 q2 => by rw [← rd_at zs n q1, ← rd_at ys n q2, hw n (by omega), hv n (by omega)])
      rw [this]
      exact h2) (g + 1) 0 xs (by omega) hx (fun n hn => by rw [h n hn, if_neg (by omega), if_neg (by omega)]; omega)⟩
   have := conv_l1 a g hg1 hg ha hB i (by omega) [] (fun ys hy hv => by
     exfalso
     obtain ⟨r, h0, h1, h2⟩ := ih (i + 1) ys (by omega) hy hv
     exact hno ⟨r, h0, h1, conv_l1 a g hg1 hg ha hB i (by omega) r (fun zs hz hw => by
      have : zs = ys := List.ext_getElem (by omega) (fun n q1 q2 => by rw [← rd_at zs n q1, ← rd_at ys n q2, hw n (by omega), hv n (by omega)])
      rw [this]
      exact h2) (g + 1) 0 xs (by omega) hx (fun n hn => by rw [h n hn, if_neg (by omega), if_neg (by omega)]; omega)⟩) (g + 1) 0 xs (by omega) hx (fun n hn => by rw [h n hn, if_neg (by omega), if_neg (by omega)]; omega)
   exact all [] this
  obtain ⟨r, h0, h1, h2⟩ := key
  refine ⟨r, h0, h1, Ev.one (fun k => by rw [impl_product.l0]) ?_⟩
  exact Ev.pos (by omega) (Ev.pos (by omega) (Ev.pos (by omega) h2))
theorem conv_ev : ∃ r : List Int, r.length = a.length + g ∧ (∀ n : Nat, rd r (n : Int) = stepE (fun n => rd a (n : Int)) g n) ∧ Ev (fun k => impl_product.f k a (gpoly g)) r := by
 have hlen := gpoly_len g
 have e1 : wrap64 ((a.length : Int) + ((gpoly g).length : Int)) = (a.length : Int) + ((gpoly g).length : Int) := w64_of (by omega) (by omega)
 have e2 : wrap64 ((a.length : Int) + ((gpoly g).length : Int) - 1) = ((a.length + g : Nat) : Int) := by rw [w64_of (by omega) (by omega)]; omega
 obtain ⟨r, h0, h1, h2⟩ := conv_l0 a g hg1 hg ha hB a.length 0 (List.replicate (a.length + g) 0) (by omega) (by simp) (fun n hn => by
  rw [rd_rep]
  unfold convE
  rw [if_neg (by omega), if_neg (by omega)]
  rfl)
 refine ⟨r, h0, fun n => ?_, ?_⟩
 ·show _ = rd a (n : Int) - (if g ≤ n then rd a ((n - g : Nat) : Int) else 0)
  by_cases c : n < a.length + g
  ·rw [h1 n c]
   unfold convE
   by_cases c1 : n < a.length
   ·rw [if_pos c1]
    by_cases c2 : g ≤ n
    ·rw [if_pos (by omega), if_pos c2]
    ·rw [if_neg (by omega), if_neg c2]
   ·rw [if_neg c1, rd_out a n (by omega)]
    by_cases c2 : g ≤ n
    ·rw [if_pos (by omega), if_pos c2]
    ·rw [if_neg (by omega), if_neg c2]
  ·rw [rd_out r n (by omega)]
   rw [rd_out a n (by omega), if_pos (by omega), rd_out a (n - g) (by omega)]
   rfl
 ·unfold impl_product.f
  rw [e1, e2, Int.toNat_natCast]
  exact Ev.pos (by omega) (Ev.pos (by omega) h2)
end
def psum (a : List Int) : Nat → Int
 | 0 => rd a ((0 : Nat) : Int)
 | n + 1 => psum a n + rd a ((n + 1 : Nat) : Int)
theorem psum_step (a r : List Int) (g : Nat) (hg : 1 ≤ g) (h : ∀ n : Nat, rd r (n : Int) = stepE (fun n => rd a (n : Int)) g n) : ∀ n, psum r n = stepE (psum a) g n := by
 intro n
 induction n with
 | zero =>
  show rd r ((0 : Nat) : Int) = _
  rw [h 0]
  unfold stepE
  rw [if_neg (by omega), if_neg (by omega)]
  rfl
 | succ n ih =>
  show psum r n + rd r ((n + 1 : Nat) : Int) = _
  have hn : rd r ((n + 1 : Nat) : Int) = rd a ((n + 1 : Nat) : Int) - (if g ≤ n + 1 then rd a ((n + 1 - g : Nat) : Int) else 0) := h (n + 1)
  rw [ih, hn]
  unfold stepE
  show _ = (psum a n + rd a ((n + 1 : Nat) : Int)) - _
  by_cases c : g ≤ n
  ·rw [if_pos c, if_pos (show g ≤ n + 1 by omega), if_pos (show g ≤ n + 1 by omega), show n + 1 - g = (n - g) + 1 from by omega]
   show _ = _ - (psum a (n - g) + rd a ((n - g + 1 : Nat) : Int))
   omega
  ·by_cases c2 : g = n + 1
   ·rw [if_neg c, if_pos (show g ≤ n + 1 by omega), if_pos (show g ≤ n + 1 by omega), show n + 1 - g = 0 from by omega]
    show _ = _ - rd a ((0 : Nat) : Int)
    omega
   ·rw [if_neg c, if_neg (show ¬ g ≤ n + 1 by omega), if_neg (show ¬ g ≤ n + 1 by omega)]
    omega
theorem psum_rng (a : List Int) (B : Int) (hB : ∀ n : Nat, -B ≤ rd a (n : Int) ∧ rd a (n : Int) ≤ B) : ∀ n : Nat, -(B * ((n : Int) + 1)) ≤ psum a n ∧ psum a n ≤ B * ((n : Int) + 1) := by
 intro n
 induction n with
 | zero =>
  have := hB 0
  show -(B * (((0 : Nat) : Int) + 1)) ≤ rd a ((0 : Nat) : Int) ∧ rd a ((0 : Nat) : Int) ≤ B * (((0 : Nat) : Int) + 1)
  rw [show B * (((0 : Nat) : Int) + 1) = B from by simp]
  exact this
 | succ n ih =>
  have := hB (n + 1)
  show -(B * (((n + 1 : Nat) : Int) + 1)) ≤ psum a n + rd a ((n + 1 : Nat) : Int) ∧ psum a n + rd a ((n + 1 : Nat) : Int) ≤ B * (((n + 1 : Nat) : Int) + 1)
  rw [show B * (((n + 1 : Nat) : Int) + 1) = B * ((n : Int) + 1) + B from by rw [Int.mul_add B ((n + 1 : Nat) : Int) 1, Int.mul_one, Int.natCast_add]; rfl]
  omega
theorem stepE_rng (f : Nat → Int) (B : Int) (hB : ∀ n, -B ≤ f n ∧ f n ≤ B) (g n : Nat) : -(2 * B) ≤ stepE f g n ∧ stepE f g n ≤ 2 * B := by
 have h1 := hB n
 have h2 := hB (n - g)
 unfold stepE
 split <;> omega
/-! total: the sum of a list -/
theorem sum_take (l : List Int) (i : Nat) (hi : i < l.length) : (l.take (i + 1)).sum = (l.take i).sum + l[i] := by
 rw [List.take_succ_eq_append_getElem hi, List.sum_append, List.sum_cons, List.sum_nil, Int.add_zero]
theorem sum_bound (l : List Int) (h : ∀ x ∈ l, 0 ≤ x ∧ x ≤ 1000000) (i : Nat) : 0 ≤ (l.take i).sum ∧ (l.take i).sum ≤ (i : Int) * 1000000 := by
 induction i with
 | zero => simp
 | succ i ih =>
  by_cases hi : i < l.length
  ·have := h l[i] (List.getElem_mem hi)
   rw [sum_take l i hi]
   omega
  ·rw [List.take_of_length_le (by omega)] at ih ⊢
   omega
theorem impl_total_l0 (l : List Int) (hl : l.length ≤ 1048576) (h : ∀ x ∈ l, 0 ≤ x ∧ x ≤ 1000000) : ∀ d i, i + d = l.length → Ev (fun k => impl_total.l0 k (l.take i).sum l (l.length : Int) (i : Int)) l.sum := by
 intro d
 induction d with
 | zero =>
  intro i hi
  rw [List.take_of_length_le (by omega)]
  refine Ev.one (fun k => by rw [impl_total.l0]) ?_
  exact Ev.neg (by omega) (Ev.now _)
 | succ d ih =>
  intro i hi
  have ih := ih (i + 1) (by omega)
  have hil : i < l.length := by omega
  have hb := sum_bound l h i
  have hx := h l[i] (List.getElem_mem hil)
  rw [sum_take l i hil] at ih
  refine Ev.one (fun k => by rw [impl_total.l0]) ?_
  rw [rd_at l i hil, w64_succ i (by omega), w64_of (by omega) (by omega)]
  exact Ev.pos (by omega) (Ev.pos (by omega) (Ev.pos (by omega) ih))
theorem impl_total_ev (l : List Int) (hl : l.length ≤ 1048576) (h : ∀ x ∈ l, 0 ≤ x ∧ x ≤ 1000000) : Ev (fun k => impl_total.f k l) l.sum := impl_total_l0 l hl h l.length 0 (by omega)
/-! euler2: EulerList of both sides -/
def stepsE (f : Nat → Int) : List Int → Nat → Int
 | [] => f
 | x :: r => stepsE (stepE f x.toNat) r
def tab (f : Nat → Int) (n : Nat) : List Int := (List.range n).map f
theorem tab_len (f : Nat → Int) (n : Nat) : (tab f n).length = n := by simp [tab]
theorem tab_succ (f : Nat → Int) (n : Nat) : tab f (n + 1) = tab f n ++ [f n] := by
 unfold tab
 rw [List.range_succ, List.map_append, List.map_cons, List.map_nil]
theorem tab_rd (f : Nat → Int) (n i : Nat) (h : i < n) : rd (tab f n) (i : Int) = f i := by
 rw [rd_at _ _ (by rw [tab_len]; exact h)]
 simp [tab]
theorem tab_of (f : Nat → Int) (n : Nat) (xs : List Int) (hl : xs.length = n) (h : ∀ i, i < n → rd xs (i : Int) = f i) : xs = tab f n := by
 refine List.ext_getElem (by rw [tab_len]; exact hl) (fun i h1 h2 => ?_)
 rw [← rd_at xs i h1, ← rd_at (tab f n) i h2, h i (by omega), tab_rd f n i (by omega)]
theorem drop_rd (g : List Int) (i : Nat) (hi : i < g.length) : g.drop i = rd g (i : Int) :: g.drop (i + 1) := by
 rw [rd_at g i hi]
 exact List.drop_eq_getElem_cons hi
theorem eul_l2 (g : List Int) (i gi N : Nat) (hl : g.length ≤ 1000) (hi : i < g.length) (hgi : rd g (i : Int) = (gi : Int)) (hg1 : 1 ≤ gi) (hN : N ≤ 1000000) (f : Nat → Int) (hf : ∀ n, -1000000000000 ≤ f n ∧ f n ≤ 1000000000000) (res : List Int)
  (next : ∀ xs : List Int, xs.length = N → (∀ n, n < N → rd xs (n : Int) = stepE f gi n) → Ev (fun k => spec_EulerList.l1 k (N : Int) xs ((i + 1 : Nat) : Int) g) res) :
  ∀ (m : Nat) (xs : List Int), m < N → xs.length = N → (∀ n, n < N → rd xs (n : Int) = if m < n then stepE f gi n else f n) → Ev (fun k => spec_EulerList.l2 k (N : Int) xs (i : Int) (m : Int) g) res := by
 intro m
 induction m with
 | zero =>
  intro xs hm hx h
  refine Ev.one (fun k => by rw [spec_EulerList.l2]) ?_
  rw [hgi, w64_succ i (by omega)]
  refine Ev.pos (by omega) (Ev.pos (by omega) (Ev.neg (by omega) (next xs hx (fun n hn => ?_))))
  rw [h n hn]
  by_cases c : 0 < n
  ·rw [if_pos c]
  ·rw [if_neg c]
   unfold stepE
   rw [if_neg (by omega)]
   omega
 | succ m ih =>
  intro xs hm hx h
  refine Ev.one (fun k => by rw [spec_EulerList.l2]) ?_
  rw [hgi, w64_succ i (by omega)]
  by_cases c : ((m + 1 : Nat) : Int) ≥ (gi : Int)
  ·have e1 : wrap64 (((m + 1 : Nat) : Int) - (gi : Int)) = ((m + 1 - gi : Nat) : Int) := by rw [w64_of (by omega) (by omega)]; omega
   have e2 : wrap64 (((m + 1 : Nat) : Int) - 1) = (m : Int) := by rw [w64_of (by omega) (by omega)]; omega
   have v1 := h (m + 1) hm
   have v2 := h (m + 1 - gi) (by omega)
   rw [if_neg (by omega)] at v1 v2
   have b1 := hf (m + 1)
   have b2 := hf (m + 1 - gi)
   rw [e1, e2, v1, v2, w64_of (x := f (m + 1) - f (m + 1 - gi)) (by omega) (by omega), Int.toNat_natCast]
   refine Ev.pos (by omega) (Ev.pos (by omega) (Ev.pos c (Ev.pos (by omega) (Ev.pos (by omega) (Ev.pos (by omega) (Ev.pos (by omega) (ih _ (by omega) (by rw [List.length_set]; exact hx) (fun n hn => ?_))))))))
   by_cases e : n = m + 1
   ·subst e
    rw [rd_set_eq _ _ _ (by omega), if_pos (by omega)]
    unfold stepE
    rw [if_pos (by omega)]
   ·rw [rd_set_ne _ _ _ _ (fun q => e q.symm), h n hn]
    by_cases c2 : m + 1 < n
    ·rw [if_pos c2, if_pos (show m < n by omega)]
    ·rw [if_neg c2, if_neg (show ¬ m < n by omega)]
  ·refine Ev.pos (by omega) (Ev.pos (by omega) (Ev.neg c (next xs hx (fun n hn => ?_))))
   rw [h n hn]
   by_cases c : m + 1 < n
   ·rw [if_pos c]
   ·rw [if_neg c]
    unfold stepE
    rw [if_neg (by omega)]
    omega
theorem eul_l1 (g : List Int) (N : Nat) (hl : g.length ≤ 1000) (hr : ∀ x ∈ g, 1 ≤ x ∧ x ≤ 60) (hN1 : 1 ≤ N) (hN : N ≤ 1000000) :
  ∀ (d i : Nat) (f : Nat → Int) (B : Nat) (xs : List Int), i + d = g.length → B * 2 ^ d ≤ 1000000000000 → (∀ n, -(B : Int) ≤ f n ∧ f n ≤ (B : Int)) → xs.length = N → (∀ n, n < N → rd xs (n : Int) = f n) → Ev (fun k => spec_EulerList.l1 k (N : Int) xs (i : Int) g) (tab (stepsE f (g.drop i)) N) := by
 intro d
 induction d with
 | zero =>
  intro i f B xs hi hB hf hx h
  refine Ev.one (fun k => by rw [spec_EulerList.l1]) ?_
  rw [List.drop_eq_nil_of_le (by omega)]
  show Ev _ (tab f N)
  rw [← tab_of f N xs hx h]
  exact Ev.neg (by omega) (Ev.now _)
 | succ d ih =>
  intro i f B xs hi hB hf hx h
  have hri := hr (rd g (i : Int)) (by rw [rd_at g i (by omega)]; exact List.getElem_mem _)
  obtain ⟨gi, hgi⟩ : ∃ gi : Nat, rd g (i : Int) = (gi : Int) := ⟨(rd g (i : Int)).toNat, by omega⟩
  have hBB : B ≤ 1000000000000 := Nat.le_trans (Nat.le_mul_of_pos_right B (Nat.two_pow_pos _)) hB
  refine Ev.one (fun k => by rw [spec_EulerList.l1]) ?_
  rw [drop_rd g i (by omega), hgi, show wrap64 ((N : Int) - 1) = ((N - 1 : Nat) : Int) from by rw [w64_of (by omega) (by omega)]; omega]
  refine Ev.pos (by omega) (eul_l2 g i gi N hl (by omega) hgi (by omega) hN f (fun n => by have := hf n; omega) _ (fun ys hy hv => ?_) (N - 1) xs (by omega) hx (fun n hn => by rw [h n hn, if_neg (by omega)]))
  show Ev _ (tab (stepsE (stepE f (gi : Int).toNat) (g.drop (i + 1))) N)
  rw [Int.toNat_natCast]
  refine ih (i + 1) (stepE f gi) (2 * B) ys (by omega) (by rw [Nat.mul_comm 2 B, Nat.mul_assoc, ← Nat.pow_succ']; exact hB) (fun n => ?_) hy hv
  have := stepE_rng f (B : Int) hf gi n
  omega
theorem eul_sum (g : List Int) (hl : g.length ≤ 1000) (hr : ∀ x ∈ g, 1 ≤ x ∧ x ≤ 60) (k0 : Int) (hk0 : 0 ≤ k0 ∧ k0 ≤ 1000) (tail : Nat → Option (List Int)) (res : List Int)
  (htail : ∀ k, spec_EulerList.l0 (k + 1) (k0 + g.sum) (g.length : Int) g = tail k) (h : Ev tail res) :
  ∀ (d i : Nat), i + d = g.length → Ev (fun k => spec_EulerList.l0 k (k0 + (g.take i).sum) (i : Int) g) res := by
 intro d
 induction d with
 | zero =>
  intro i hi
  rw [show i = g.length from by omega, List.take_length]
  exact Ev.one htail h
 | succ d ih =>
  intro i hi
  have hri := hr (rd g (i : Int)) (by rw [rd_at g i (by omega)]; exact List.getElem_mem _)
  have hs : ∀ l : List Int, (∀ x ∈ l, 1 ≤ x ∧ x ≤ 60) → 0 ≤ l.sum ∧ l.sum ≤ 60 * (l.length : Int) := by
   intro l
   induction l with
   | nil => intro _; simp
   | cons x l ihl =>
    intro h
    have h1 := h x List.mem_cons_self
    have h2 := ihl (fun y hy => h y (List.mem_cons_of_mem _ hy))
    rw [List.sum_cons, List.length_cons]
    omega
  have h1 := hs (g.take i) (fun x hx => hr x (List.mem_of_mem_take hx))
  rw [List.length_take] at h1
  refine Ev.one (fun k => by rw [spec_EulerList.l0]) ?_
  have ih := ih (i + 1) (by omega)
  rw [List.take_succ_eq_append_getElem (by omega), List.sum_append, List.sum_singleton, ← rd_at g i (by omega)] at ih
  rw [w64_of (x := k0 + (g.take i).sum + rd g (i : Int)) (by omega) (by omega), w64_succ i (by omega), Int.add_assoc]
  exact Ev.pos (by omega) (Ev.pos (by omega) ih)
theorem eul_impl_l1 (q : List Int) (N : Nat) (hN : N ≤ 100000) (hq : ∀ n : Nat, -1000000 ≤ rd q (n : Int) ∧ rd q (n : Int) ≤ 1000000) :
  ∀ (d i : Nat) (s : Int), i + d = N → s = (if i = 0 then 0 else psum q (i - 1)) → Ev (fun k => impl_EulerList.l1 k q (tab (psum q) i) s (N : Int) (i : Int)) (tab (psum q) N) := by
 intro d
 induction d with
 | zero =>
  intro i s hi hs
  refine Ev.one (fun k => by rw [impl_EulerList.l1]) ?_
  rw [show i = N from by omega]
  unfold slices_Clip_int_int.f
  exact Ev.neg (by omega) (Ev.some (Ev.now _))
 | succ d ih =>
  intro i s hi hs
  have e : s + rd q (i : Int) = psum q i := by
   rw [hs]
   cases i with
   | zero => rw [if_pos rfl]; show 0 + rd q ((0 : Nat) : Int) = rd q ((0 : Nat) : Int); omega
   | succ i => rw [if_neg (by omega)]; rfl
  have hp := psum_rng q 1000000 hq i
  have ih := ih (i + 1) (psum q i) (by omega) (by rw [if_neg (by omega)]; rfl)
  rw [tab_succ] at ih
  refine Ev.one (fun k => by rw [impl_EulerList.l1]) ?_
  rw [w64_succ i (by omega), e, w64_of (x := psum q i) (by omega) (by omega)]
  by_cases c : (i : Int) < (q.length : Int)
  ·exact Ev.pos (by omega) (Ev.pos c (Ev.pos (by omega) (Ev.pos (by rw [tab_len]; omega) ih)))
  ·have e0 : s = psum q i := by rw [← e, rd_out q i (by omega)]; omega
   rw [e0]
   exact Ev.pos (by omega) (Ev.neg c (Ev.pos (by rw [tab_len]; omega) ih))
theorem eul_impl_l0 (g : List Int) (hl : g.length ≤ 12) (hr : ∀ x ∈ g, 1 ≤ x ∧ x ≤ 60) (F N : Nat) (hN : N ≤ 100000) (f0 : Int) (hF : Ev (fun k => impl_FrobeniusOf.f k g) f0) (T : Int) (hT : Ev (fun k => impl_total.f k g) T) (hs : wrap64 (wrap64 (f0 + T) + 1) = (N : Int)) :
  ∀ (d i B : Nat) (p : List Int), i + d = g.length → p.length ≤ 1000 + 60 * i → B * 2 ^ d ≤ 1000000 → (∀ n : Nat, -(B : Int) ≤ rd p (n : Int) ∧ rd p (n : Int) ≤ (B : Int)) →
   Ev (fun k => impl_EulerList.l0 k p g (g.length : Int) (i : Int) g) (tab (stepsE (psum p) (g.drop i)) N) := by
 intro d
 induction d with
 | zero =>
  intro i B p hi hp hB hb
  refine Ev.one (fun k => by rw [impl_EulerList.l0]) ?_
  rw [List.drop_eq_nil_of_le (by omega)]
  refine Ev.neg (by omega) (Ev.bnd hF (Ev.bnd hT ?_))
  rw [hs]
  exact eul_impl_l1 p N hN (fun n => by have := hb n; have : B ≤ 1000000 := (by simpa using hB); omega) N 0 0 (by omega) (by rw [if_pos rfl])
 | succ d ih =>
  intro i B p hi hp hB hb
  have hri := hr (rd g (i : Int)) (by rw [rd_at g i (by omega)]; exact List.getElem_mem _)
  obtain ⟨gi, hgi⟩ : ∃ gi : Nat, rd g (i : Int) = (gi : Int) := ⟨(rd g (i : Int)).toNat, by omega⟩
  have hBB : B ≤ 1000000 := Nat.le_trans (Nat.le_mul_of_pos_right B (Nat.two_pow_pos _)) hB
  obtain ⟨r, r0, r1, r2⟩ := conv_ev p gi (by omega) (by omega) (by omega) (fun n => by have := hb n; omega)
  refine Ev.one (fun k => by rw [impl_EulerList.l0]) ?_
  rw [hgi, w64_succ gi (by omega), w64_succ i (by omega), Int.toNat_natCast, Int.toNat_natCast]
  have ih := ih (i + 1) (2 * B) r (by omega) (by omega) (by rw [Nat.mul_comm 2 B, Nat.mul_assoc, ← Nat.pow_succ']; exact hB) (fun n => by
   have := stepE_rng (fun n => rd p (n : Int)) (B : Int) hb gi n
   rw [r1 n]
   omega)
  rw [drop_rd g i (by omega), hgi]
  show Ev _ (tab (stepsE (stepE (psum p) (gi : Int).toNat) (g.drop (i + 1))) N)
  rw [Int.toNat_natCast, ← (funext (psum_step p r gi (by omega) r1) : psum r = stepE (psum p) gi)]
  refine Ev.pos (by omega) (Ev.pos (by omega) (Ev.pos (by omega) (Ev.pos (by omega) (Ev.pos (by omega) (Ev.some (Ev.pos (by rw [List.length_replicate]; omega) (Ev.pos (by omega) (Ev.pos (by rw [List.length_replicate]; omega) (Ev.bnd ?_ ih)))))))))
  exact r2
theorem numL_rng (g : List Int) (m n : Nat) : -1 ≤ rd (numL g m) (n : Int) ∧ rd (numL g m) (n : Int) ≤ 1 := by
 by_cases c : n < m
 ·rw [rd_at _ _ (by rw [numL_len]; exact c)]
  unfold numL
  rw [List.getElem_map, List.getElem_range]
  unfold numF
  split <;> split <;> omega
 ·rw [rd_out _ _ (by rw [numL_len]; omega)]
  omega
theorem ser_l0 (a : List Int) (N : Nat) (hN : N ≤ 1000) (hq : ∀ n : Nat, -1000000 ≤ rd a (n : Int) ∧ rd a (n : Int) ≤ 1000000) :
  ∀ (d i : Nat) (s : Int), i + d = N → s = (if i = 0 then 0 else psum a (i - 1)) → Ev (fun k => spec_SeriesFrom.l0 k a (N : Int) (tab (psum a) i) s (i : Int)) (tab (psum a) N) := by
 intro d
 induction d with
 | zero =>
  intro i s hi hs
  refine Ev.one (fun k => by rw [spec_SeriesFrom.l0]) ?_
  rw [show i = N from by omega]
  exact Ev.neg (by omega) (Ev.now _)
 | succ d ih =>
  intro i s hi hs
  have e : s + rd a (i : Int) = psum a i := by
   rw [hs]
   cases i with
   | zero => rw [if_pos rfl]; show 0 + rd a ((0 : Nat) : Int) = rd a ((0 : Nat) : Int); omega
   | succ i => rw [if_neg (by omega)]; rfl
  have hp := psum_rng a 1000000 hq i
  have ih := ih (i + 1) (psum a i) (by omega) (by rw [if_neg (by omega)]; rfl)
  rw [tab_succ] at ih
  refine Ev.one (fun k => by rw [spec_SeriesFrom.l0]) ?_
  rw [w64_succ i (by omega), e, w64_of (x := psum a i) (by omega) (by omega)]
  by_cases c : (i : Int) < (a.length : Int)
  ·exact Ev.pos (by omega) (Ev.pos c (Ev.pos (by omega) (Ev.pos (by rw [tab_len]; omega) ih)))
  ·have e0 : s = psum a i := by rw [← e, rd_out a i (by omega)]; omega
   rw [e0]
   exact Ev.pos (by omega) (Ev.neg c (Ev.pos (by rw [tab_len]; omega) ih))
theorem eulerlist_both (g : List Int) (hlen : g.length ≤ 1048576) : ∃ r : List Int, r.length ≤ 1048576 ∧ Ev (fun k => spec_EulerList.f k g) r ∧ Ev (fun k => impl_EulerList.f k g) r := by
 obtain ⟨b, b1, b2, b3⟩ := sg_both g hlen
 obtain ⟨c, c1, c2, c3⟩ := frob_both g hlen
 obtain ⟨c', c1', d2, d3⟩ := cond_both g hlen
 have ec : c = c' := by
  have : c = true ↔ c' = true := c1.trans c1'.symm
  cases c <;> cases c' <;> simp_all
 subst ec
 have hF := lastS_gaps c g
 obtain ⟨C, hC⟩ : ∃ C : Nat, lastS (gapsS c g) + 1 = (C : Int) := ⟨(lastS (gapsS c g) + 1).toNat, by omega⟩
 rw [hC] at d2 d3
 have eF : lastS (gapsS c g) = (C : Int) - 1 := by omega
 rw [eF] at c2 c3
 cases b with
 | false =>
  refine ⟨[], by simp, ?_, ?_⟩
  ·unfold spec_EulerList.f
   exact Ev.bnd b2 (Ev.neg (by decide) (Ev.now _))
  ·unfold impl_EulerList.f
   exact Ev.bnd b3 (Ev.neg (by decide) (Ev.now _))
 | true =>
  have hS := b1.1 rfl
  have hl1 := hS.len1
  have hl2 := hS.len2
  have n1 : Ev (fun k => spec_NumeratorOf.f k g) (numL g (C + 1)) := by
   unfold spec_NumeratorOf.f
   exact Ev.some (Ev.bnd b2 (Ev.pos rfl (num_spec_l0 g hS C (by omega) d2 (C + 1) 0 (by omega))))
  have n2 : Ev (fun k => impl_NumeratorOf.f k g) (numL g (C + 1)) := by
   unfold impl_NumeratorOf.f
   refine Ev.bnd b3 (Ev.pos rfl (Ev.bnd (impl_table_ev g hS 200 (by omega)) (Ev.bnd d3 ?_)))
   rw [w64_succ C (by omega)]
   exact num_impl_l0 g C (by omega) (C + 1) 0 (by omega)
  have hs : ∀ l : List Int, (∀ x ∈ l, 1 ≤ x ∧ x ≤ 60) → (l.length : Int) ≤ l.sum ∧ l.sum ≤ 60 * (l.length : Int) := by
   intro l
   induction l with
   | nil => intro _; simp
   | cons x l ihl =>
    intro h
    have h1 := h x List.mem_cons_self
    have h2 := ihl (fun y hy => h y (List.mem_cons_of_mem _ hy))
    rw [List.sum_cons, List.length_cons]
    omega
  have hsum := hs g hS.rng
  obtain ⟨N, hN⟩ : ∃ N : Nat, (C : Int) + g.sum = (N : Int) := ⟨((C : Int) + g.sum).toNat, by omega⟩
  have hrng := numL_rng g (C + 1)
  have hp := fun n => psum_rng (numL g (C + 1)) 1 hrng n
  refine ⟨tab (stepsE (psum (numL g (C + 1))) g) N, by rw [tab_len]; omega, ?_, ?_⟩
  ·unfold spec_EulerList.f
   refine Ev.bnd b2 (Ev.pos rfl (Ev.bnd c2 ?_))
   rw [show wrap64 ((C : Int) - 1 + 1) = (C : Int) from by rw [w64_of (by omega) (by omega)]; omega]
   -- the sums of the numerator, then one generator after the other
   have ser : Ev (fun k => spec_SeriesFrom.f k (numL g (C + 1)) (N : Int)) (tab (psum (numL g (C + 1))) N) := by
    unfold spec_SeriesFrom.f
    refine Ev.some (Ev.bnd (spec_l1In_ev _ _ _) (Ev.pos (decide_eq_true (by omega)) ?_))
    exact ser_l0 (numL g (C + 1)) N (by omega) (fun n => by have := hrng n; omega) N 0 0 (by omega) (by rw [if_pos rfl])
   have fin := fun (f : Nat → Int) (hf : ∀ n, -(1001 : Int) ≤ f n ∧ f n ≤ 1001) => eul_l1 g N (by omega) hS.rng (by omega) (by omega) g.length 0 f 1001 (tab f N) (by omega) (Nat.le_trans (Nat.mul_le_mul_left _ (Nat.pow_le_pow_right (by omega) hl2)) (by decide)) hf (tab_len f N) (fun n hn => tab_rd f N n hn)
   -- behind N the function is cut off: it is not read there
   have cut : tab (psum (numL g (C + 1))) N = tab (fun n => if n < N then psum (numL g (C + 1)) n else 0) N := tab_of _ _ _ (tab_len _ _) (fun i hi => by rw [tab_rd _ _ _ hi, if_pos hi])
   have fin2 := fin (fun n => if n < N then psum (numL g (C + 1)) n else 0) (fun n => by
    have := hp n
    show -(1001 : Int) ≤ (if n < N then psum (numL g (C + 1)) n else 0) ∧ (if n < N then psum (numL g (C + 1)) n else 0) ≤ 1001
    split <;> omega)
   have same : ∀ (l : List Int) (f h : Nat → Int), (∀ n, n < N → f n = h n) → ∀ n, n < N → stepsE f l n = stepsE h l n := by
    intro l
    induction l with
    | nil => intro f h e n hn; exact e n hn
    | cons x l ih =>
     intro f h e n hn
     refine ih (stepE f x.toNat) (stepE h x.toNat) (fun m hm => ?_) n hn
     unfold stepE
     rw [e m hm]
     split
     ·rw [e (m - x.toNat) (by omega)]
     ·rfl
   have e3 : tab (stepsE (fun n => if n < N then psum (numL g (C + 1)) n else 0) g) N = tab (stepsE (psum (numL g (C + 1))) g) N := tab_of _ _ _ (tab_len _ _) (fun i hi => by
    rw [tab_rd _ _ _ hi]
    exact same g _ _ (fun n hn => by rw [if_pos hn]) i hi)
   rw [List.drop_zero, e3, ← cut] at fin2
   have key := eul_sum g (by omega) hS.rng (C : Int) (by omega) (fun k => (spec_NumeratorOf.f k g).bind fun t290 => (spec_SeriesFrom.f k t290 ((C : Int) + g.sum)).bind fun t293 => spec_EulerList.l1 k ((C : Int) + g.sum) t293 0 g) (tab (stepsE (psum (numL g (C + 1))) g) N)
    (fun k => by rw [spec_EulerList.l0, if_neg (by omega)]) (Ev.bnd n1 (by rw [hN]; exact Ev.bnd ser fin2)) g.length 0 (by omega)
   rw [List.take_zero, List.sum_nil, Int.add_zero] at key
   exact key
  ·unfold impl_EulerList.f
   refine Ev.bnd b3 (Ev.pos rfl (Ev.bnd n2 ?_))
   have hT := impl_total_ev g (by omega) (fun x hx => by have := hS.rng x hx; omega)
   have := eul_impl_l0 g hl2 hS.rng C N (by omega) ((C : Int) - 1) c3 g.sum hT (by rw [w64_of (x := (C : Int) - 1 + g.sum) (by omega) (by omega), w64_of (by omega) (by omega)]; omega) g.length 0 1 (numL g (C + 1)) (by omega) (by rw [numL_len]; omega) (by rw [Nat.one_mul]; exact Nat.le_trans (Nat.pow_le_pow_right (by omega) hl2) (by decide)) (fun n => hrng n)
   rw [List.drop_zero] at this
   exact this
end Go.Proofs.Ytlfdipnhlmjiaaa.Pure
