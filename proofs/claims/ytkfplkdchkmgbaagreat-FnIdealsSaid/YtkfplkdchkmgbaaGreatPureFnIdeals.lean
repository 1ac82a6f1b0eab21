/- For every code of bytes the law FnIdeals answers true: ideals are those of their smallest lists, the dual list holds what leads into the semigroup, the canonical one mirrors it, and both sides agree; no condition besides the row's own. -/
import Derived.Test.YtkfplkdchkmgbaaGreatC0
import Derived.Test.YtkfplkdchkmgbaaGreatC14
import Derived.Test.YtkfplkdchkmgbaaGreatC9
import Derived.Test.YtkfplkdchkmgbaaGreatBbase
import Derived.Test.YtkfplkdchkmgbaaGreatBextreme
namespace Go.Proofs.YtkfplkdchkmgbaaGreat.Pure
open Go.RowKit Go.Proofs.YtkfplkdchkmgbaaGreat.C Go.Proofs.YtkfplkdchkmgbaaGreatW.PrintWords Go.Proofs.YtkfplkdchkmgbaaGreatW.PrintLast Go.Proofs.YtkfplkdchkmgbaaGreatW.PrintMore
set_option linter.unusedVariables false
set_option linter.unusedSimpArgs false
theorem ideals_len (x : List Int) (hx : idealB x = true) : x ≠ [] := fun h => by
 have := (idealB_of x hx).2.1
 rw [h] at this
 exact absurd this (by decide)
theorem idealB_zero : idealB [0] = true := by
 unfold idealB
 rw [(allIn_iff [0] (-200) 200).2 (fun x hx => by rw [List.mem_singleton.1 hx]; omega)]
 rfl
theorem idealB_mk (x : List Int) (h1 : 1 ≤ x.length) (h2 : x.length ≤ 20) (h : ∀ v ∈ x, -200 ≤ v ∧ v ≤ 200) : idealB x = true := by
 unfold idealB
 rw [(allIn_iff x (-200) 200).2 h, decide_eq_true (by omega)]
 rfl
theorem ideals_l1 (g l dual c t : List Int) (y : Int) (hlen : g.length ≤ 13) (hl : l.length ≤ 5) (hdl : dual.length ≤ 20) (hv : ∀ v ∈ l, -200 ≤ v ∧ v ≤ 200) (hy : -30 ≤ y ∧ y ≤ 60) (hS : SG g) (hB : idealB dual = true)
  (key : (∃ z ∈ dual, Sums g (y - z)) ↔ ∀ v ∈ l, Sums g (y + v))
  (nxt : Ev (fun k => laws_FnIdeals.l0 k l dual c (wrap64 (y + 7)) g t) true) :
  ∀ (d q : Nat) (b : Bool), q + d = l.length → (b = true ↔ ∀ v ∈ l.take q, Sums g (y + v)) → Ev (fun k => laws_FnIdeals.l1 k l dual c y b (q : Int) g t) true := by
 intro d
 induction d with
 | zero =>
  intro q b hq h
  rw [List.take_of_length_le (by omega)] at h
  obtain ⟨r, r1, _, r3⟩ := inideal_more g dual y (by omega) (by omega)
  have e : b = r := bool_same (h.trans key.symm) (r1.trans ⟨fun h => h.2.2.2, fun h => ⟨hS, hB, by omega, h⟩⟩)
  subst e
  refine Ev.one (fun k => by rw [laws_FnIdeals.l1]) ?_
  exact Ev.neg (by omega) (Ev.bnd r3 (Ev.neg (by simp) nxt))
 | succ d ih =>
  intro q b hq h
  have hql : q < l.length := by omega
  have hvq := hv _ (List.getElem_mem hql)
  refine Ev.one (fun k => by rw [laws_FnIdeals.l1]) ?_
  rw [rd_at l q hql, w64_succ q (by omega), w64_of (x := y + l[q]) (by omega) (by omega)]
  refine Ev.pos (by omega) ?_
  cases b with
  | false =>
   refine Ev.neg (by decide) (ih (q + 1) false (by omega) ⟨fun h => (by cases h), fun h2 => h.2 fun v hv => h2 v ?_⟩)
   rw [List.take_succ_eq_append_getElem hql]
   exact List.mem_append_left _ hv
  | true =>
   obtain ⟨r, r1, _, r3⟩ := inideal_more g [0] (y + l[q]) (by omega) (by simp)
   refine Ev.pos rfl (Ev.pos (by omega) (Ev.bnd r3 (ih (q + 1) r (by omega) ⟨fun hr v hm => ?_, fun h2 => r1.2 ⟨hS, idealB_zero, by omega, 0, List.mem_singleton.2 rfl, ?_⟩⟩)))
   ·rw [List.take_succ_eq_append_getElem hql] at hm
    rcases List.mem_append.1 hm with hm | hm
    ·exact h.1 rfl v hm
    ·rw [List.mem_singleton.1 hm]
     obtain ⟨z, hz, hs⟩ := (r1.1 hr).2.2.2
     rwa [List.mem_singleton.1 hz, Int.sub_zero] at hs
   ·rw [Int.sub_zero]
    exact h2 _ (by rw [List.take_succ_eq_append_getElem hql]; exact List.mem_append_right _ (List.mem_singleton.2 rfl))
theorem ideals_l0 (g l dual c t : List Int) (hlen : g.length ≤ 13) (hl : l.length ≤ 5) (hdl : dual.length ≤ 1048576)
  (key : idealB dual = true → SG g ∧ (∀ v ∈ l, -200 ≤ v ∧ v ≤ 200) ∧ ∀ y : Int, -30 ≤ y → y ≤ 60 → ((∃ z ∈ dual, Sums g (y - z)) ↔ ∀ v ∈ l, Sums g (y + v)))
  (ha : asc dual) (fin : ∀ y : Int, Ev (fun k => laws_FnIdeals.j3 k l dual c y false g t) true) :
  ∀ (d : Nat) (y : Int), y + 7 * (d : Int) = 61 → -30 ≤ y → Ev (fun k => laws_FnIdeals.l0 k l dual c y g t) true := by
 intro d
 induction d with
 | zero =>
  intro y hy hy0
  refine Ev.one (fun k => by rw [laws_FnIdeals.l0]) ?_
  exact Ev.neg (by omega) (fin y)
 | succ d ih =>
  intro y hy hy0
  have ih := ih (y + 7) (by omega) (by omega)
  refine Ev.one (fun k => by rw [laws_FnIdeals.l0]) ?_
  refine Ev.pos (by omega) ?_
  by_cases h0 : (dual.length : Int) > 0
  rotate_left
  ·exact Ev.neg h0 (fin y)
  refine Ev.pos h0 ?_
  by_cases h1 : (dual.length : Int) ≤ 20
  rotate_left
  ·exact Ev.neg h1 (fin y)
  refine Ev.pos h1 (Ev.pos (by omega) ?_)
  have e0 : rd dual 0 = dual[0]'(by omega) := rd_at dual 0 (by omega)
  by_cases h2 : rd dual 0 ≥ -200
  rotate_left
  ·exact Ev.neg h2 (fin y)
  refine Ev.pos h2 ?_
  rw [w64_of (x := (dual.length : Int) - 1) (by omega) (by omega), show (dual.length : Int) - 1 = ((dual.length - 1 : Nat) : Int) from by omega, rd_at dual (dual.length - 1) (by omega)]
  refine Ev.pos (by omega) (Ev.pos (by omega) ?_)
  by_cases h3 : dual[dual.length - 1]'(by omega) ≤ 200
  rotate_left
  ·rw [decide_eq_false h3]; exact fin y
  rw [decide_eq_true h3]
  have hB : idealB dual = true := idealB_mk dual (by omega) (by omega) (fun v hv => by
   obtain ⟨j, hj, ej⟩ := List.getElem_of_mem hv
   have a1 : dual[0]'(by omega) ≤ dual[j] := by
    by_cases hj0 : j = 0
    ·subst hj0; exact Int.le_refl _
    ·have := List.pairwise_iff_getElem.1 ha 0 j (by omega) hj (by omega)
     omega
   have a2 : dual[j] ≤ dual[dual.length - 1]'(by omega) := by
    by_cases hj0 : j = dual.length - 1
    ·subst hj0; exact Int.le_refl _
    ·have := List.pairwise_iff_getElem.1 ha j (dual.length - 1) hj (by omega) (by omega)
     omega
   omega)
  obtain ⟨k1, k2, k3⟩ := key hB
  refine Ev.one (fun k => by rw [laws_FnIdeals.j3]) ?_
  refine Ev.pos rfl ?_
  have := ideals_l1 g l dual c t y hlen hl (by omega) k2 (by omega) k1 hB (k3 y (by omega) (by omega)) (by rw [w64_of (x := y + 7) (by omega) (by omega)]; exact ih) l.length 0 true (by omega) ⟨fun _ v hv => (by simp at hv), fun _ => rfl⟩
  exact this
theorem ideals_l2 (t c : List Int) (f : Int) (hf : -1 ≤ f ∧ f ≤ 199) (hlen : t.length ≤ 13) (hc : c.length ≤ 1048576) (hS : SG t)
  (key : c.length ≤ 20 → idealB c = true ∧ ∀ y : Int, -5 ≤ y → y ≤ f + 5 → ((∃ z ∈ c, Sums t (y - z)) ↔ ¬ Sums t (f - y)))
  (fin : ∀ y : Int, Ev (fun k => laws_FnIdeals.j6 k c f y false t) true) :
  ∀ (d : Nat) (y : Int), y + (d : Int) = f + 6 → -5 ≤ y → Ev (fun k => laws_FnIdeals.l2 k c f y t) true := by
 have hp : ∀ x ∈ t, 1 ≤ x := fun x hx => (hS.rng x hx).1
 intro d
 induction d with
 | zero =>
  intro y hy hy0
  refine Ev.one (fun k => by rw [laws_FnIdeals.l2]) ?_
  rw [w64_of (x := f + 5) (by omega) (by omega)]
  exact Ev.neg (by omega) (fin y)
 | succ d ih =>
  intro y hy hy0
  have ih := ih (y + 1) (by omega) (by omega)
  refine Ev.one (fun k => by rw [laws_FnIdeals.l2]) ?_
  rw [w64_of (x := f + 5) (by omega) (by omega)]
  refine Ev.pos (by omega) ?_
  by_cases h : (c.length : Int) ≤ 20
  rotate_left
  ·rw [decide_eq_false h]; exact fin y
  rw [decide_eq_true h]
  obtain ⟨k1, k2⟩ := key (by omega)
  have k2 := k2 y (by omega) (by omega)
  obtain ⟨r, r1, _, r3⟩ := inideal_more t c y (by omega) (by omega)
  have r1 : r = true ↔ ¬ Sums t (f - y) := r1.trans ⟨fun h => k2.1 h.2.2.2, fun h => ⟨hS, k1, by omega, k2.2 h⟩⟩
  refine Ev.one (fun k => by rw [laws_FnIdeals.j6]) ?_
  rw [w64_of (x := f - y) (by omega) (by omega), w64_of (x := y + 1) (by omega) (by omega)]
  refine Ev.pos rfl (Ev.bnd r3 ?_)
  by_cases hfy : f - y ≥ 0
  ·obtain ⟨s, s1, s2⟩ := spec_Contains_ev t (by omega) (f - y)
   refine Ev.pos hfy (Ev.bnd s2 (Ev.neg ?_ ih))
   rw [beq_iff_eq]
   intro e
   subst e
   cases r with
   | true => exact r1.1 rfl (s1.1 rfl).2
   | false => have := r1.2 (fun hs => by have := s1.2 ⟨hS, hs⟩; cases this); cases this
  ·have : r = true := r1.2 fun hs => by have := hs.nonneg hp; omega
   subst this
   exact Ev.neg hfy (Ev.neg (by decide) ih)
theorem ideals_fin (t c : List Int) (hlen : t.length ≤ 13) (hc : c.length ≤ 1048576) (hn : ¬ SG t → c = [])
  (hk : SG t → asc c ∧ ∀ y, y ∈ c ↔ (lastS (gapL t) - 200 ≤ y ∧ y ≤ lastS (gapL t) + 200 ∧ ¬ Sums t (lastS (gapL t) - y)) ∧ ∀ z, lastS (gapL t) - 200 ≤ z ∧ z ≤ lastS (gapL t) + 200 ∧ ¬ Sums t (lastS (gapL t) - z) → y = z ∨ ¬ Sums t (y - z))
  (l dual g : List Int) (y : Int) : Ev (fun k => laws_FnIdeals.j3 k l dual c y false g t) true := by
 refine Ev.one (fun k => by rw [laws_FnIdeals.j3]) ?_
 refine Ev.neg (by decide) ?_
 obtain ⟨b, b1, b2⟩ := spec_IsSemigroup_ev t (by omega)
 cases b with
 | false =>
  have : c = [] := hn fun h => by have := b1.2 h; cases this
  subst this
  exact Ev.bnd b2 (Ev.neg (by decide) (Ev.now _))
 | true =>
  have hS := b1.1 rfl
  have hp : ∀ x ∈ t, 1 ≤ x := fun x hx => (hS.rng x hx).1
  obtain ⟨k1, k2⟩ := hk hS
  obtain ⟨d, d1, d2, _⟩ := frob_both t (by omega)
  obtain rfl := bool_same b1 d1
  rw [show gapsS true t = gapL t from if_pos rfl] at d2
  have hall := cond_all t hS
  have hfl := frob_last t hS
  have hfb : -1 ≤ lastS (gapL t) ∧ lastS (gapL t) ≤ 199 := by rcases hfl with h | h <;> omega
  have hfn : ¬ Sums t (lastS (gapL t)) := by
   rcases hfl with h | h
   ·rw [h.2]; intro hs; have := hs.nonneg hp; omega
   ·exact h.2.2.1
  refine Ev.bnd b2 (Ev.pos rfl (Ev.bnd d2 ?_))
  generalize lastS (gapL t) = f at k2 d2 hall hfb hfn
  have dz : ∀ z, ¬ Sums t (f - z) → 0 ≤ z := fun z h => Classical.byContradiction fun hz => h (hall _ (by omega))
  have h0c : (0 : Int) ∈ c := (k2 0).2 ⟨⟨by omega, by omega, by rw [Int.sub_zero]; exact hfn⟩, fun z hz => by
   by_cases e : 0 = z
   ·exact .inl e
   ·refine .inr fun hs => ?_
    have := hs.nonneg hp
    have := dz z hz.2.2
    omega⟩
  have hzb : ∀ z ∈ c, 0 ≤ z ∧ z ≤ 199 := fun z hz => by
   have h1 := (k2 z).1 hz
   have h2 := dz z h1.1.2.2
   refine ⟨h2, Classical.byContradiction fun h3 => ?_⟩
   rcases h1.2 0 ⟨by omega, by omega, by rw [Int.sub_zero]; exact hfn⟩ with h | h
   ·omega
   ·exact h (hall _ (by omega))
  have key : ∀ y : Int, y ≤ f + 200 → ((∃ z ∈ c, Sums t (y - z)) ↔ ¬ Sums t (f - y)) := fun y hy => by
   constructor
   ·rintro ⟨z, hz, hs⟩ hn
    refine ((k2 z).1 hz).1.2.2 ?_
    have := hs.both hn
    rwa [show y - z + (f - y) = f - z from by omega] at this
   ·intro h
    have hy0 := dz y h
    obtain ⟨z, hz, hs⟩ := min_under t hp (fun z => f - 200 ≤ z ∧ z ≤ f + 200 ∧ ¬ Sums t (f - z)) 0 (fun z hz => dz z hz.2.2) y.toNat y ⟨by omega, by omega, h⟩ (by omega)
    exact ⟨z, (k2 z).2 hz, hs⟩
  refine ideals_l2 t c f hfb hlen hc hS (fun hl => ⟨idealB_mk c (List.length_pos_iff.2 (List.ne_nil_of_mem h0c)) hl (fun v hv => by have := hzb v hv; omega), fun y _ hy => key y (by omega)⟩) (fun y => ?_) (f + 11).toNat (-5) (by omega) (by omega)
  refine Ev.one (fun k => by rw [laws_FnIdeals.j6]) ?_
  obtain ⟨r, r1, r2⟩ := spec_symmetric_ev t hS f hfb b2 d2
  refine Ev.neg (by decide) (Ev.bnd r2 (Ev.congr (fun _ => ?_) (Ev.now _)))
  rw [show ((c.length : Int) == 1) = r from bool_same (asc_one c k1 h0c) (r1.trans ⟨fun h z hz => ?_, fun h x hx0 hx1 e => ?_⟩)]
  ·simp
  ·have h1 := (k2 z).1 hz
   have h2 := hzb z hz
   have hsz : Sums t z := by
    by_cases hzf : z ≤ f
    ·refine Classical.byContradiction fun hn => h z h2.1 hzf ?_
     rw [show elB t z = false from by rw [← Bool.not_eq_true, elB_iff]; exact hn, show elB t (f - z) = false from by rw [← Bool.not_eq_true, elB_iff]; exact h1.1.2.2]
    ·exact hall z (by omega)
   rcases h1.2 0 ⟨by omega, by omega, by rw [Int.sub_zero]; exact hfn⟩ with h | h
   ·exact h
   ·exact absurd (by rw [Int.sub_zero]; exact hsz) h
  ·by_cases hx : Sums t x
   ·have h1 : Sums t (f - x) := (elB_iff t _).1 (by rw [← e]; exact (elB_iff t _).2 hx)
    have := hx.both h1
    rw [show x + (f - x) = f from by omega] at this
    exact hfn this
   ·have h1 : ¬ Sums t (f - x) := fun hs => hx ((elB_iff t _).1 (by rw [e]; exact (elB_iff t _).2 hs))
    obtain ⟨z, hz, hs⟩ := (key x (by omega)).2 h1
    rw [h z hz, Int.sub_zero] at hs
    exact hx hs
theorem FnIdeals (b : List Int) (hm_b : b.length ≤ maxLen) (hw_b : ∀ x ∈ b, (Lit.int .u8 x).wf = true) : ∃ k, laws_FnIdeals.f k b = some true := by
 apply Ev.rounds
 unfold laws_FnIdeals.f
 by_cases hb : b.length ≤ 1048576
 rotate_left
 ·exact Ev.bnd (big_yes b hb) (Ev.pos rfl (Ev.now _))
 obtain ⟨g, l, x, hg, hl, e1⟩ := drawInIdeal_ok b hb
 obtain ⟨p, m, n, hp, hm, hn, e2⟩ := drawIdealSum_ok b hb
 obtain ⟨t, ht, e3⟩ := drawCanonical_ok b hb
 have e4 : Ev (fun k => spec_DrawDualGens.f k b) (g, l) := by
  unfold spec_DrawDualGens.f
  exact Ev.bnd e1 (Ev.now _)
 obtain ⟨r, r1, r2, r3⟩ := inideal_more g l x (by omega) (by omega)
 obtain ⟨s, s1, s2, s3⟩ := idealgens_more g l (by omega) (by omega)
 obtain ⟨u, u1, u2, u3, u4⟩ := idealsum_comm p m n (by omega) (by omega) (by omega)
 obtain ⟨v, v1, v2, v3⟩ := dual_more g l (by omega) (by omega)
 obtain ⟨c, c1, c2, c3⟩ := canonical_more t (by omega)
 have hsl := s1.1
 have hvl := v1.1
 have hcl := c1.1
 refine Ev.bnd (big_no b hb) (Ev.neg (by decide) (Ev.bnd e1 (Ev.bnd r3 (Ev.bnd s3 (Ev.bnd e2 (Ev.bnd e4 (Ev.bnd v3 (Ev.bnd e3 (Ev.bnd c3 (Ev.bnd r2 (Ev.neg (by simp) (Ev.bnd s2 (Ev.bnd (sameInts_ev s (by omega)) (Ev.pos rfl (Ev.bnd u3 (Ev.bnd u2 (Ev.bnd (sameInts_ev u (by omega)) (Ev.pos rfl (Ev.bnd u3 (Ev.bnd u4 (Ev.bnd (sameInts_ev u (by omega)) (Ev.pos rfl (Ev.bnd v2 (Ev.bnd (sameInts_ev v (by omega)) (Ev.pos rfl (Ev.bnd c2 (Ev.bnd (sameInts_ev c (by omega)) ?_)))))))))))))))))))))))))))
 have fin := fun y => ideals_fin t c ht hcl c1.2.1 c1.2.2 l v g y
 have go : Ev (fun k => laws_FnIdeals.j1 k l v c false g t) true := by
  refine Ev.one (fun k => by rw [laws_FnIdeals.j1]) ?_
  refine Ev.neg (by decide) ?_
  by_cases hv : v = []
  ·subst hv
   exact ideals_l0 g l [] c t hg.1 hl.1 (by simp) (fun h => absurd rfl (ideals_len _ h)) List.Pairwise.nil fin 13 (-30) (by omega) (by omega)
  ·obtain ⟨w1, w2, w3, a, w4, w5, w6⟩ := v1.2 hv
   have hpos : ∀ x ∈ g, 1 ≤ x := fun x hx => (w1.rng x hx).1
   have hlr := (idealB_of l w2).1
   have har := hlr a w4
   refine ideals_l0 g l v c t hg.1 hl.1 hvl (fun _ => ⟨w1, hlr, fun y hy0 hy1 => ⟨?_, fun h => ?_⟩⟩) w3 fin 13 (-30) (by omega) (by omega)
   ·rintro ⟨z, hz, hs⟩ q hq
    have := hs.both (((w6 z).1 hz).1.2.2 q hq)
    rwa [show y - z + (z + q) = y + q from by omega] at this
   ·have h0 := (h a w4).nonneg hpos
    obtain ⟨z, hz, hs⟩ := min_under g hpos (fun z => -a ≤ z ∧ z ≤ 400 - a ∧ ∀ q ∈ l, Sums g (z + q)) (-a) (fun z hz => hz.1) (y + a).toNat y ⟨by omega, by omega, h⟩ (by omega)
    exact ⟨z, (w6 z).2 hz, hs⟩
 refine Ev.one (fun k => by rw [laws_FnIdeals.j0]) ?_
 refine Ev.neg (by decide) ?_
 by_cases hs : s = []
 ·subst hs
  exact Ev.neg (by simp) go
 ·obtain ⟨q1, q2, q3⟩ := s1.2 hs
  have hlr := idealB_of l q2
  have hsm : ∀ y ∈ s, y ∈ l := fun y hy => ((exL_mem g true l y).1 ((q3 y).1 hy)).1
  have hsB : idealB s = true := idealB_mk s (List.length_pos_iff.2 hs) (by omega) (fun y hy => hlr.1 y (hsm y hy))
  obtain ⟨r', r1', _, r3'⟩ := inideal_more g s x (by omega) (by omega)
  have e : r' = r := bool_same r1' (r1.trans (and_congr_right fun _ => ⟨fun h => ⟨hsB, h.2.1, ?_⟩, fun h => ⟨q2, h.2.1, ?_⟩⟩))
  ·subst e
   refine Ev.pos (by have := List.length_pos_iff.2 hs; omega) (Ev.bnd r3' ?_)
   rw [show (r' != r') = false from by simp]
   exact go
  ·obtain ⟨y, hy, hys⟩ := h.2.2
   obtain ⟨z, hz, hzs⟩ := min_below g l (fun y hy => (q1.rng y hy).1) 400 y hy (fun w hw => by have := hlr.1 y hy; have := hlr.1 w hw; omega)
   refine ⟨z, (q3 z).2 hz, ?_⟩
   have := hys.both hzs
   rwa [show x - y + (y - z) = x - z from by omega] at this
  ·obtain ⟨y, hy, hys⟩ := h.2.2
   exact ⟨y, hsm y hy, hys⟩
end Go.Proofs.YtkfplkdchkmgbaaGreat.Pure
