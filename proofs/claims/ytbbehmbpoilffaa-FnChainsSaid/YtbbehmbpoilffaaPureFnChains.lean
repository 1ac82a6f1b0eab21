/- Every two factorizations are connected by steps that are no longer than the degree, which is greater than every gap of lengths by at least 2: the law answers true for every input; no condition besides the row's own. -/
import Derived.Test.YtbbehmbpoilffaaC0
import Derived.Test.YtbbehmbpoilffaaC15
import Derived.Test.YtbbehmbpoilffaaC16
import Derived.Test.YtbbehmbpoilffaaBbase
import Derived.Test.YtbbehmbpoilffaaBspeccount
import Derived.Test.YtbbehmbpoilffaaBspeclen
namespace Go.Proofs.Ytbbehmbpoilffaa.Pure
open Go.RowKit Go.Proofs.Ytbbehmbpoilffaa.C Go.Proofs.YtbbehmbpoilffaaW.PrintWords Go.Proofs.YtbbehmbpoilffaaW.PrintLast Go.Proofs.YtbbehmbpoilffaaW.PrintMore
set_option linter.unusedVariables false
set_option linter.unusedSimpArgs false
theorem link_at (d : Int) : ∀ (t : List (List Int)) (x : List Int), Link d x t → ∀ i (h : i + 1 < (x :: t).length), dst (x :: t)[i] (x :: t)[i + 1] ≤ d
 | [], _, _, i, h => by simp at h
 | b :: t, x, hL, 0, h => hL.1
 | b :: t, x, hL, i + 1, h => link_at d t b hL.2 i (by simpa using h)
theorem end_last : ∀ (t : List (List Int)) (x : List Int), endOf x t = (x :: t)[t.length]
 | [], x => rfl
 | b :: t, x => end_last t b
theorem chains_last (d c : Int) (l : List Int) (hl : l.length ≤ 101) (r : List Int) (hr : r.length ≤ 101) (hin : ∀ y ∈ r, 0 ≤ y ∧ y ≤ 100 ∧ 2 + y ≤ c) : r.length = 0 ∨ (0 < r.length ∧ wrap64 ((r.length : Int) - 1) = ((r.length - 1 : Nat) : Int) ∧ c ≥ wrap64 (2 + rd r ((r.length - 1 : Nat) : Int))) := by
 by_cases h : r.length = 0
 ·exact .inl h
 ·have h1 := hin _ (List.getElem_mem (show r.length - 1 < r.length by omega)); refine .inr ⟨by omega, by rw [w64_of (by omega) (by omega)]; omega, ?_⟩; rw [rd_at r (r.length - 1) (by omega), w64_of (by omega) (by omega)]; omega
theorem chains_l0 (n c m d : Int) (g a : List Int) (b : Bool) (b1 : b = true ↔ SG a) (ha : a.length ≤ 13) (dl : List Int) (hd : Ev (fun k => aC.f k g n) dl) (hend : dl.length = 0 ∨ (0 < dl.length ∧ wrap64 ((dl.length : Int) - 1) = ((dl.length - 1 : Nat) : Int) ∧ c ≥ wrap64 (2 + rd dl ((dl.length - 1 : Nat) : Int))))
  (r : List (List Int)) (hrl : r.length ≤ 100000000000) (hrow : ∀ z ∈ r, z ∈ facS b a m) (hlink : ∀ i (h : i + 1 < r.length), dst r[i] r[i + 1] ≤ d) : ∀ (e i : Nat), i + e = r.length → 1 ≤ i → Ev (fun k => laws_FnChains.l0 k n c m r d (i : Int) g a) true := by
 have row : ∀ z ∈ facS b a m, SG a ∧ b = true ∧ z.length = a.length ∧ (∀ x ∈ z, 0 ≤ x ∧ x ≤ 1000000) ∧ dot z a = m ∧ 0 ≤ m := fun z hz => by
  unfold facS at hz; by_cases hh : b = true ∧ (0 ≤ m ∧ m ≤ 100)
  ·rw [if_pos hh] at hz; have hS := b1.1 hh.1; obtain ⟨q, rfl⟩ : ∃ q : Nat, m = (q : Int) := ⟨m.toNat, by omega⟩; obtain ⟨h1, h2, h3⟩ := (facL_mem a q z (fun x hx => (hS.rng x hx).1)).1 hz; refine ⟨hS, hh.1, h1, fun x hx => ⟨h2 x hx, ?_⟩, h3, hh.2.1⟩; have := dot_ge z a h1 h2 (fun x hx => (hS.rng x hx).1) x hx; omega
  ·rw [if_neg hh] at hz; cases hz
 intro e
 induction e with
 | zero =>
  intro i hi h1; refine Ev.one (fun k => by rw [laws_FnChains.l0]) ?_; refine Ev.neg (by omega) (Ev.bnd hd ?_); rcases hend with h | ⟨h, e1, e2⟩
  ·exact Ev.pos (by omega) (Ev.now _)
  ·rw [e1, decide_eq_true e2]; exact Ev.neg (by omega) (Ev.pos (by omega) (Ev.pos (by omega) (Ev.now _)))
 | succ e ih => intro i hi h1; obtain ⟨j, rfl⟩ : ∃ j, i = j + 1 := ⟨i - 1, by omega⟩; have e1 : wrap64 (((j + 1 : Nat) : Int) - 1) = (j : Int) := (by rw [w64_of (by omega) (by omega)]; omega); obtain ⟨hS, hb, p1, p2, p3, p4⟩ := row _ (hrow _ (List.getElem_mem (show j < r.length by omega))); obtain ⟨_, _, q1, q2, q3, _⟩ := row _ (hrow _ (List.getElem_mem (show j + 1 < r.length by omega))); have hdst := impl_dist_ev r[j] r[j + 1] (by omega) (by omega); rw [if_pos ⟨by omega, (allIn_iff _ _ _).2 p2, (allIn_iff _ _ _).2 q2⟩] at hdst; have hle := hlink j (by omega); obtain ⟨w, w1, w2⟩ := implisfac_ev a m r[j + 1] (by omega) (by omega); obtain rfl := bool_same w1 b1; have ev : (decide (0 ≤ valS w a r[j + 1]) && (valS w a r[j + 1] == m)) = true := (by unfold valS; rw [if_pos ⟨hb, q1, (allIn_iff _ _ _).2 q2⟩, q3, decide_eq_true p4]; simp); rw [ev] at w2; refine Ev.one (fun k => by rw [laws_FnChains.l0]) ?_; rw [e1, rd_L2_at r j (by omega), rd_L2_at r (j + 1) (by omega), w64_succ (j + 1) (by omega)]; exact Ev.pos (by omega) (Ev.pos (by omega) (Ev.pos (by omega) (Ev.pos (by omega) (Ev.bnd hdst (Ev.neg (by omega) (Ev.bnd w2 (Ev.pos rfl (ih (j + 1 + 1) (by omega) (by omega)))))))))
theorem FnChains (b : List Int) (hm_b : b.length ≤ maxLen) (hw_b : ∀ x ∈ b, (Lit.int .u8 x).wf = true) : ∃ k, laws_FnChains.f k b = some true := by
 apply Ev.rounds; unfold laws_FnChains.f; by_cases hb : b.length ≤ 1048576; rotate_left
 ·exact Ev.bnd (big_yes b hb) (Ev.pos rfl (Ev.now _))
 obtain ⟨g, n, hg, e1⟩ := drawCat_ok b hb; obtain ⟨a, m, x, y, ha, hx, hy, e2⟩ := drawChain_ok b hb; obtain ⟨t, mo, ht, e3⟩ := drawCatDeg_ok b hb; obtain ⟨p, q, hp, hq, e4⟩ := drawDist_ok b hb; obtain ⟨gb, c, gb1, _, gcon, c1, c2, c3, c4⟩ := cat_more g (by omega) n; obtain ⟨ab, r, ok, ab1, hr, hr0, r1, r2⟩ := chain_both a (by omega) m x y (by omega) (by omega); obtain ⟨dg, t1, t2⟩ := catdeg_both t (by omega) mo; have d1 := spec_dist_ev p q (by omega); have d2 := impl_dist_ev p q (by omega) (by omega); have d3 := impl_dist_ev q p (by omega) (by omega)
 have dsym : (if q.length = p.length ∧ allIn q 0 1000000 = true ∧ allIn p 0 1000000 = true then dst q p else -1) = (if p.length = q.length ∧ allIn p 0 1000000 = true ∧ allIn q 0 1000000 = true then dst p q else -1) := by
  rw [dst_comm q p]; by_cases h : p.length = q.length ∧ allIn p 0 1000000 = true ∧ allIn q 0 1000000 = true
  ·rw [if_pos h, if_pos ⟨h.1.symm, h.2.2, h.2.1⟩]
  ·rw [if_neg h, if_neg (fun h' => h ⟨h'.1.symm, h'.2.2, h'.2.1⟩)]
 rw [dsym] at d3; generalize (if p.length = q.length ∧ allIn p 0 1000000 = true ∧ allIn q 0 1000000 = true then dst p q else -1) = dv at d1 d2 d3; obtain ⟨fb, fb1, f2, _⟩ := fac_both g (by omega) n; obtain rfl := bool_same fb1 gb1; obtain ⟨l, ⟨l1, l2, l3, l4⟩, l5⟩ := speclen_more g (by omega) n fb fb1 f2; obtain ⟨dl, ⟨k1, k2⟩, k3⟩ := specdelta_more g n l l3 l2 l5
 have hin : ∀ u ∈ dl, 0 ≤ u ∧ u ≤ 100 ∧ 2 + u ≤ c := fun u hu => by
  have hu := (k2 u).1 hu; unfold diffs at hu; obtain ⟨j, hj, rfl⟩ := List.mem_map.1 hu; rw [List.mem_range] at hj; have hj1 : j + 1 < l.length := (by omega); rw [getD_in l (j + 1) hj1, getD_in l j (by omega)]; have v1 := l2 _ (List.getElem_mem hj1); have v2 := l2 _ (List.getElem_mem (show j < l.length by omega)); have hlt := List.pairwise_iff_getElem.1 l1 j (j + 1) (by omega) hj1 (by omega); refine ⟨by omega, by omega, ?_⟩; have m1 := List.mem_map.1 ((l4 _).1 (List.getElem_mem (show j < l.length by omega))); have m2 := List.mem_map.1 ((l4 _).1 (List.getElem_mem hj1))
  have hw : fb = true ∧ (0 ≤ n ∧ n ≤ 100) := by
   obtain ⟨z, hz, _⟩ := m1; unfold facS at hz; by_cases hh : fb = true ∧ (0 ≤ n ∧ n ≤ 100)
   ·exact hh
   ·rw [if_neg hh] at hz; cases hz
  obtain ⟨N, rfl⟩ : ∃ N : Nat, n = (N : Int) := ⟨n.toNat, by omega⟩; refine gap_conn g (fb1.1 hw.1) N c (facS fb g (N : Int)) (by unfold facS; rw [if_pos hw]) gcon l[j] l[j + 1] hlt m1 m2 (fun z hz => ?_); have hm := (l4 _).2 (List.mem_map.2 ⟨z, hz, rfl⟩); obtain ⟨i, hi, ei⟩ := List.getElem_of_mem hm; rw [← ei]; by_cases hij : i ≤ j
  ·refine .inl ?_; by_cases e : i = j
   ·subst e; exact Int.le_refl _
   ·have := List.pairwise_iff_getElem.1 l1 i j hi (by omega) (by omega); omega
  ·refine .inr ?_; by_cases e : i = j + 1
   ·subst e; exact Int.le_refl _
   ·have := List.pairwise_iff_getElem.1 l1 (j + 1) i hj1 hi (by omega); omega
 have hend := chains_last 0 c l l3 dl k1 hin; obtain ⟨s1, s2⟩ := facS_small ab a ab1.1 m
 have hrl : r.length ≤ 100000000000 ∧ (∀ z ∈ r, z.length ≤ 1000) ∧ (ok = true → ∀ z ∈ r, z ∈ facS ab a m) := by
  cases ok with
  | false => rw [hr0 rfl]; exact ⟨by simp, (fun z hz => by cases hz), fun h => by cases h⟩
  | true =>
   obtain ⟨hxm, hym, d, _, hP⟩ := hr rfl; obtain ⟨tl, e, hmem, _, _⟩ := hP.form; have hfew := hP.few
   have hin : ∀ z ∈ r, z ∈ facS ab a m := fun z hz => by
    rw [e] at hz; rcases List.mem_cons.1 hz with rfl | hz
    ·exact hxm
    ·exact hmem z hz
   exact ⟨by omega, fun z hz => s2 _ (hin z hz), fun _ => hin⟩
 have hbb : ∀ q : Bool, (q != q) = false := fun q => (by cases q <;> rfl); have hdv : (dv != dv) = false := (by simp); refine Ev.bnd (big_no b hb) (Ev.neg (by decide) (Ev.bnd e1 (Ev.bnd c4 (Ev.bnd e2 (Ev.bnd r2 (Ev.bnd r1 (Ev.bnd e3 (Ev.bnd e4 (Ev.bnd c3 (Ev.pos rfl (Ev.neg (by rw [hbb]; decide) (Ev.bnd (sameLists_ev r hrl.1 hrl.2.1) (Ev.pos rfl (Ev.bnd t2 (Ev.bnd t1 (Ev.pos rfl (Ev.bnd d2 (Ev.bnd d1 (Ev.pos rfl (Ev.bnd d2 (Ev.bnd d3 ?_))))))))))))))))))))); rw [hdv]; refine Ev.one (fun k => by rw [laws_FnChains.j0]) ?_; refine Ev.neg (by decide) ?_
 cases hok : ok with
 | false =>
  refine Ev.neg (show ¬ false = true by decide) (Ev.bnd k3 ?_); rcases hend with h | ⟨h, q1, q2⟩
  ·exact Ev.pos (by omega) (Ev.now _)
  ·rw [q1, decide_eq_true q2]; exact Ev.neg (by omega) (Ev.pos (by omega) (Ev.pos (by omega) (Ev.now _)))
 | true => obtain ⟨hxm, hym, d, hd, hP⟩ := hr hok; obtain ⟨tl, er, hmem, hL, hE⟩ := hP.form; obtain ⟨bb, cv, bb1, bc, _, _, _, _, bc4⟩ := cat_more a (by omega) m; obtain rfl := bool_same bb1 ab1; have ecv : cv = d := Ev.uniq (bc (List.ne_nil_of_mem hxm)) hd; subst ecv; have hlen0 : 0 < r.length := (by rw [er]; simp); have hlast : r[r.length - 1]'(by omega) = y := (by subst er; rw [← hE, end_last]; simp); have e0 : rd_L2 r 0 = x := (by have := rd_L2_at r 0 hlen0; rw [show ((0 : Nat) : Int) = 0 from rfl] at this; rw [this]; subst er; rfl); have eL : wrap64 ((r.length : Int) - 1) = ((r.length - 1 : Nat) : Int) := (by rw [w64_of (by omega) (by omega)]; omega); refine Ev.pos rfl (Ev.bnd bc4 (Ev.neg (show ¬ ((r.length : Int) = 0) by omega) (Ev.pos (show (0 : Int) < (r.length : Int) by omega) ?_))); dsimp only; rw [e0, eL, rd_L2_at r (r.length - 1) (by omega), hlast]; refine Ev.bnd (sameInts_ev x (by omega)) (Ev.pos rfl (Ev.pos (by omega) (Ev.pos (by omega) (Ev.bnd (sameInts_ev y (by omega)) ?_)))); refine Ev.one (fun k => by rw [laws_FnChains.j1]) ?_; refine Ev.neg (by decide) ?_; have hlk : ∀ i (h : i + 1 < r.length), dst r[i] r[i + 1] ≤ cv := fun i h => (by subst er; exact link_at cv tl x hL i h); exact chains_l0 n c m cv g a bb bb1 ha dl k3 hend r hrl.1 (hrl.2.2 hok) hlk (r.length - 1) 1 (by omega) (by omega)
end Go.Proofs.Ytbbehmbpoilffaa.Pure
