/- For every code of bytes the law FnLengths answers true: differences of lengths are multiples of the common divisor of the differences of generators, no elasticity exceeds the greatest one, and both sides agree; no condition besides the row's own. -/
import Derived.Test.YtkfplkdchkmgbaaC0
import Derived.Test.YtkfplkdchkmgbaaC31
import Derived.Test.YtkfplkdchkmgbaaC33
import Derived.Test.YtkfplkdchkmgbaaC34
import Derived.Test.YtkfplkdchkmgbaaBbase
import Derived.Test.YtkfplkdchkmgbaaBdot
import Derived.Test.YtkfplkdchkmgbaaBisort
namespace Go.Proofs.Ytkfplkdchkmgbaa.Pure
open Go.RowKit Go.Proofs.Ytkfplkdchkmgbaa.C Go.Proofs.YtkfplkdchkmgbaaW.PrintWords Go.Proofs.YtkfplkdchkmgbaaW.PrintLast Go.Proofs.YtkfplkdchkmgbaaW.PrintMore
set_option linter.unusedVariables false
set_option linter.unusedSimpArgs false
theorem drawLengths_ok (b : List Int) (hb : b.length ≤ 1048576) : ∃ g n, g.length ≤ 13 ∧ Ev (fun k => spec_DrawLengthsOf.f k b) (g, n) := by
  unfold spec_DrawLengthsOf.f
  obtain ⟨g, n, hg, e⟩ := l11Case_ok b hb
  exact ⟨g, n, hg, Ev.bnd e (Ev.now _)⟩
theorem drawDeltaSet_ok (b : List Int) (hb : b.length ≤ 1048576) : ∃ g n, g.length ≤ 13 ∧ Ev (fun k => spec_DrawDeltaSet.f k b) (g, n) := by
  unfold spec_DrawDeltaSet.f
  obtain ⟨g, n, hg, e⟩ := l11Case_ok b hb
  by_cases c1 : n > 30
  · by_cases c2 : n < 101
    · exact ⟨g, 30, hg, Ev.bnd e (Ev.pos c1 (Ev.pos c2 (Ev.now _)))⟩
    · exact ⟨g, n, hg, Ev.bnd e (Ev.pos c1 (Ev.neg c2 (Ev.now _)))⟩
  · exact ⟨g, n, hg, Ev.bnd e (Ev.neg c1 (Ev.now _))⟩
theorem lengths_l0 (g : List Int) (hS : SG g) (n : Int) (d : List Int) (a c p q : Int)
    (nxt : ∀ D : Int, (∀ i (h : i + 1 < g.length), D ∣ g[i + 1] - g[i]) → Ev (fun k => laws_FnLengths.l1 k n d a c p q D 0) true) :
    ∀ (e i : Nat) (D : Int), i + e = g.length → 1 ≤ i → (-1000000 ≤ D ∧ D ≤ 1000000) → (∀ j (h : j + 1 < g.length), j + 1 < i → D ∣ g[j + 1] - g[j]) → Ev (fun k => laws_FnLengths.l0 k n d a c p q D (i : Int) g) true := by
  have h12 := hS.len2
  intro e
  induction e with
  | zero =>
    intro i D hi h1 hD h
    refine Ev.one (fun k => by rw [laws_FnLengths.l0]) ?_
    exact Ev.neg (by omega) (nxt D (fun j hj => h j hj (by omega)))
  | succ e ih =>
    intro i D hi h1 hD h
    obtain ⟨j, rfl⟩ : ∃ j, i = j + 1 := ⟨i - 1, by omega⟩
    have hx := hS.rng _ (List.getElem_mem (show j + 1 < g.length by omega))
    have hy := hS.rng _ (List.getElem_mem (show j < g.length by omega))
    refine Ev.one (fun k => by rw [laws_FnLengths.l0]) ?_
    rw [show wrap64 (((j + 1 : Nat) : Int) - 1) = (j : Int) from by rw [w64_of (by omega) (by omega)]; omega, rd_at g (j + 1) (by omega), rd_at g j (by omega), w64_succ (j + 1) (by omega), w64_of (x := g[j + 1] - g[j]) (by omega) (by omega)]
    have hg := gcdS_left D (g[j + 1] - g[j]) hD (by omega)
    have hgb : -1000000 ≤ gcdS D (g[j + 1] - g[j]) ∧ gcdS D (g[j + 1] - g[j]) ≤ 1000000 := by
      have hup := hS.up
      have := List.pairwise_iff_getElem.1 hup j (j + 1) (by omega) (by omega) (by omega)
      have := Int.le_of_dvd (by omega) hg.2.1
      omega
    refine Ev.pos (by omega) (Ev.pos (by omega) (Ev.pos (by omega) (Ev.pos (by omega) (Ev.bnd (spec_GcdOf_ev D (g[j + 1] - g[j])) (ih (j + 1 + 1) _ (by omega) (by omega) hgb (fun t ht hlt => ?_))))))
    by_cases et : t = j
    · subst et; exact hg.2.1
    · exact Int.dvd_trans hg.1 (h t ht (by omega))
theorem lengths_l1 (n : Int) (d : List Int) (a c p q D : Int) (hd : d.length ≤ 101) (hin : ∀ x ∈ d, 1 ≤ x ∧ D ∣ x) (ha : (1 ≤ a ∧ a ≤ 100) ∧ (1 ≤ c ∧ c ≤ 100) ∧ (1 ≤ p ∧ p ≤ 60) ∧ (1 ≤ q ∧ q ≤ 60) ∧ a * q ≤ c * p ∨ n = 0) :
    ∀ (e i : Nat), i + e = d.length → Ev (fun k => laws_FnLengths.l1 k n d a c p q D (i : Int)) true := by
  intro e
  induction e with
  | zero =>
    intro i hi
    refine Ev.one (fun k => by rw [laws_FnLengths.l1]) ?_
    refine Ev.neg (by omega) ?_
    rcases ha with ⟨h1, h2, h3, h4, h5⟩ | h
    · have b1 : a * q ≤ 100 * 60 := Int.mul_le_mul h1.2 h4.2 (by omega) (by omega)
      have b2 : c * p ≤ 100 * 60 := Int.mul_le_mul h2.2 h3.2 (by omega) (by omega)
      have b3 : 0 ≤ a * q := Int.mul_nonneg (by omega) (by omega)
      have b4 : 0 ≤ c * p := Int.mul_nonneg (by omega) (by omega)
      rw [w64_of (x := a * q) (by omega) (by omega), w64_of (x := c * p) (by omega) (by omega)]
      exact Ev.pos h5 (Ev.now _)
    · subst h
      by_cases hle : wrap64 (a * q) ≤ wrap64 (c * p)
      · exact Ev.pos hle (Ev.now _)
      · exact Ev.neg hle (Ev.now _)
  | succ e ih =>
    intro i hi
    have hil : i < d.length := by omega
    obtain ⟨h1, h2⟩ := hin _ (List.getElem_mem hil)
    refine Ev.one (fun k => by rw [laws_FnLengths.l1]) ?_
    rw [rd_at d i hil, w64_succ i (by omega)]
    refine Ev.pos (by omega) (Ev.neg (fun h0 => ?_) (Ev.pos (by omega) (Ev.pos (Int.tmod_eq_zero_of_dvd h2) (ih (i + 1) (by omega)))))
    rw [h0, Int.zero_dvd] at h2
    omega
theorem FnLengths (b : List Int) (hm_b : b.length ≤ maxLen) (hw_b : ∀ x ∈ b, (Lit.int .u8 x).wf = true) : ∃ k, laws_FnLengths.f k b = some true := by
  apply Ev.rounds
  unfold laws_FnLengths.f
  by_cases hb : b.length ≤ 1048576
  rotate_left
  · exact Ev.bnd (big_yes b hb) (Ev.pos rfl (Ev.now _))
  obtain ⟨g, n, hg, e1⟩ := drawLengths_ok b hb
  obtain ⟨t, m, ht, e2⟩ := drawDeltaSet_ok b hb
  obtain ⟨w, l, hw, ⟨l1, l2, l3, l4⟩, l5, l6⟩ := lengths_more g (by omega) n
  obtain ⟨d, ⟨d1, d2⟩, d3, d4⟩ := delta_more g (by omega) n l l3 (fun x hx => ⟨(l2 x hx).1, (l2 x hx).2.1⟩) l5
  obtain ⟨D, D1, D2, D3⟩ := deltaset_both t (by omega) m
  -- the pairs
  have pairs : ∃ r u : Int × Int, (l ≠ [] → ((1 ≤ r.1 ∧ r.1 ≤ 100) ∧ (1 ≤ r.2 ∧ r.2 ≤ 100) ∧ (1 ≤ u.1 ∧ u.1 ≤ 60) ∧ (1 ≤ u.2 ∧ u.2 ≤ 60) ∧ r.1 * u.2 ≤ r.2 * u.1) ∨ n = 0) ∧ (Ev (fun k => spec_ElasticityOf.f k g n) r ∧ Ev (fun k => impl_ElasticityOf.f k g n) r) ∧ (Ev (fun k => spec_GreatestElasticity.f k g) u ∧ Ev (fun k => impl_GreatestElasticity.f k g) u) := by
    by_cases hc : l ≠ [] ∧ n ≠ 0
    · have h0 := List.length_pos_iff.2 hc.1
      have hv : ∀ x ∈ l, 1 ≤ x ∧ x ≤ 100 := fun x hx => ⟨(l2 x hx).2.2 hc.2, (l2 x hx).2.1⟩
      obtain ⟨r, c, ⟨r1, r2, r3, r4, r5⟩, r6, r7⟩ := elast_more g n hc.2 l h0 l3 hv l5 l6
      have hin : ∀ y ∈ l, ∃ z ∈ facS w g n, y = z.sum := fun y hy => by
        obtain ⟨z, hz, e⟩ := List.mem_map.1 ((l4 y).1 hy)
        exact ⟨z, hz, e.symm⟩
      have hwt : w = true ∧ (0 ≤ n ∧ n ≤ 100) := by
        obtain ⟨z, hz, _⟩ := hin _ (List.getElem_mem h0)
        unfold facS at hz
        by_cases hh : w = true ∧ (0 ≤ n ∧ n ≤ 100)
        · exact hh
        · rw [if_neg hh] at hz; cases hz
      have hS := hw.1 hwt.1
      obtain ⟨u, c', ⟨u1, u2, u3, u4, u5⟩, u6, u7⟩ := elas_more g hS
      refine ⟨r, u, fun _ => .inl ⟨r4, r5, u4, u5, ?_⟩, ⟨r6, r7⟩, ⟨u6, u7⟩⟩
      obtain ⟨N, rfl⟩ : ∃ N : Nat, n = (N : Int) := ⟨n.toNat, by omega⟩
      have hrow : ∀ z ∈ facS w g (N : Int), z.length = g.length ∧ (∀ x ∈ z, 0 ≤ x) ∧ dot z g = (N : Int) := fun z hz => by
        unfold facS at hz
        rw [if_pos hwt] at hz
        exact (facL_mem g N z (fun x hx => (hS.rng x hx).1)).1 hz
      have hgl := hS.len1
      have hgb : ∀ x ∈ g, rd g 0 ≤ x ∧ x ≤ rd g ((g.length - 1 : Nat) : Int) := fun x hx => by
        obtain ⟨j, hj, rfl⟩ := List.getElem_of_mem hx
        have e0 : rd g 0 = g[0] := rd_at g 0 (by omega)
        rw [e0, rd_at g (g.length - 1) (by omega)]
        have hup := hS.up
        constructor
        · by_cases e : j = 0
          · subst e; omega
          · have := List.pairwise_iff_getElem.1 hup 0 j (by omega) hj (by omega); omega
        · by_cases e : j = g.length - 1
          · subst e; omega
          · have := List.pairwise_iff_getElem.1 hup j (g.length - 1) hj (by omega) (by omega); omega
      obtain ⟨z, hz, ez⟩ := hin _ (List.getElem_mem (show l.length - 1 < l.length by omega))
      obtain ⟨z', hz', ez'⟩ := hin _ (List.getElem_mem (show 0 < l.length by omega))
      obtain ⟨a1, a2, a3⟩ := hrow z hz
      obtain ⟨b1, b2, b3⟩ := hrow z' hz'
      have k1 := (dot_between _ _ z g a1 a2 hgb).1
      have k2 := (dot_between _ _ z' g b1 b2 hgb).2
      rw [a3, ← ez, r2, u3] at k1
      rw [b3, ← ez', r3, u2] at k2
      have k3 : u.2 * c' * (r.1 * c) ≤ u.1 * c' * (r.2 * c) := Int.le_trans k1 k2
      have k4 : r.1 * u.2 * (c * c') ≤ r.2 * u.1 * (c * c') := by
        rw [show r.1 * u.2 * (c * c') = u.2 * c' * (r.1 * c) from by ac_rfl, show r.2 * u.1 * (c * c') = u.1 * c' * (r.2 * c) from by ac_rfl]
        exact k3
      exact Int.le_of_mul_le_mul_right k4 (Int.mul_pos (by omega) (by omega))
    · obtain ⟨r, r1, r2⟩ := elast_both g (by omega) n
      obtain ⟨u, u1, u2⟩ := elas_both g (by omega)
      refine ⟨r, u, fun hl => .inr (Classical.byContradiction fun hn => hc ⟨hl, hn⟩), ⟨r1, r2⟩, ⟨u1, u2⟩⟩
  obtain ⟨r, u, hru, ⟨r1, r2⟩, ⟨u1, u2⟩⟩ := pairs
  refine Ev.bnd (big_no b hb) (Ev.neg (by decide) (Ev.bnd e1 (Ev.bnd l6 (Ev.bnd d4 (Ev.bnd r2 (Ev.bnd r1 (Ev.bnd u2 (Ev.bnd u1 (Ev.bnd e2 (Ev.bnd l5 (Ev.bnd (sameInts_ev l (by omega)) (Ev.pos rfl (Ev.bnd d3 (Ev.bnd (sameInts_ev d (by omega)) (Ev.pos rfl (Ev.pos rfl (Ev.pos rfl (Ev.pos rfl (Ev.pos rfl (Ev.bnd D3 (Ev.bnd D2 (Ev.bnd (sameInts_ev D (by omega)) ?_))))))))))))))))))))))
  refine Ev.one (fun k => by rw [laws_FnLengths.j0]) ?_
  refine Ev.neg (by decide) ?_
  by_cases h0 : l = []
  · have hd0 : d = [] := by
      cases d with
      | nil => rfl
      | cons x d =>
        have := (d2 x).1 (List.mem_cons_self ..)
        rw [h0] at this
        cases this
    rw [h0, hd0]
    exact Ev.pos rfl (Ev.now _)
  · have h0' := List.length_pos_iff.2 h0
    refine Ev.neg (by omega) ?_
    have hin : ∀ y ∈ l, ∃ z ∈ facS w g n, y = z.sum := fun y hy => by
      obtain ⟨z, hz, e⟩ := List.mem_map.1 ((l4 y).1 hy)
      exact ⟨z, hz, e.symm⟩
    have hwt : w = true ∧ (0 ≤ n ∧ n ≤ 100) := by
      obtain ⟨z, hz, _⟩ := hin _ (List.getElem_mem h0')
      unfold facS at hz
      by_cases hh : w = true ∧ (0 ≤ n ∧ n ≤ 100)
      · exact hh
      · rw [if_neg hh] at hz; cases hz
    have hS := hw.1 hwt.1
    obtain ⟨N, rfl⟩ : ∃ N : Nat, n = (N : Int) := ⟨n.toNat, by omega⟩
    have hrow : ∀ z ∈ facS w g (N : Int), z.length = g.length ∧ dot z g = (N : Int) := fun z hz => by
      unfold facS at hz
      rw [if_pos hwt] at hz
      have := (facL_mem g N z (fun x hx => (hS.rng x hx).1)).1 hz
      exact ⟨this.1, this.2.2⟩
    have hgl := hS.len1
    refine lengths_l0 g hS (N : Int) d r.1 r.2 u.1 u.2 (fun E hE => ?_) (g.length - 1) 1 0 (by omega) (by omega) (by omega) (fun j hj h => by omega)
    refine lengths_l1 (N : Int) d r.1 r.2 u.1 u.2 E d1 (fun x hx => ?_) (hru h0) d.length 0 (by omega)
    have hx := (d2 x).1 hx
    unfold diffs at hx
    obtain ⟨j, hj, rfl⟩ := List.mem_map.1 hx
    rw [List.mem_range] at hj
    rw [getD_in l (j + 1) (by omega), getD_in l j (by omega)]
    have hlt := List.pairwise_iff_getElem.1 l1 j (j + 1) (by omega) (by omega) (by omega)
    obtain ⟨z, hz, ez⟩ := hin _ (List.getElem_mem (show j + 1 < l.length by omega))
    obtain ⟨z', hz', ez'⟩ := hin _ (List.getElem_mem (show j < l.length by omega))
    obtain ⟨a1, a3⟩ := hrow z hz
    obtain ⟨b1, b3⟩ := hrow z' hz'
    refine ⟨by omega, ?_⟩
    rw [ez, ez']
    exact sum_dvd g hS E hE z z' a1 b1 (by rw [a3, b3])
end Go.Proofs.Ytkfplkdchkmgbaa.Pure
