/- For every code of bytes the law FnOrder answers true: the exceeding numbers are the pseudo-Frobenius ones, each number of a list lies above a least one, and both sides agree; no condition besides the row's own. -/
import Derived.Test.YtkfplkdchkmgbaaC0
import Derived.Test.YtkfplkdchkmgbaaC1
import Derived.Test.YtkfplkdchkmgbaaC20
import Derived.Test.YtkfplkdchkmgbaaC21
import Derived.Test.YtkfplkdchkmgbaaC35
import Derived.Test.YtkfplkdchkmgbaaC36
import Derived.Test.YtkfplkdchkmgbaaC38
import Derived.Test.YtkfplkdchkmgbaaBbase
import Derived.Test.YtkfplkdchkmgbaaBisort
import Derived.Test.YtkfplkdchkmgbaaBleastle
import Derived.Test.YtkfplkdchkmgbaaBreach0
import Derived.Test.YtkfplkdchkmgbaaBspeccond
import Derived.Test.YtkfplkdchkmgbaaBspecgaps
namespace Go.Proofs.Ytkfplkdchkmgbaa.Pure
open Go.RowKit Go.Proofs.Ytkfplkdchkmgbaa.C Go.Proofs.YtkfplkdchkmgbaaW.PrintWords Go.Proofs.YtkfplkdchkmgbaaW.PrintLast Go.Proofs.YtkfplkdchkmgbaaW.PrintMore
set_option linter.unusedVariables false
set_option linter.unusedSimpArgs false
theorem drawExceeding_ok (b : List Int) (hb : b.length ≤ 1048576) : ∃ g n, g.length ≤ 13 ∧ n ≤ 9223372036854775807 ∧ Ev (fun k => spec_DrawExceedingOf.f k b) (g, n) := by
  unfold spec_DrawExceedingOf.f
  obtain ⟨g, n, hg, hn, e⟩ := l6Case_ok b hb
  exact ⟨g, n, hg, hn, Ev.bnd e (Ev.now _)⟩
theorem drawMaximal_ok (b : List Int) (hb : b.length ≤ 1048576) : ∃ g l, g.length ≤ 13 ∧ l.length ≤ 6 ∧ Ev (fun k => spec_DrawMaximalOf.f k b) (g, l) := by
  unfold spec_DrawMaximalOf.f
  obtain ⟨h0, e0, k0⟩ := l1New_ok b hb
  obtain ⟨g, i1, h1, hg, k1, e1⟩ := l3Bent_ok b 0 h0 k0
  obtain ⟨l, i2, h2, hl, _, e2⟩ := l2Bent_ok b i1 h1 k1
  exact ⟨g, l, hg, hl, Ev.bnd e0 (Ev.bnd e1 (Ev.bnd e2 (Ev.now _)))⟩
theorem drawBelow_ok (b : List Int) (hb : b.length ≤ 1048576) : ∃ g x y, g.length ≤ 13 ∧ Ev (fun k => spec_DrawIsBelow.f k b) (g, x, y) := by
  unfold spec_DrawIsBelow.f
  obtain ⟨h0, e0, k0⟩ := l1New_ok b hb
  obtain ⟨g, i1, h1, hg, k1, e1⟩ := l3Bent_ok b 0 h0 k0
  obtain ⟨x, i2, h2, e2, _, k2⟩ := l1Below_ok b i1 h1 60 k1
  obtain ⟨y, i3, h3, e3, _, k3⟩ := l1Below_ok b i2 h2 60 k2
  obtain ⟨z, i4, h4, e4, _, k4⟩ := l1Below_ok b i3 h3 60 k3
  obtain ⟨v, i5, h5, e5, _, _⟩ := l1PickInt_ok b i4 h4 [y, wrap64 (z - 10), 1000001] k4 (by simp)
  have f2 : Ev (fun _ : Nat => spec_l1Below.f b i1 h1 60) (x, i2, h2) := Ev.const e2
  have f3 : Ev (fun _ : Nat => spec_l1Below.f b i2 h2 60) (y, i3, h3) := Ev.const e3
  have f4 : Ev (fun _ : Nat => spec_l1Below.f b i3 h3 60) (z, i4, h4) := Ev.const e4
  have f5 : Ev (fun _ : Nat => spec_l1PickInt.f b i4 h4 [y, wrap64 (z - 10), 1000001]) (v, i5, h5) := Ev.const e5
  exact ⟨g, wrap64 (x - 20), v, hg, Ev.bnd e0 (Ev.bnd e1 (Ev.bnd f2 (Ev.bnd f3 (Ev.bnd f4 (Ev.bnd f5 (Ev.now _))))))⟩
theorem impl_below_ev (g : List Int) (hlen : g.length ≤ 1048576) (a b : Int) (ha : -1000000 ≤ a ∧ a ≤ 1000000) (hb : -1000000 ≤ b ∧ b ≤ 1000000) : ∃ r, (r = true ↔ SG g ∧ Sums g (b - a)) ∧ Ev (fun k => impl_IsBelow.f k g a b) r := by
  have hin : allIn [a, b] (-1000000) 1000000 = true := by rw [allIn_iff]; simp only [List.mem_cons, List.not_mem_nil, or_false]; rintro x (rfl | rfl); exact ha; exact hb
  obtain ⟨c, c1, c2⟩ := impl_Contains_ev g hlen (b - a) (by omega)
  refine ⟨c, c1, ?_⟩
  unfold impl_IsBelow.f
  rw [w64_of (x := b - a) (by omega) (by omega)]
  exact Ev.bnd (impl_allWithin_ev _ _ _ (by simp)) (Ev.pos hin (Ev.bnd c2 (Ev.now _)))
theorem order_l1 (g l m x5 s : List Int) (hlen : g.length ≤ 13) (hl : l.length ≤ 6) (hm : m.length ≤ 6) (hin : ∀ x ∈ l, -1000000 ≤ x ∧ x ≤ 1000000) (hml : ∀ x ∈ m, x ∈ l) (i : Nat) (hi : i < l.length)
    (nxt : Ev (fun k => laws_FnOrder.l0 k x5 l m ((i + 1 : Nat) : Int) s g) true) :
    ∀ (d q : Nat) (t : Bool), q + d = m.length → (t = true ∨ ∃ z ∈ m.drop q, SG g ∧ Sums g (l[i] - z)) → Ev (fun k => laws_FnOrder.l1 k x5 l m (i : Int) t (q : Int) s g) true := by
  intro d
  induction d with
  | zero =>
    intro q t hq h
    refine Ev.one (fun k => by rw [laws_FnOrder.l1]) ?_
    rw [w64_succ i (by omega)]
    rw [List.drop_eq_nil_of_le (by omega)] at h
    have h : t = true := h.resolve_right (fun ⟨z, hz, _⟩ => by cases hz)
    exact Ev.neg (by omega) (Ev.pos h nxt)
  | succ d ih =>
    intro q t hq h
    refine Ev.one (fun k => by rw [laws_FnOrder.l1]) ?_
    rw [w64_succ q (by omega)]
    refine Ev.pos (by omega) ?_
    cases t with
    | true => exact Ev.pos rfl (ih (q + 1) true (by omega) (.inl rfl))
    | false =>
      have h := h.resolve_left (by decide)
      have hq1 : q < m.length := by omega
      obtain ⟨r, r1, r2⟩ := impl_below_ev g (by omega) m[q] l[i] (hin _ (hml _ (List.getElem_mem hq1))) (hin _ (List.getElem_mem hi))
      rw [rd_at m q hq1, rd_at l i hi]
      refine Ev.neg (by decide) (Ev.pos (by omega) (Ev.pos (by omega) (Ev.pos (by omega) (Ev.bnd r2 (ih (q + 1) r (by omega) ?_)))))
      rw [List.drop_eq_getElem_cons hq1] at h
      obtain ⟨z, hz, h1, h2⟩ := h
      rcases List.mem_cons.1 hz with e | e
      · subst e; exact .inl (r1.2 ⟨h1, h2⟩)
      · exact .inr ⟨z, e, h1, h2⟩
theorem order_l0 (g l m x5 s : List Int) (hlen : g.length ≤ 13) (hl : l.length ≤ 6) (hm : m.length ≤ 6) (hml : ∀ x ∈ m, x ∈ l) (hS : m ≠ [] → SG g ∧ (∀ x ∈ l, -1000000 ≤ x ∧ x ≤ 1000000) ∧ ∀ x ∈ l, ∃ z ∈ m, Sums g (x - z))
    (fin : ∀ x13 : Int, Ev (fun k => laws_FnOrder.j2 k x5 l m x13 false s g) true) : ∀ (d i : Nat), i + d = l.length → Ev (fun k => laws_FnOrder.l0 k x5 l m (i : Int) s g) true := by
  intro d
  induction d with
  | zero =>
    intro i hi
    refine Ev.one (fun k => by rw [laws_FnOrder.l0]) ?_
    exact Ev.neg (by omega) (fin _)
  | succ d ih =>
    intro i hi
    have hil : i < l.length := by omega
    have ih := ih (i + 1) (by omega)
    refine Ev.one (fun k => by rw [laws_FnOrder.l0]) ?_
    refine Ev.pos (by omega) ?_
    by_cases h : m = []
    · subst h
      exact fin _
    · obtain ⟨h1, h2, h3⟩ := hS h
      have h0 : (m.length : Int) > 0 := by have := List.length_pos_iff.2 h; omega
      rw [decide_eq_true h0]
      refine Ev.one (fun k => by rw [laws_FnOrder.j2]) ?_
      refine Ev.pos rfl ?_
      have := order_l1 g l m x5 s hlen hl hm h2 hml i hil ih m.length 0 false (by omega) (.inr (by
        obtain ⟨z, hz, hs⟩ := h3 _ (List.getElem_mem hil)
        exact ⟨z, by rw [List.drop_zero]; exact hz, h1, hs⟩))
      exact this
theorem FnOrder (b : List Int) (hm_b : b.length ≤ maxLen) (hw_b : ∀ x ∈ b, (Lit.int .u8 x).wf = true) : ∃ k, laws_FnOrder.f k b = some true := by
  apply Ev.rounds
  unfold laws_FnOrder.f
  by_cases hb : b.length ≤ 1048576
  rotate_left
  · exact Ev.bnd (big_yes b hb) (Ev.pos rfl (Ev.now _))
  obtain ⟨s, n, hs, hn, e1⟩ := drawExceeding_ok b hb
  obtain ⟨x, ⟨x1, x2⟩, x3, x4⟩ := exceeding_more s n (by omega) hn
  obtain ⟨g, l, hg, hl, e2⟩ := drawMaximal_ok b hb
  obtain ⟨t, t1, t2, t3⟩ := maximal_both g l (by omega) (by omega)
  obtain ⟨m, m1, m2, m3⟩ := minimal_more g l (by omega) (by omega)
  obtain ⟨p, y, z, hp, e3⟩ := drawBelow_ok b hb
  obtain ⟨r, r1, r2⟩ := below_both p (by omega) y z
  have ht := t1.2.2.1
  have hm := m1.2.2.1
  refine Ev.bnd (big_no b hb) (Ev.neg (by decide) (Ev.bnd e1 (Ev.bnd x4 (Ev.bnd e2 (Ev.bnd t3 (Ev.bnd m3 (Ev.bnd e3 (Ev.bnd x3 (Ev.bnd (sameInts_ev x (by omega)) (Ev.pos rfl (Ev.bnd t2 (Ev.bnd (sameInts_ev t (by omega)) (Ev.pos rfl (Ev.bnd m2 (Ev.bnd (sameInts_ev m (by omega)) (Ev.pos rfl (Ev.bnd r2 (Ev.bnd r1 ?_))))))))))))))))))
  rw [show (r != r) = false from by simp]
  refine Ev.one (fun k => by rw [laws_FnOrder.j0]) ?_
  refine Ev.neg (by decide) (order_l0 g l m x s hg hl (by omega) m1.2.1 (fun h => ?_) (fun x13 => ?_) l.length 0 (by omega))
  · obtain ⟨hS, hin⟩ := m1.2.2.2.1 h
    refine ⟨hS, hin, fun u hu => ?_⟩
    obtain ⟨v, hv, hsv⟩ := min_below g l (fun y hy => (hS.rng y hy).1) 2000000 u hu (fun w hw => by have := hin u hu; have := hin w hw; omega)
    exact ⟨v, (m1.2.2.2.2 hS hin v).2 hv, hsv⟩
  · refine Ev.one (fun k => by rw [laws_FnOrder.j2]) ?_
    refine Ev.neg (by decide) ?_
    by_cases h0 : x = []
    · subst h0
      exact Ev.pos rfl (Ev.now _)
    · obtain ⟨hS, c1, c2⟩ := x2 h0
      have hx0 := List.length_pos_iff.2 h0
      refine Ev.neg (by omega) ?_
      obtain ⟨q, q1, q2⟩ := spec_IsSemigroup_ev s (by omega)
      rw [q1.2 hS] at q2
      have hgap := spec_l4Gaps_ev s (fun y hy => (hS.rng y hy).1) (by omega)
      have hgen : Ev (fun k => spec_GenusOf.f k s) ((gapL s).length : Int) := by
        unfold spec_GenusOf.f
        exact Ev.bnd q2 (Ev.pos rfl (Ev.bnd hgap (Ev.now _)))
      refine Ev.bnd hgen ?_
      by_cases hl0 : (gapL s).length = 0
      · have hall : ∀ u : Int, 0 ≤ u → Sums s u := fun u hu => Classical.byContradiction fun hn => by
          have h5 : u < 200 := Classical.byContradiction fun h6 => hn (hS.ends u (by omega))
          have := (gapL_mem s u).2 ⟨hu, h5, hn⟩
          rw [List.eq_nil_of_length_eq_zero hl0] at this
          cases this
        rw [c1 hall]
        exact Ev.pos (by omega) (Ev.pos rfl (Ev.pos (by decide) (Ev.now _)))
      · have hex : ∃ u : Int, 0 ≤ u ∧ ¬ Sums s u := by
          have := List.length_pos_iff.2 (fun e => hl0 (by rw [e]; rfl) : gapL s ≠ [])
          have h1 := (gapL_mem s _).1 (List.getElem_mem this)
          exact ⟨_, h1.1, h1.2.2⟩
        have e := c2 hex
        have hg1 : Ev (fun k => spec_Gaps.f k s) (gapsS true s) := by
          unfold spec_Gaps.f gapsS
          exact Ev.bnd q2 (Ev.pos rfl (Ev.bnd hgap (Ev.now _)))
        have hpf := spec_pf_ev s true ⟨fun _ => hS, fun _ => rfl⟩ hg1
        rw [show pfS true s = pfL s from if_pos rfl, ← e] at hpf
        exact Ev.neg (by omega) (Ev.bnd hpf (Ev.bnd (sameInts_ev x (by omega)) (Ev.now _)))
end Go.Proofs.Ytkfplkdchkmgbaa.Pure
