/- For every code of bytes the law FnCoordinates answers true: coordinates, their clashes and the semigroup of given coordinates are the reference's, the way back leads to the same semigroup, and the coordinates add up to the genus; no condition besides the row's own. -/
import Derived.Test.YtkfplkdchkmgbaaC0
import Derived.Test.YtkfplkdchkmgbaaC1
import Derived.Test.YtkfplkdchkmgbaaC12
import Derived.Test.YtkfplkdchkmgbaaC13
import Derived.Test.YtkfplkdchkmgbaaC6
import Derived.Test.YtkfplkdchkmgbaaC8
import Derived.Test.YtkfplkdchkmgbaaBbase
import Derived.Test.YtkfplkdchkmgbaaBdrawsg
import Derived.Test.YtkfplkdchkmgbaaBfromi
namespace Go.Proofs.Ytkfplkdchkmgbaa.Pure
open Go.RowKit Go.Proofs.Ytkfplkdchkmgbaa.C Go.Proofs.YtkfplkdchkmgbaaW.PrintWords Go.Proofs.YtkfplkdchkmgbaaW.PrintLast Go.Proofs.YtkfplkdchkmgbaaW.PrintMore
set_option linter.unusedVariables false
set_option linter.unusedSimpArgs false
theorem l7List_l0 (b : List Int) (x5 : Int) (h5 : x5 ≤ 6) : ∀ (d q : Nat) (l : List Int) (i h : Int), q + d = 6 → l.length = q → CurOk b i → ∃ x, x.length ≤ 6 ∧ Ev (fun k => spec_l7List.l0 k l x5 (q : Int) b i h) x := by
 intro d
 induction d with
 | zero =>
  intro q l i h hq hl ok
  refine ⟨l, by omega, Ev.one (fun k => by rw [spec_l7List.l0]) ?_⟩
  exact Ev.neg (by omega) (Ev.now _)
 | succ d ih =>
  intro q l i h hq hl ok
  by_cases c : (q : Int) < x5
  ·obtain ⟨y, i1, h1, e1, _, k1⟩ := l1Below_ok b i h 5 ok
   have f1 : Ev (fun _ : Nat => spec_l1Below.f b i h 5) (y, i1, h1) := Ev.const e1
   obtain ⟨x, x1, x2⟩ := ih (q + 1) (l ++ [y]) i1 h1 (by omega) (by simp; omega) k1
   refine ⟨x, x1, Ev.one (fun k => by rw [spec_l7List.l0]) ?_⟩
   rw [w64_succ q (by omega)]
   exact Ev.pos c (Ev.bnd f1 (Ev.pos (by omega) x2))
  ·refine ⟨l, by omega, Ev.one (fun k => by rw [spec_l7List.l0]) ?_⟩
   exact Ev.neg c (Ev.now _)
theorem drawFromCo_ok (b : List Int) (hb : b.length ≤ 1048576) : ∃ l, l.length ≤ 60 ∧ Ev (fun k => spec_DrawFromCoordinates.f k b) l := by
 have key : ∃ l, l.length ≤ 60 ∧ Ev (fun k => spec_l7List.f k b) l := by
  unfold spec_l7List.f
  obtain ⟨h0, e0, k0⟩ := l1New_ok b hb
  obtain ⟨o, i1, h1, e1, k1⟩ := l1Once_ok b 0 h0 3 k0
  have f1 : Ev (fun _ : Nat => spec_l1Once.f b 0 h0 3) (o, i1, h1) := Ev.const e1
  cases o with
  | true =>
   obtain ⟨y, i2, h2, e2, hy, k2⟩ := l1Below_ok b i1 h1 6 k1
   have f2 : Ev (fun _ : Nat => spec_l1Below.f b i1 h1 6) (y, i2, h2) := Ev.const e2
   have := hy.2.1 (by omega)
   obtain ⟨x, x1, x2⟩ := l7List_l0 b y (by omega) 6 0 [] i2 h2 (by omega) rfl k2
   exact ⟨x, by omega, Ev.bnd e0 (Ev.bnd f1 (Ev.pos rfl (Ev.bnd f2 x2)))⟩
  | false =>
   obtain ⟨g, i2, h2, hS, k2, e2⟩ := l3Draw_ok b i1 h1 k1
   obtain ⟨r, r1, r2, _⟩ := coordsof_more g (by have := hS.len2; omega)
   obtain ⟨p, i3, h3, e3, k3⟩ := l1Once_ok b i2 h2 3 k2
   have f3 : Ev (fun _ : Nat => spec_l1Once.f b i2 h2 3) (p, i3, h3) := Ev.const e3
   have hrl := r1.1
   have no : Ev (fun k => spec_l7List.j1 k r false b i3 h3) r := Ev.one (fun k => by rw [spec_l7List.j1]) (Ev.neg Bool.false_ne_true (Ev.now _))
   cases p with
   | false => exact ⟨r, by omega, Ev.bnd e0 (Ev.bnd f1 (Ev.neg Bool.false_ne_true (Ev.bnd e2 (Ev.bnd r2 (Ev.bnd f3 (Ev.neg Bool.false_ne_true no))))))⟩
   | true =>
    by_cases hr : (r.length : Int) > 0
    rotate_left
    ·refine ⟨r, by omega, Ev.bnd e0 (Ev.bnd f1 (Ev.neg Bool.false_ne_true (Ev.bnd e2 (Ev.bnd r2 (Ev.bnd f3 (Ev.pos rfl ?_))))))⟩
     rw [decide_eq_false hr]
     exact no
    obtain ⟨y, i4, h4, e4, hy, k4⟩ := l1Below_ok b i3 h3 (r.length : Int) k3
    have f4 : Ev (fun _ : Nat => spec_l1Below.f b i3 h3 (r.length : Int)) (y, i4, h4) := Ev.const e4
    obtain ⟨z, i5, h5, e5, hz, k5⟩ := l1Below_ok b i4 h4 3 k4
    have f5 : Ev (fun _ : Nat => spec_l1Below.f b i4 h4 3) (z, i5, h5) := Ev.const e5
    have := hy.2.1 (by omega)
    refine ⟨r.set y.toNat (wrap64 (wrap64 (rd r y + z) - 1)), by rw [List.length_set]; omega, Ev.bnd e0 (Ev.bnd f1 (Ev.neg Bool.false_ne_true (Ev.bnd e2 (Ev.bnd r2 (Ev.bnd f3 (Ev.pos rfl ?_))))))⟩
    rw [decide_eq_true hr]
    refine Ev.one (fun k => by rw [spec_l7List.j1]) ?_
    refine Ev.pos rfl ?_
    refine Ev.bnd f4 ?_
    refine Ev.pos hy.1 ?_
    refine Ev.pos this ?_
    refine Ev.bnd f5 ?_
    exact Ev.now _
 obtain ⟨l, l1, l2⟩ := key
 refine ⟨l, l1, ?_⟩
 unfold spec_DrawFromCoordinates.f
 exact Ev.bnd l2 (Ev.now _)
theorem drawCo_ok (b : List Int) (hb : b.length ≤ 1048576) : ∃ g, g.length ≤ 13 ∧ Ev (fun k => spec_DrawCoordinatesOf.f k b) g := by
 unfold spec_DrawCoordinatesOf.f
 obtain ⟨h0, e0, k0⟩ := l1New_ok b hb
 obtain ⟨g, i1, h1, hg, k1, e1⟩ := l3Bent_ok b 0 h0 k0
 exact ⟨g, hg, Ev.bnd e0 (Ev.bnd e1 (Ev.now _))⟩
theorem total_l0 (l : List Int) (hl : l.length ≤ 60) (hv : ∀ v ∈ l, 0 ≤ v ∧ v ≤ 259) : ∀ (d i : Nat), i + d = l.length → (0 ≤ (l.take i).sum ∧ (l.take i).sum ≤ 259 * (i : Int)) → Ev (fun k => laws_total.l0 k l ((l.take i).sum) (i : Int)) l.sum := by
 intro d
 induction d with
 | zero =>
  intro i hi _
  rw [List.take_of_length_le (by omega)]
  refine Ev.one (fun k => by rw [laws_total.l0]) ?_
  exact Ev.neg (by omega) (Ev.now _)
 | succ d ih =>
  intro i hi hs
  have hil : i < l.length := by omega
  have hx := hv _ (List.getElem_mem hil)
  have e : (l.take (i + 1)).sum = (l.take i).sum + l[i] := by
   rw [List.take_succ_eq_append_getElem hil, List.sum_append, List.sum_cons, List.sum_nil, Int.add_zero]
  have ih := ih (i + 1) (by omega) (by rw [e]; omega)
  rw [e] at ih
  refine Ev.one (fun k => by rw [laws_total.l0]) ?_
  rw [rd_at l i hil, w64_succ i (by omega), w64_of (x := (l.take i).sum + l[i]) (by omega) (by omega)]
  exact Ev.pos (by omega) (Ev.pos (by omega) ih)
theorem total_ev (l : List Int) (hl : l.length ≤ 60) (hv : ∀ v ∈ l, 0 ≤ v ∧ v ≤ 259) : Ev (fun k => laws_total.f k l) l.sum := by
 have := total_l0 l hl hv l.length 0 (by omega) (by simp)
 exact this
theorem FnCoordinates (b : List Int) (hm_b : b.length ≤ maxLen) (hw_b : ∀ x ∈ b, (Lit.int .u8 x).wf = true) : ∃ k, laws_FnCoordinates.f k b = some true := by
 apply Ev.rounds
 unfold laws_FnCoordinates.f
 by_cases hb : b.length ≤ 1048576
 rotate_left
 ·exact Ev.bnd (big_yes b hb) (Ev.pos rfl (Ev.now _))
 obtain ⟨g, hg, e1⟩ := drawCo_ok b hb
 obtain ⟨r, r1, r2, r3⟩ := coordsof_more g (by omega)
 obtain ⟨l, hl, e2⟩ := drawFromCo_ok b hb
 obtain ⟨x, x1, x2, x3⟩ := fromco_both l (by omega)
 obtain ⟨c, c1, c2, c3⟩ := clash_both l (by omega)
 have hrl := r1.1
 have fin : Ev (fun k => laws_FnCoordinates.j0 k r false g) true := by
  refine Ev.one (fun k => by rw [laws_FnCoordinates.j0]) ?_
  obtain ⟨y, y1, _, y3⟩ := fromco_both r (by omega)
  obtain ⟨q, q1, q2⟩ := spec_IsSemigroup_ev g (by omega)
  refine Ev.neg (by decide) (Ev.bnd y3 (Ev.bnd q2 ?_))
  cases q with
  | false => exact Ev.neg (by decide) (Ev.now _)
  | true =>
   have hS := q1.1 rfl
   have hco := r1.2.1 hS
   have ey := y1.1 g hco
   subst ey
   have hgen : Ev (fun k => spec_GenusOf.f k g) ((gapL g).length : Int) := by
    unfold spec_GenusOf.f
    exact Ev.bnd q2 (Ev.pos rfl (Ev.bnd (spec_l4Gaps_ev g (fun z hz => (hS.rng z hz).1) (by omega)) (Ev.now _)))
   refine Ev.pos rfl (Ev.pos rfl (Ev.bnd (equalSg_same g (by omega)) (Ev.pos rfl (Ev.bnd (total_ev r (by omega) r1.2.2.2) (Ev.bnd hgen ?_)))))
   rw [co_genus hco, show (r.sum == r.sum) = true from by simp]
   exact Ev.now _
 by_cases hx : ∃ z, Co z l
 ·obtain ⟨z, hz⟩ := hx
  have ex := x1.1 z hz
  subst ex
  have hc := c1.2 hz.facts.2.1 hz.kunz
  have hzl := hz.1.len2
  obtain ⟨t, t1, _, t3⟩ := coordsof_more z (by omega)
  have et := (t1.2.1 hz.1).uniq hz
  subst et
  refine Ev.bnd (big_no b hb) (Ev.neg (by decide) (Ev.bnd e1 (Ev.bnd r3 (Ev.bnd e2 (Ev.bnd x3 (Ev.bnd x2 (Ev.bnd c3 (Ev.bnd c2 (Ev.bnd r2 (Ev.bnd (sameInts_ev r (by omega)) (Ev.pos rfl (Ev.neg (by simp) (Ev.bnd (equalSg_same z (by omega)) (Ev.pos rfl (Ev.neg (by simp) (Ev.neg (by simp) (Ev.neg (by rw [hc]; decide) (Ev.pos rfl (Ev.bnd t3 (Ev.bnd (sameInts_ev t (by omega)) ?_))))))))))))))))))))
  exact fin
 ·have ex := x1.2 hx
  subst ex
  refine Ev.bnd (big_no b hb) (Ev.neg (by decide) (Ev.bnd e1 (Ev.bnd r3 (Ev.bnd e2 (Ev.bnd x3 (Ev.bnd x2 (Ev.bnd c3 (Ev.bnd c2 (Ev.bnd r2 (Ev.bnd (sameInts_ev r (by omega)) (Ev.pos rfl (Ev.neg (by simp) (Ev.bnd (equalSg_same [] (by simp)) (Ev.pos rfl (Ev.neg (by simp) (Ev.neg (by simp) ?_))))))))))))))))
  cases c.2.2 with
  | true => exact Ev.pos rfl (Ev.neg (by decide) fin)
  | false => exact Ev.neg (by decide) (Ev.neg (by decide) fin)
end Go.Proofs.Ytkfplkdchkmgbaa.Pure
