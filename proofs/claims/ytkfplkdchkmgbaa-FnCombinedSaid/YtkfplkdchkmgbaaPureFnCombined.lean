/- For every code of bytes the law FnCombined answers true: common parts and sums are the reference's, a number is in the common part exactly if it is in both, and the sum has both; no condition besides the row's own. -/
import Derived.Test.YtkfplkdchkmgbaaC0
import Derived.Test.YtkfplkdchkmgbaaC10
import Derived.Test.YtkfplkdchkmgbaaC12
import Derived.Test.YtkfplkdchkmgbaaC15
import Derived.Test.YtkfplkdchkmgbaaC16
import Derived.Test.YtkfplkdchkmgbaaC4
import Derived.Test.YtkfplkdchkmgbaaBbase
import Derived.Test.YtkfplkdchkmgbaaBdrawsg
import Derived.Test.YtkfplkdchkmgbaaBhas
namespace Go.Proofs.Ytkfplkdchkmgbaa.Pure
open Go.RowKit Go.Proofs.Ytkfplkdchkmgbaa.C Go.Proofs.YtkfplkdchkmgbaaW.PrintWords Go.Proofs.YtkfplkdchkmgbaaW.PrintLast Go.Proofs.YtkfplkdchkmgbaaW.PrintMore
set_option linter.unusedVariables false
set_option linter.unusedSimpArgs false
theorem drawMeet_ok (b : List Int) (hb : b.length ≤ 1048576) : ∃ g d, g.length ≤ 13 ∧ d.length ≤ 13 ∧ Ev (fun k => spec_DrawMeetOf.f k b) (g, d) := by
 unfold spec_DrawMeetOf.f
 obtain ⟨h0, e0, k0⟩ := l1New_ok b hb
 obtain ⟨g, i1, h1, hg, k1, e1⟩ := l3Bent_ok b 0 h0 k0
 obtain ⟨d, i2, h2, hd, _, e2⟩ := l3Bent_ok b i1 h1 k1
 exact ⟨g, d, hg, hd, Ev.bnd e0 (Ev.bnd e1 (Ev.bnd e2 (Ev.now _)))⟩
theorem drawAdd_ok (b : List Int) (hb : b.length ≤ 1048576) : ∃ g d, g.length ≤ 13 ∧ d.length ≤ 13 ∧ Ev (fun k => spec_DrawAddOf.f k b) (g, d) := by
 unfold spec_DrawAddOf.f
 obtain ⟨h0, e0, k0⟩ := l1New_ok b hb
 obtain ⟨g, i1, h1, hg, k1, e1⟩ := l3Bent_ok b 0 h0 k0
 obtain ⟨d, i2, h2, hd, _, e2⟩ := l3Bent_ok b i1 h1 k1
 exact ⟨g, d, hg, hd, Ev.bnd e0 (Ev.bnd e1 (Ev.bnd e2 (Ev.now _)))⟩
theorem drawWithin_ok (b : List Int) (hb : b.length ≤ 1048576) : ∃ g d, g.length ≤ 1048576 ∧ d.length ≤ 1048576 ∧ Ev (fun k => spec_DrawIsWithin.f k b) (g, d) := by
 unfold spec_DrawIsWithin.f
 obtain ⟨h0, e0, k0⟩ := l1New_ok b hb
 obtain ⟨g, i1, h1, hg, k1, e1⟩ := l3Bent_ok b 0 h0 k0
 obtain ⟨d, i2, h2, hd, k2, e2⟩ := l3Bent_ok b i1 h1 k1
 obtain ⟨y, i3, h3, e3, _⟩ := l1Once_ok b i2 h2 2 k2
 have f3 : Ev (fun _ : Nat => spec_l1Once.f b i2 h2 2) (y, i3, h3) := Ev.const e3
 obtain ⟨r, ⟨r1, _⟩, r2, _⟩ := addof_more g d (by omega) (by omega)
 cases y with
 | false => exact ⟨g, d, by omega, by omega, Ev.bnd e0 (Ev.bnd e1 (Ev.bnd e2 (Ev.bnd f3 (Ev.neg (show ¬ false = true by decide) (Ev.now _)))))⟩
 | true =>
  cases ht : r.2 with
  | true => exact ⟨g, r.1, by omega, r1, Ev.bnd e0 (Ev.bnd e1 (Ev.bnd e2 (Ev.bnd f3 (Ev.pos rfl (Ev.bnd r2 (Ev.pos ht (Ev.now _)))))))⟩
  | false => exact ⟨g, d, by omega, by omega, Ev.bnd e0 (Ev.bnd e1 (Ev.bnd e2 (Ev.bnd f3 (Ev.pos rfl (Ev.bnd r2 (Ev.neg (show ¬ r.2 = true by rw [ht]; decide) (Ev.now _)))))))⟩
theorem comb_l1 (c d y : List Int) (ok : Bool) (hc : c.length ≤ 13) (hd : d.length ≤ 13) (hy : y.length ≤ 1048576) (hin : ok = true → SG c ∧ SG d ∧ SG y ∧ (∀ x ∈ y, x ∈ c ∨ x ∈ d) ∧ (∀ x ∈ c, Sums y x) ∧ ∀ x ∈ d, Sums y x) :
  ∀ (e i : Nat), i + e = y.length → Ev (fun k => laws_FnCombined.l1 k ok (i : Int) c d y) true := by
 have fin : ∀ x18 : Int, Ev (fun k => laws_FnCombined.j5 k ok x18 false c d y) true := fun x18 => by
  refine Ev.one (fun k => by rw [laws_FnCombined.j5]) ?_
  refine Ev.neg (by decide) ?_
  cases ok with
  | false => exact Ev.neg (by decide) (Ev.now _)
  | true =>
   obtain ⟨k1, k2, k3, k4, k5, k6⟩ := hin rfl
   exact Ev.pos rfl (Ev.bnd (within_yes c y k1 k3 k5) (Ev.pos rfl (Ev.bnd (within_yes d y k2 k3 k6) (Ev.now _))))
 intro e
 induction e with
 | zero =>
  intro i hi
  refine Ev.one (fun k => by rw [laws_FnCombined.l1]) ?_
  exact Ev.neg (by omega) (fin _)
 | succ e ih =>
  intro i hi
  refine Ev.one (fun k => by rw [laws_FnCombined.l1]) ?_
  refine Ev.pos (by omega) ?_
  cases hok : ok with
  | false => rw [← hok]; have h := fin (i : Int); subst hok; exact h
  | true =>
   subst hok
   obtain ⟨k1, k2, k3, k4, k5, k6⟩ := hin rfl
   have hx := k4 _ (List.getElem_mem (show i < y.length by omega))
   have ih := ih (i + 1) (by omega)
   refine Ev.one (fun k => by rw [laws_FnCombined.j5]) ?_
   rw [rd_at y i (by omega), w64_succ i (by omega)]
   obtain ⟨p, p1, p2⟩ := spec_HasNumber_ev c (y[i]'(by omega)) (by omega)
   obtain ⟨q, q1, q2⟩ := spec_HasNumber_ev d (y[i]'(by omega)) (by omega)
   refine Ev.pos rfl (Ev.pos (by omega) (Ev.pos (by omega) (Ev.bnd p2 ?_)))
   cases p with
   | true => exact Ev.pos rfl ih
   | false =>
    rw [q1.2 (hx.resolve_left (fun h => by have := p1.2 h; cases this))] at q2
    exact Ev.neg (by decide) (Ev.bnd q2 (Ev.pos rfl ih))
theorem comb_l0 (a b x c d y : List Int) (ok fine : Bool) (ha : a.length ≤ 13) (hb : b.length ≤ 13) (hx : x.length ≤ 401) (hin : ok = true → SG a ∧ SG b ∧ SG x ∧ ∀ n : Int, 0 ≤ n → (Sums x n ↔ Sums a n ∧ Sums b n))
  (nxt : Ev (fun k => laws_FnCombined.l1 k fine 0 c d y) true) :
  ∀ (e i : Nat), i + e = 31 → Ev (fun k => laws_FnCombined.l0 k ok fine (i : Int) a b x c d y) true := by
 have nx : Ev (fun k => laws_FnCombined.j3 k fine false c d y) true := by
  refine Ev.one (fun k => by rw [laws_FnCombined.j3]) ?_
  exact Ev.neg (by decide) nxt
 have fin : ∀ x17 : Int, Ev (fun k => laws_FnCombined.j2 k ok fine x17 false a b x c d y) true := fun x17 => by
  refine Ev.one (fun k => by rw [laws_FnCombined.j2]) ?_
  refine Ev.neg (by decide) ?_
  cases ok with
  | false => exact Ev.neg (by decide) nx
  | true =>
   obtain ⟨k1, k2, k3, k4⟩ := hin rfl
   have hs : ∀ z ∈ x, Sums a z ∧ Sums b z := fun z hz => (k4 z (by have := k3.rng z hz; omega)).1 (Sums.one hz)
   exact Ev.pos rfl (Ev.bnd (within_yes x a k3 k1 (fun z hz => (hs z hz).1)) (Ev.pos rfl (Ev.bnd (within_yes x b k3 k2 (fun z hz => (hs z hz).2)) nx)))
 intro e
 induction e with
 | zero =>
  intro i hi
  refine Ev.one (fun k => by rw [laws_FnCombined.l0]) ?_
  exact Ev.neg (by omega) (fin _)
 | succ e ih =>
  intro i hi
  refine Ev.one (fun k => by rw [laws_FnCombined.l0]) ?_
  refine Ev.pos (by omega) ?_
  cases hok : ok with
  | false => have h := fin (i : Int); subst hok; exact h
  | true =>
   subst hok
   obtain ⟨k1, k2, k3, k4⟩ := hin rfl
   have ih := ih (i + 1) (by omega)
   refine Ev.one (fun k => by rw [laws_FnCombined.j2]) ?_
   rw [w64_succ i (by omega)]
   obtain ⟨p, p1, p2⟩ := impl_Contains_ev x (by omega) (i : Int) (by omega)
   obtain ⟨q, q1, q2⟩ := spec_Contains_ev a (by omega) (i : Int)
   obtain ⟨r, r1, r2⟩ := spec_Contains_ev b (by omega) (i : Int)
   have key := k4 (i : Int) (by omega)
   refine Ev.pos rfl (Ev.bnd p2 (Ev.bnd q2 ?_))
   cases q with
   | true =>
    have e1 : p = r := bool_same p1 (r1.trans ⟨fun h => ⟨k3, key.2 ⟨(q1.1 rfl).2, h.2⟩⟩, fun h => ⟨k2, (key.1 h.2).2⟩⟩)
    subst e1
    exact Ev.pos rfl (Ev.bnd r2 (Ev.neg (by simp) ih))
   | false =>
    have e1 : p = false := by
     cases p with
     | false => rfl
     | true => have := q1.2 ⟨k1, (key.1 (p1.1 rfl).2).1⟩; cases this
    subst e1
    exact Ev.neg (by decide) (Ev.neg (by decide) ih)
theorem FnCombined (b : List Int) (hm_b : b.length ≤ maxLen) (hw_b : ∀ x ∈ b, (Lit.int .u8 x).wf = true) : ∃ k, laws_FnCombined.f k b = some true := by
 apply Ev.rounds
 unfold laws_FnCombined.f
 by_cases hb : b.length ≤ 1048576
 rotate_left
 ·exact Ev.bnd (big_yes b hb) (Ev.pos rfl (Ev.now _))
 obtain ⟨g, d, hg, hd, e1⟩ := drawMeet_ok b hb
 obtain ⟨r, ⟨r1, r2⟩, r3, r4⟩ := meet_more g d (by omega) (by omega)
 obtain ⟨p, q, hp, hq, e2⟩ := drawAdd_ok b hb
 obtain ⟨u, ⟨u1, u2⟩, u3, u4⟩ := addof_more p q (by omega) (by omega)
 obtain ⟨v, w, hv, hw, e3⟩ := drawWithin_ok b hb
 obtain ⟨z, z1, z2⟩ := within_f v w hv hw
 refine Ev.bnd (big_no b hb) (Ev.neg (by decide) (Ev.bnd e1 (Ev.bnd r4 (Ev.bnd r3 (Ev.bnd e2 (Ev.bnd u4 (Ev.bnd u3 (Ev.bnd e3 (Ev.neg (by simp) (Ev.bnd (equalSg_same r.1 (by omega)) (Ev.pos rfl (Ev.neg (by simp) (Ev.bnd (equalSg_same u.1 u1) (Ev.pos rfl (Ev.bnd z2 (Ev.bnd z1 ?_))))))))))))))))
 rw [show (z != z) = false from by simp]
 refine Ev.one (fun k => by rw [laws_FnCombined.j0]) ?_
 exact Ev.neg (by decide) (comb_l0 g d r.1 p q u.1 r.2 u.2 hg hd r1 r2 (comb_l1 p q u.1 u.2 hp hq u1 u2 u.1.length 0 (by omega)) 31 0 (by omega))
end Go.Proofs.Ytkfplkdchkmgbaa.Pure
