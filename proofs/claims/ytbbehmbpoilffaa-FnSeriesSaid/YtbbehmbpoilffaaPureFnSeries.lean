/- For every byte string the law on numerators and series answers true: the partial sums of the numerator are the elements, and it reads the same backwards exactly if the semigroup is symmetric; no condition besides the row's own. -/
import Derived.Test.YtbbehmbpoilffaaC0
import Derived.Test.YtbbehmbpoilffaaC10
import Derived.Test.YtbbehmbpoilffaaC11
import Derived.Test.YtbbehmbpoilffaaC12
import Derived.Test.YtbbehmbpoilffaaC3
import Derived.Test.YtbbehmbpoilffaaC6
import Derived.Test.YtbbehmbpoilffaaC7
import Derived.Test.YtbbehmbpoilffaaC8
import Derived.Test.YtbbehmbpoilffaaC9
import Derived.Test.YtbbehmbpoilffaaBbase
import Derived.Test.YtbbehmbpoilffaaBmNumeratorOf
namespace Go.Proofs.Ytbbehmbpoilffaa.Pure
open Go.RowKit Go.Proofs.Ytbbehmbpoilffaa.C Go.Proofs.YtbbehmbpoilffaaW.PrintWords Go.Proofs.YtbbehmbpoilffaaW.PrintLast Go.Proofs.YtbbehmbpoilffaaW.PrintMore
set_option linter.unusedVariables false
set_option linter.unusedSimpArgs false
theorem drawSG_num (b : List Int) (hb : b.length ≤ 1048576) : ∃ g, g.length ≤ 13 ∧ Ev (fun k => spec_DrawNumeratorOf.f k b) g := by
 obtain ⟨h0, e0, k0⟩ := l1New_ok b hb
 obtain ⟨x, i1, h1, hx, k1, e1⟩ := l3Bent_ok b 0 h0 k0
 unfold spec_DrawNumeratorOf.f
 exact ⟨x, hx, Ev.bnd e0 (Ev.bnd e1 (Ev.now _))⟩
theorem drawSG_list (b : List Int) (hb : b.length ≤ 1048576) : ∃ g, g.length ≤ 13 ∧ Ev (fun k => spec_DrawEulerList.f k b) g := by
 obtain ⟨h0, e0, k0⟩ := l1New_ok b hb
 obtain ⟨x, i1, h1, hx, k1, e1⟩ := l3Bent_ok b 0 h0 k0
 unfold spec_DrawEulerList.f
 exact ⟨x, hx, Ev.bnd e0 (Ev.bnd e1 (Ev.now _))⟩
theorem drawSeries_ok (b : List Int) (hb : b.length ≤ 1048576) : ∃ l n, l.length ≤ 6 ∧ Ev (fun k => spec_DrawSeriesFrom.f k b) (l, n) := by
 obtain ⟨h0, e0, k0⟩ := l1New_ok b hb
 obtain ⟨x, i1, h1, hx, k1, e1⟩ := l2Bent_ok b 0 h0 k0
 obtain ⟨y, i2, h2, e2, b2, k2⟩ := l1Below_ok b i1 h1 10 k1
 obtain ⟨z, i3, h3, e3, b3, k3⟩ := l1Below_ok b i2 h2 10 k2
 obtain ⟨n, i4, h4, e4, b4, k4⟩ := l1PickInt_ok b i3 h3 [y, z, 0, -1, 1001] k3 (by simp)
 unfold spec_DrawSeriesFrom.f
 exact ⟨x, n, hx, Ev.bnd e0 (Ev.bnd e1 (Ev.bnd (Ev.const e2) (Ev.bnd (Ev.const e3) (Ev.bnd (Ev.const e4) (Ev.now _)))))⟩
theorem drawMult_ok (b : List Int) (hb : b.length ≤ 1048576) : ∃ x y, Ev (fun k => spec_DrawMultiplyLists.f k b) (x, y) := by
 obtain ⟨h0, e0, k0⟩ := l1New_ok b hb
 obtain ⟨x, i1, h1, hx, k1, e1⟩ := l2Bent_ok b 0 h0 k0
 obtain ⟨y, i2, h2, hy, k2, e2⟩ := l2Bent_ok b i1 h1 k1
 unfold spec_DrawMultiplyLists.f
 exact ⟨x, y, Ev.bnd e0 (Ev.bnd e1 (Ev.bnd e2 (Ev.now _)))⟩
theorem drawEulerAt_ok (b : List Int) (hb : b.length ≤ 1048576) : ∃ g n, g.length ≤ 13 ∧ Ev (fun k => spec_DrawEulerAt.f k b) (g, n) := by
 obtain ⟨h0, e0, k0⟩ := l1New_ok b hb
 obtain ⟨x, i1, h1, hx, k1, e1⟩ := l3Bent_ok b 0 h0 k0
 obtain ⟨y, i2, h2, e2, b2, k2⟩ := l1Below_ok b i1 h1 80 k1
 obtain ⟨z, i3, h3, e3, b3, k3⟩ := l1Below_ok b i2 h2 80 k2
 obtain ⟨n, i4, h4, e4, b4, k4⟩ := l1PickInt_ok b i3 h3 [y, z, -1, 1001, 1000] k3 (by simp)
 unfold spec_DrawEulerAt.f
 exact ⟨x, n, hx, Ev.bnd e0 (Ev.bnd e1 (Ev.bnd (Ev.const e2) (Ev.bnd (Ev.const e3) (Ev.bnd (Ev.const e4) (Ev.now _)))))⟩
theorem drawPal_l0 (m : Nat) (hm : m ≤ 5) : ∀ (d i : Nat) (l : List Int), i + d = m → m ≤ l.length → l.length ≤ m + i → ∃ r : List Int, r.length ≤ 2 * m ∧ Ev (fun k => spec_DrawIsPalindrome.l0 k l (m : Int) (i : Int)) r := by
 intro d
 induction d with
 | zero =>
  intro i l hi h1 h2
  refine ⟨l, by omega, Ev.one (fun k => by rw [spec_DrawIsPalindrome.l0]) ?_⟩
  exact Ev.neg (by omega) (Ev.now _)
 | succ d ih =>
  intro i l hi h1 h2
  have e1 : wrap64 (wrap64 ((m : Int) - 1) - (i : Int)) = (m : Int) - 1 - (i : Int) := by rw [w64_of (x := (m : Int) - 1) (by omega) (by omega), w64_of (by omega) (by omega)]
  obtain ⟨r, r1, r2⟩ := ih (i + 1) (l ++ [rd l ((m : Int) - 1 - (i : Int))]) (by omega) (by rw [List.length_append]; omega) (by rw [List.length_append, List.length_singleton]; omega)
  refine ⟨r, r1, Ev.one (fun k => by rw [spec_DrawIsPalindrome.l0]) ?_⟩
  rw [e1, w64_succ i (by omega)]
  exact Ev.pos (by omega) (Ev.pos (by omega) (Ev.pos (by omega) (Ev.pos (by omega) r2)))
theorem drawPal_ok (b : List Int) (hb : b.length ≤ 1048576) : ∃ l : List Int, l.length ≤ 10 ∧ Ev (fun k => spec_DrawIsPalindrome.f k b) l := by
 obtain ⟨h0, e0, k0⟩ := l1New_ok b hb
 obtain ⟨x, i1, h1, hx, k1, e1⟩ := l2Draw_ok b 0 h0 k0
 obtain ⟨o, i2, h2, e2, k2⟩ := l1Once_ok b i1 h1 2 k1
 unfold spec_DrawIsPalindrome.f
 cases o with
 | true =>
  obtain ⟨r, r1, r2⟩ := drawPal_l0 x.length hx x.length 0 x (by omega) (by omega) (by omega)
  exact ⟨r, by omega, Ev.bnd e0 (Ev.bnd e1 (Ev.bnd (Ev.const e2) (Ev.pos rfl r2)))⟩
 | false => exact ⟨x, by omega, Ev.bnd e0 (Ev.bnd e1 (Ev.bnd (Ev.const e2) (Ev.neg (by simp) (Ev.now _))))⟩
theorem pal_f (l : List Int) (hl : l.length ≤ 1048576) : ∃ b, Ev (fun k => spec_IsPalindrome.f k l) b ∧ Ev (fun k => impl_IsPalindrome.f k l) b := by
 obtain ⟨b, h1, h2⟩ := pal_both l hl l.length 0 (by omega)
 exact ⟨b, h1, h2⟩
theorem series_l1 (g p : List Int) (hS : SG g) (hlen : g.length ≤ 1048576) (hp : ∀ n : Nat, psum p n = bitI g (n : Int)) (hfin : ∃ r, Ev (fun k => impl_IsPalindrome.f k p) r ∧ Ev (fun k => spec_IsSymmetric.f k g) r) :
  ∀ (d i : Nat), i + d = 60 → Ev (fun k => laws_FnSeries.l1 k p (tab (psum p) 60) (i : Int) g) true := by
 intro d
 induction d with
 | zero =>
  intro i hi
  obtain ⟨r, r1, r2⟩ := hfin
  refine Ev.one (fun k => by rw [laws_FnSeries.l1]) ?_
  rw [tab_len]
  have e : (r == r) = true := by cases r <;> rfl
  refine Ev.neg (by omega) (Ev.bnd r1 (Ev.bnd r2 ?_))
  rw [e]
  exact Ev.now _
 | succ d ih =>
  intro i hi
  have ih := ih (i + 1) (by omega)
  have hv := tab_rd (psum p) 60 i (by omega)
  rw [hp i] at hv
  refine Ev.one (fun k => by rw [laws_FnSeries.l1]) ?_
  rw [tab_len, hv, w64_succ i (by omega)]
  refine Ev.pos (by omega) (Ev.pos (by omega) ?_)
  have tail : Ev (fun k => if bitI g (i : Int) = 0 then laws_FnSeries.l1 k p (tab (psum p) 60) ((i + 1 : Nat) : Int) g else if bitI g (i : Int) = 1 then laws_FnSeries.l1 k p (tab (psum p) 60) ((i + 1 : Nat) : Int) g else some false) true := by
   rcases bitI_val g (i : Int) with h | h
   ·exact Ev.pos h ih
   ·exact Ev.neg (by omega) (Ev.pos h ih)
  by_cases h0 : i = 0
  ·subst h0
   have h1 : bitI g ((0 : Nat) : Int) = 1 := by
    have h2 : elB g ((0 : Nat) : Int) = true := (elB_iff g _).2 (Sums.zero g)
    unfold bitI
    rw [if_pos h2]
   refine Ev.pos (by omega) (Ev.neg ?_ tail)
   rw [h1]
   decide
  ·obtain ⟨c, c1, c2⟩ := spec_Contains_ev g hlen (i : Int)
   refine Ev.neg (by omega) (Ev.bnd c2 (Ev.neg ?_ tail))
   have hc : c = elB g (i : Int) := elB_of (c1.trans ⟨fun h => h.2, fun h => ⟨hS, h⟩⟩)
   rw [hc]
   unfold bitI
   cases elB g (i : Int) <;> simp
theorem series_l0 (t : List Int) (p list : List Int) (N : Nat) (hl : list.length = N) (hN : N ≤ 1000) (g : List Int) (hat : ∀ n : Nat, n < N → Ev (fun k => impl_EulerAt.f k t (n : Int)) (rd list (n : Int)))
  (res : Bool) (tail : Nat → Option Bool) (htail : ∀ (x : Int) (k : Nat), (N : Int) ≤ x → laws_FnSeries.l0 (k + 1) p list x g t = tail k) (h : Ev tail res) :
  ∀ (d i : Nat), N ≤ i + d → i ≤ 2000 → Ev (fun k => laws_FnSeries.l0 k p list (i : Int) g t) res := by
 intro d
 induction d with
 | zero =>
  intro i hi _
  exact Ev.one (fun k => htail (i : Int) k (by omega)) h
 | succ d ih =>
  intro i hi hb
  by_cases c : i < N
  ·refine Ev.one (fun k => by rw [laws_FnSeries.l0]) ?_
   rw [show wrap64 ((i : Int) + 7) = ((i + 7 : Nat) : Int) from by rw [w64_of (by omega) (by omega)]; omega]
   exact Ev.pos (by omega) (Ev.pos (by omega) (Ev.bnd (hat i c) (Ev.pos rfl (ih (i + 7) (by omega) (by omega)))))
  ·exact Ev.one (fun k => htail (i : Int) k (by omega)) h
theorem FnSeries (b : List Int) (hm_b : b.length ≤ maxLen) (hw_b : ∀ x ∈ b, (Lit.int .u8 x).wf = true) : ∃ k, laws_FnSeries.f k b = some true := by
 apply Ev.rounds
 unfold laws_FnSeries.f
 by_cases hb : b.length ≤ 1048576
 rotate_left
 ·exact Ev.bnd (big_yes b hb) (Ev.pos rfl (Ev.now _))
 obtain ⟨s, hs, e1⟩ := drawSG_num b hb
 obtain ⟨a, n, ha, e2⟩ := drawSeries_ok b hb
 obtain ⟨pl, hpl, e3⟩ := drawPal_ok b hb
 obtain ⟨c, d, e4⟩ := drawMult_ok b hb
 obtain ⟨e, kk, he, e5⟩ := drawEulerAt_ok b hb
 obtain ⟨t, ht, e6⟩ := drawSG_list b hb
 obtain ⟨bs, s1, s2, s3, s4, s5⟩ := series_of s (by omega)
 obtain ⟨bt, t1, t2, t3, t4, t5⟩ := series_of t (by omega)
 obtain ⟨x, x0, x1, x2⟩ := series_f a n (by omega)
 obtain ⟨y, y1, y2⟩ := pal_f pl (by omega)
 obtain ⟨m, m0, m1, m2⟩ := mult_f c d
 obtain ⟨v, v1, v2⟩ := euler_both e kk (by omega)
 -- the numerator of s
 obtain ⟨p, p0, p1, p2, p3⟩ : ∃ p : List Int, p.length ≤ 1000 ∧ Ev (fun k => spec_NumeratorOf.f k s) p ∧ Ev (fun k => impl_NumeratorOf.f k s) p ∧
   ∀ k0 : Nat → Option Bool, (k0 = fun k => (spec_IsSemigroup.f k s).bind fun t802 => if t802 = true then (impl_SeriesFrom.f k p 60).bind fun t803 => laws_FnSeries.l1 k p t803 0 s else some ((p.length : Int) == 0)) → Ev k0 true := by
  cases bs with
  | false =>
   obtain ⟨n1, n2, _, _⟩ := s5 rfl
   refine ⟨[], by simp, n1, n2, fun k0 hk => ?_⟩
   rw [hk]
   exact Ev.bnd s2 (Ev.neg (by decide) (Ev.const rfl))
  | true =>
   obtain ⟨C, N, hC, hN, hall, f1, n1, n2, _, _⟩ := s4 rfl
   have hS := s1.1 rfl
   refine ⟨_, by rw [numL_len]; omega, n1, n2, fun k0 hk => ?_⟩
   rw [hk]
   have hr := numL_rng s (C + 1)
   have hp := psum_num s C hall
   refine Ev.bnd s2 (Ev.pos rfl (Ev.bnd (impl_ser_ev (numL s (C + 1)) (fun n => by have := hr n; omega)) ?_))
   refine series_l1 s (numL s (C + 1)) hS (by omega) hp ?_ 60 0 (by omega)
   obtain ⟨r, r1, r2⟩ := pal_char (numL s (C + 1)) (by rw [numL_len]; omega)
   obtain ⟨q, q1, q2⟩ := spec_symmetric_ev s hS ((C : Int) - 1) (by omega) s2 f1
   have hm := mirror s hS ((C : Int) - 1) (by omega) C (by omega) hall
   have e : r = q := by
    have : r = true ↔ q = true := by
     rw [r1, q1, ← hm, numL_len]
     have ec : ∀ i : Nat, ((C + 1 : Nat) : Int) - 1 - (i : Int) = (C : Int) - (i : Int) := fun i => by omega
     simp only [ec]
    cases r <;> cases q <;> simp_all
   exact ⟨r, r2, by rw [e]; exact q2⟩
 -- EulerList of t
 obtain ⟨l, N, l0, l1, l2, l3, l4⟩ : ∃ (l : List Int) (N : Nat), N ≤ 1000 ∧ l.length = N ∧ Ev (fun k => spec_EulerList.f k t) l ∧ Ev (fun k => impl_EulerList.f k t) l ∧ ∀ n : Nat, n < N → Ev (fun k => impl_EulerAt.f k t (n : Int)) (rd l (n : Int)) := by
  cases bt with
  | false =>
   obtain ⟨_, _, n1, n2⟩ := t5 rfl
   exact ⟨[], 0, by omega, rfl, n1, n2, fun n hn => absurd hn (by omega)⟩
  | true =>
   obtain ⟨C, N, hC, hN, hall, f1, _, _, n1, n2⟩ := t4 rfl
   have hS := t1.1 rfl
   refine ⟨_, N, hN, tab_len _ _, n1, n2, fun n hn => ?_⟩
   rw [tab_rd _ _ _ hn, steps_at t hS C hall n]
   exact euler_at t hS (by omega) t3 (n : Int) (by omega)
 have sp := sameInts_ev p (by omega)
 have sx := sameInts_ev x (by omega)
 have sm := sameInts_ev m (by omega)
 have sl := sameInts_ev l (by omega)
 have ey : ¬ (y != y) = true := by cases y <;> decide
 have fin : Ev (fun k => laws_FnSeries.j0 k p l (!true) s t) true := by
  refine Ev.one (fun k => by rw [laws_FnSeries.j0]) ?_
  refine Ev.neg (by decide) ?_
  refine series_l0 t p l N l1 l0 s l4 true _ (fun z k hz => by rw [laws_FnSeries.l0, if_neg (by omega)]) (p3 _ rfl) N 0 (by omega) (by omega)
 exact Ev.bnd (big_no b hb) (Ev.neg (by decide) (Ev.bnd e1 (Ev.bnd p2 (Ev.bnd e2 (Ev.bnd e3 (Ev.bnd e4 (Ev.bnd e5 (Ev.bnd e6 (Ev.bnd l3 (Ev.bnd p1 (Ev.bnd sp (Ev.pos rfl (Ev.bnd x2 (Ev.bnd x1 (Ev.bnd sx (Ev.pos rfl (Ev.bnd y2 (Ev.bnd y1 (Ev.neg ey (Ev.bnd m2 (Ev.bnd m1 (Ev.bnd sm (Ev.pos rfl (Ev.bnd v2 (Ev.bnd v1 (Ev.pos rfl (Ev.bnd l2 (Ev.bnd sl fin))))))))))))))))))))))))))))
end Go.Proofs.Ytbbehmbpoilffaa.Pure
