/- Contracts of functions of the program: impl_MinimalIn, impl_sifted, impl_DualGens. -/
import Derived.Test.YtiejmnnnjmmifaaC0
import Derived.Test.YtiejmnnnjmmifaaC7
import Derived.Test.YtiejmnnnjmmifaaC8
namespace Go.Proofs.Ytiejmnnnjmmifaa.C
open Go.RowKit Go.Proofs.YtiejmnnnjmmifaaW.PrintWords Go.Proofs.YtiejmnnnjmmifaaW.PrintLast Go.Proofs.YtiejmnnnjmmifaaW.PrintMore
attribute [local go_sem] max2_int min2_int max_two min_two max_three min_three max_four min_four
set_option linter.unusedVariables false
set_option linter.unusedSimpArgs false

/-! ### impl_MinimalIn: function 26 -/
def impl_MinimalIn.p (p : Int → Option Bool) (x y : Int) : Option Bool := p (wrap64 (x - y))
def impl_MinimalIn.f (k : Nat) (l0_0 l1 : List Int) : Option (List Int) := (impl_reach.f k l0_0).bind fun p => impl_extreme.f k l0_0 l1 (impl_MinimalIn.p p)
set_option maxHeartbeats 8000000 in
theorem impl_MinimalIn.c1 (w : World) (g : Nat) (F : Value) (p : Int → Option Bool) (hbox : w.heap[g]? = some (.cells #[F] 47 (0, 0))) (hF : FnR1 Try.prog w F p) : FnR2 Try.prog w (.func (.func 53) #[] #[.pointer (some ⟨g, 0, none⟩)]) (impl_MinimalIn.p p) :=
 ⟨53, _, rfl, (fun args w => enters_ Try.func53 (by kernel_rfl) rfl args w), fun W hb x y b h => by
  obtain ⟨gF, lF, rfl, eF, hF⟩ := hF
  have hcz : W.cell? ⟨g, 0, none⟩ = some (.func (.func gF) #[] lF) := (blk_cell (blk_below hbox hb) 0).trans rfl
  have HB := Aside0.mk hb
  have h : p (wrap64 (x - y)) = some b := h
  clear hbox hb
  show Calls Try.prog 53 #[.int .i64 x, .int .i64 y, .pointer (some ⟨g, 0, none⟩)] W _
  go_enter Try.func53, Try.ntmps53
  go_wp2_with (first | (go_at_fn gF; (with_reducible refine (hF _ bw (wrap64 (x - y)) b h).mono ?_); rintro e w' ⟨rfl, ⟨nd, rfl⟩⟩))
  go_ret
  exact ⟨re, dw⟩⟩
set_option maxHeartbeats 8000000 in
set_option maxRecDepth 100000 in
theorem impl_MinimalIn.calls (k : Nat) (A0_0 : Option Addr) (c0_0 : Nat) (l0_0 : List Int) (A1 : Option Addr) (c1 : Nat) (l1 : List Int) (r : List Int) (w : World) (hr0_0 : Kd.C (Kd.int .i64) w A0_0 l0_0.length l0_0) (hc0_0 : l0_0.length ≤ c0_0) (hr1 : Kd.C (Kd.int .i64) w A1 l1.length l1) (hc1 : l1.length ≤ c1) (h : impl_MinimalIn.f k l0_0 l1 = some r) :
  Calls Try.prog 26 #[.agg #[.slice A0_0 l0_0.length c0_0], .slice A1 l1.length c1] w fun e w' => ∃ v0_ : Value, e = .returned v0_ ∧ Kd.R (Kd.int .i64) 3 w' w.heap.size (fun _ => True) v0_ r ∧ Below w.heap.size w w' := by
 have hu27 := Try.underlying27
 have HR0_0 := Aside0.mk hr0_0
 have HC0_0 := Aside0.mk hc0_0
 have HR1 := Aside0.mk hr1
 have HC1 := Aside0.mk hc1
 clear hr0_0 hc0_0 hr1 hc1
 have HB := Aside0.mk (Below.refl w.heap.size w)
 have H : ((impl_reach.f k l0_0).bind fun p => impl_extreme.f k l0_0 l1 (impl_MinimalIn.p p)) = some r := h
 clear h
 replace H := ga H; obtain ⟨t1, A1_, H⟩ := H
 have A2_ := Aside0.mk H
 clear H
 go_enter Try.func26, Try.ntmps26
 go_wp2_with (first | ((with_reducible refine gate_dst (N := 2) rfl ?_); refine bx 2 #[.slice A0_0 l0_0.length c0_0] 27 ?_; intro gb1 hg w1 hbox hb; have BK1 := Aside0.mk hbox; replace HB := Aside0.mk (below_step bw hb); clear hb hbox hg; have hcz1 := bc BK1 0 (.slice A0_0 l0_0.length c0_0); have hfz1 := blk_frozen BK1.out 0) | ((with_reducible refine gate_callee (f := 50) rfl ?_); refine gl (some 7) Try.func50 #[.agg #[.slice A0_0 l0_0.length c0_0]] ?_; (with_reducible refine (impl_reach.calls k _ _ l0_0 t1 _ ?side1 ?side2 A1_.out).mono ?_); (case side1 => exact co (Kd.C_below HR0_0.out HB.out)); (case side2 => exact HC0_0.out); rintro e w2 ⟨F_t1, rfl, hF_t1, hb⟩; refine ⟨_, rfl, ?_⟩; clear hcz1 hfz1; replace BK1 := Aside0.mk (blk_below (g := gb1) (o := .cells #[.slice A0_0 l0_0.length c0_0] 27 (0, 0)) (bo BK1.out) hb); have HW_ := Aside0.mk (below_step bw hb : Below w.heap.size w w2); replace HR0_0 := Aside0.mk (Kd.C_below HR0_0.out HW_.out); replace HR1 := Aside0.mk (Kd.C_below HR1.out HW_.out); clear HB hb; have HB := Aside0.mk (Below.refl w2.heap.size w2); obtain ⟨gF, lF, eF_⟩ : ∃ g lb, F_t1 = .func (.func g) #[] lb := (by obtain ⟨g, lb, h, _⟩ := hF_t1; exact ⟨g, lb, h⟩); subst eF_; have HF_ := Aside0.mk hF_t1; clear hF_t1; obtain ⟨w, rfl⟩ : ∃ x_, x_ = w2 := ⟨_, rfl⟩; have hcz1 := bc BK1 0 (.slice A0_0 l0_0.length c0_0); have hfz1 := blk_frozen BK1.out 0) | ((with_reducible refine gate_dst (N := 5) rfl ?_); refine bx 5 #[.nilFunc] 47 ?_; intro gb2 hg w3 hbox hb; have GE2 := Aside0.mk (gs hg : w.heap.size ≤ gb2); have NB12 := Aside0.mk ((by rw [hg]; exact Nat.ne_of_lt (blk_lt (g := gb1) (o := .cells #[.slice A0_0 l0_0.length c0_0] 27 (0, 0)) (bo BK1.out)) : gb1 ≠ gb2)); clear hcz1 hfz1; replace BK1 := Aside0.mk (blk_below (g := gb1) (o := .cells #[.slice A0_0 l0_0.length c0_0] 27 (0, 0)) (bo BK1.out) hb); have BK2 := Aside0.mk hbox; replace HB := Aside0.mk (below_step bw hb); clear hb hbox hg; have hnb1 := NB12.out; have hnc1 := NB12.out.symm; have hcz1 := bc BK1 0 (.slice A0_0 l0_0.length c0_0); have hfz1 := blk_frozen BK1.out 0; have hcz2 := bc BK2 0 .nilFunc; have hfz2 := blk_frozen BK2.out 0) | ((with_reducible refine gate_callee (f := 51) rfl ?_); refine gl (some 11) Try.func51 #[.agg #[.slice A0_0 l0_0.length c0_0], .slice A1 l1.length c1, .func (.func 53) #[] #[.pointer (some ⟨gb2, 0, none⟩)]] ?_; (with_reducible refine (impl_extreme.calls k _ _ l0_0 _ _ l1 (impl_MinimalIn.p t1) (.func (.func 53) #[] #[.pointer (some ⟨gb2, 0, none⟩)]) r _ ?side1 ?side2 ?side3 ?side4 ?side5 A2_.out).mono ?_); (case side1 => exact Kd.C_below HR0_0.out bw); (case side2 => exact HC0_0.out); (case side3 => exact Kd.C_below HR1.out bw); (case side4 => exact HC1.out); (case side5 => exact impl_MinimalIn.c1 _ gb2 (.func (.func gF) #[] lF) t1 (by (with_reducible repeat (first | refine blk_drewN ?_ _ | refine blk_drew ?_ | refine blk_alloc ?_ _)); exact blk_put (cs := #[.nilFunc]) (bo BK2.out) 0 _ rfl) (FnR1.below HF_.out bw)); rintro e w4 ⟨v, rfl, ho0, hb⟩; refine ⟨_, rfl, ?_⟩; have HO := Aside0.mk (Kd.R_lower ho0 (below_size bw)); replace HB := Aside0.mk (below_step bw hb); clear hb ho0))
 go_ret
 exact ⟨_, rfl, Kd.R_lower (ro HO.out) (below_size HW_.out), below_step HW_.out bw⟩


/-! ### impl_sifted: function 76 -/
def impl_sifted.l0 : Nat → Int → (Int → Option Bool) → List Int → Int → List Int → Option (List Int)
 | 0, _, _, _, _, _ => none
 | k + 1, x2, x3, x9, x10, x518000 => if x10 ≤ x2 then ((apF1.f x3 x10).bind fun t521 => (if t521 = true then (if x9.length < 17592186044416 then (impl_sifted.l0 k x2 x3 (x9 ++ [x10]) (wrap64 (x10 + 1)) x518000) else (none)) else (impl_sifted.l0 k x2 x3 x9 (wrap64 (x10 + 1)) x518000))) else ((impl_MinimalIn.f k x518000 x9).bind fun t525 => (some t525))
def impl_sifted.f (k : Nat) (l0_0 : List Int) (a1 : Int) (a2 : Int) (a3 : (Int → Option Bool)) : Option (List Int) := impl_sifted.l0 k a2 a3 (([] : List Int)) a1 l0_0
set_option maxHeartbeats 8000000 in
set_option maxRecDepth 100000 in
theorem impl_sifted.calls (k : Nat) (A0_0 : Option Addr) (c0_0 : Nat) (l0_0 : List Int) (a1 : Int) (a2 : Int) (a3 : (Int → Option Bool)) (F_a3 : Value) (r : List Int) (w : World) (hr0_0 : Kd.C (Kd.int .i64) w A0_0 l0_0.length l0_0) (hc0_0 : l0_0.length ≤ c0_0) (hF_a3 : FnR1 Try.prog w F_a3 a3) (h : impl_sifted.f k l0_0 a1 a2 a3 = some r) :
  Calls Try.prog 76 #[.agg #[.slice A0_0 l0_0.length c0_0], .int .i64 a1, .int .i64 a2, F_a3] w fun e w' => ∃ v0_ : Value, e = .returned (v0_) ∧ Kd.R (Kd.int .i64) 3 w' w.heap.size (fun _ => True) v0_ r ∧ Below w.heap.size w w' := by
 have hu27 := Try.underlying27
 have HR0_0 := Aside0.mk hr0_0
 have HC0_0 := Aside0.mk hc0_0
 clear hr0_0 hc0_0
 have HB := Aside0.mk (Below.refl w.heap.size w)
 obtain ⟨gF_a3, lF_a3, rfl, eF_a3, hF_a3⟩ := hF_a3
 have H : (impl_sifted.l0 k a2 a3 (([] : List Int)) a1 l0_0) = some r := h
 clear h
 obtain ⟨y518, hy518⟩ : ∃ y_ : List Int, y_ = (([] : List Int)) := ⟨_, rfl⟩
 replace H : (impl_sifted.l0 k a2 a3 y518 a1 l0_0) = some r := by first | (rw [hy518]; with_reducible exact H) | (have H2_ := (Option.bind_some _ _).symm.trans H; rw [hy518]; with_reducible exact H2_) | (have H2_ := (Option.bind_some _ _).symm.trans H; with_reducible exact H2_) | with_reducible exact H | (rw [hy518]; exact H) | exact H
 have Ny518 := Aside0.mk hy518
 clear hy518
 have H' := Aside0.mk H
 clear H
 go_enter Try.func76, Try.ntmps76
 go_wp2_with (first | ((with_reducible refine gate_dst (N := 4) rfl ?_); refine bx 4 #[.slice A0_0 l0_0.length c0_0] 27 ?_; intro gb517 hg w5 hbox hb; have BK517 := Aside0.mk (hbox); have GW517 := Aside0.mk (gs hg : w.heap.size ≤ gb517); have GE517 := Aside0.mk (gs hg : w.heap.size ≤ gb517); replace HB := Aside0.mk (below_step bw hb); clear hb hbox hg) | ((with_reducible refine gate_dst (N := 11) rfl ?_); refine Kd.R_lit (Kd.int .i64) _ 3 ?hg (N := 11) ?hd (xs := ([] : List Int)) (inner := []) (ok := fun _ => True) (okp := fun _ => True) ?hr ?hp (fun _ hk => hk) trivial (Below.refl _ _) (Nat.le_refl _) (by simp) ?_; (case hd => rfl); (case hg => rfl); (case hr => first | (go_simp; done) | (go_simp; rfl)); (case hp => exact (Reps.none _ _)); intro v519 w6 ho7 hb hg_ hnew_; clear hg_ hnew_; (first | rw [← Ny518.out] at ho7 | (simp only [Int.reduceToNat] at ho7; rw [← Ny518.out] at ho7)); have HO520 := Aside0.mk (Kd.R_lower ho7 (below_size bw)); replace BK517 := Aside0.mk (blk_below (g := gb517) (o := .cells #[.slice A0_0 l0_0.length c0_0] 27 (0, 0)) (bo BK517.out) hb); replace HB := Aside0.mk (below_step bw hb); clear hb ho7))
 go_loopg [9, 10] k (fun kq v9 v10 w' => ∃ (x9_1 : List Int) (x10_1 : Int), v10 = .int .i64 x10_1 ∧ Aside0 (impl_sifted.l0 kq a2 a3 x9_1 x10_1 l0_0 = some r) ∧ Aside0 (kq ≤ k) ∧ Aside0 (Kd.R (Kd.int .i64) 3 w' w.heap.size (fun _ => True) v9 x9_1) ∧ Aside0 (w'.heap[gb517]? = some (.cells #[(.slice A0_0 l0_0.length c0_0)] 27 (0, 0))) ∧ Aside0 (Below w.heap.size w w'))
 case atStart => exact ⟨(y518), (a1), rr, H', ⟨Nat.le_refl _⟩, ⟨ro HO520.out⟩, ⟨bo BK517.out⟩, ⟨bw⟩⟩
 case round =>
  clear H'
  obtain ⟨x9_1, x10_1, rfl, HA, HK1, HO_9, BK517, HB⟩ := hrel
  cases gk with
  | zero => exact absurd HA.out (by simp [impl_sifted.l0])
  | succ k1 =>
   have H := HA.out
   clear HA
   simp only [impl_sifted.l0] at H
   replace H := gi H; obtain ⟨c8b0, H⟩ | ⟨c8b0, H⟩ := H
   ·replace H := ga H; obtain ⟨t521, A9, H⟩ := H
    replace H := gb H; obtain ⟨rfl, H⟩ | ⟨rfl, H⟩ := H
    ·by_cases c11 : x9_1.length < 17592186044416
     rotate_left
     ·rw [if_neg c11] at H
      exact absurd H (by simp)
     rw [if_pos c11] at H
     have LMc11 := Aside0.mk c11
     clear c11
     obtain ⟨y522, hy522⟩ : ∃ y_ : List Int, y_ = (x9_1 ++ [x10_1]) := ⟨_, rfl⟩
     replace H : (impl_sifted.l0 k1 a2 a3 y522 (wrap64 (x10_1 + 1)) l0_0) = some r := by first | (rw [hy522]; with_reducible exact H) | (have H2_ := (Option.bind_some _ _).symm.trans H; rw [hy522]; with_reducible exact H2_) | (have H2_ := (Option.bind_some _ _).symm.trans H; with_reducible exact H2_) | with_reducible exact H | (rw [hy522]; exact H) | exact H
     have Ny522 := Aside0.mk hy522
     clear hy522
     have H' := Aside0.mk H
     clear H
     go_wp2_with (first | (go_at_fn gF_a3; (with_reducible refine (hF_a3 _ bw x10_1 true A9.out).mono ?_); rintro e w' ⟨rfl, ⟨nd, rfl⟩⟩) | ((with_reducible refine gate_builtin (b := .append) (xs := #[.tmp 21, .tmp 23]) rfl ?_); at_builtin; refine Kd.R_append (Kd.int .i64) (w0 := w) w.heap.size rfl (.tmp 21) (.tmp 23) 22 3 (.int .i64 0) 8 rfl Try.underlying22 info3 rfl (by decide) (by omega) u9 x9_1 x10_1 [.int .i64 x10_1] (fun _ => True) (fun _ => False) rfl rfl ?aP (fun _ hk => hk.elim) ?aF ?aO ?aB ?aS ?aL ?_; (case aP => exact rfl); (case aB => exact bw); (case aF => exact (fun _ _ => trivial)); (case aO => exact (ro HO_9.out)); (case aS => exact (below_size bw)); (case aL => have := LMc11.out; omega); intro v523 w12 ho hb hg hat; rw [← Ny522.out] at ho; replace BK517 := Aside0.mk (blk_grown (g := gb517) (o := .cells #[.slice A0_0 l0_0.length c0_0] 27 (0, 0)) (bo BK517.out) hg (Kd.R_ne HO_9.out BK517.out (by decide))); replace HB := Aside0.mk (hb); have HO524 := Aside0.mk (ho); clear HO_9 ho hb hg hat))
     go_roundg k1
     case measure => have := HK1.out; omega
     case rel => exact ⟨(y522), (wrap64 (x10_1 + 1)), rr, H', ⟨by have := HK1.out; omega⟩, ⟨ro HO524.out⟩, ⟨bo BK517.out⟩, ⟨bw⟩⟩
    ·have H' := Aside0.mk H
     clear H
     go_wp2_with (first | (go_at_fn gF_a3; (with_reducible refine (hF_a3 _ bw x10_1 false A9.out).mono ?_); rintro e w' ⟨rfl, ⟨nd, rfl⟩⟩))
     go_roundg k1
     case measure => have := HK1.out; omega
     case rel => exact ⟨(x9_1), (wrap64 (x10_1 + 1)), rr, H', ⟨by have := HK1.out; omega⟩, ⟨ro HO_9.out⟩, ⟨bo BK517.out⟩, ⟨bw⟩⟩
   ·replace H := ga H; obtain ⟨t525, A13, H⟩ := H
    obtain rfl := Option.some.inj H
    have hcz14_0 := bc BK517 0 (.slice A0_0 l0_0.length c0_0)
    have hfz14_0 := blk_frozen BK517.out 0
    obtain ⟨Ao15, co15, eo15⟩ := Kd.R_slice HO_9.out
    subst eo15
    go_wp2_with (first | ((with_reducible refine gate_callee (f := 26) rfl ?_); refine gl (some 27) Try.func26 #[.agg #[.slice A0_0 l0_0.length c0_0], .slice Ao15 x9_1.length co15] ?_; (with_reducible refine (impl_MinimalIn.calls k1 _ _ l0_0 _ _ x9_1 t525 _ ?side1 ?side2 ?side3 ?side4 A13.out).mono ?_); (case side1 => exact co (Kd.C_below HR0_0.out HB.out)); (case side2 => exact HC0_0.out); (case side3 => exact co (Kd.R_reads' HO_9.out).2.2); (case side4 => exact (Kd.R_reads' HO_9.out).2.1); rintro e w16 ⟨v526, rfl, ho0, hb⟩; refine ⟨_, rfl, ?_⟩; have HO527 := Aside0.mk (Kd.R_lower (Kd.R_new' ho0 (Kd.R_lt (ro HO_9.out))) (below_size bw)); replace HO_9 := Aside0.mk (Kd.R_elder' (ro HO_9.out) (Kd.R_base ho0) hb); replace BK517 := Aside0.mk (blk_below (g := gb517) (o := .cells #[.slice A0_0 l0_0.length c0_0] 27 (0, 0)) (bo BK517.out) hb); replace HB := Aside0.mk (below_step bw hb); clear hb ho0))
    go_ret
    exact ⟨_, re, by (with_reducible repeat (first | apply Kd.R_alloc | apply Kd.R_drewN | apply Kd.R_drew)); exact Kd.R_mono HO527.out (fun _ hk => trivial), bw⟩


/-! ### impl_DualGens: function 44 -/
def impl_DualGens.l0 : Nat → (Int → Option Bool) → List Int → Int → Int → Option Bool
 | 0, _, _, _, _ => none
 | k + 1, p, l, x, i => if i < (l.length : Int) then (if 0 ≤ i then (if i < (l.length : Int) then ((p (wrap64 (x + rd l i))).bind fun t => if t = true then impl_DualGens.l0 k p l x (wrap64 (i + 1)) else some false) else none) else none) else some true
def impl_DualGens.p (k : Nat) (p : Int → Option Bool) (l : List Int) (x : Int) : Option Bool := impl_DualGens.l0 k p l x 0
def impl_DualGens.f (k : Nat) (l0_0 l1 : List Int) : Option (List Int) := (impl_IsSemigroup.f k l0_0).bind fun t => if t = true then (impl_idealList.f k l1).bind fun t2 => if t2 = true then (impl_reach.f k l0_0).bind fun p => (impl_SortList.f l1).bind fun q => if 0 < (q.length : Int) then impl_sifted.f k l0_0 (wrap64 (-(rd q 0))) (wrap64 (400 - rd q 0)) (impl_DualGens.p k p l1) else none else some [] else some []
set_option maxHeartbeats 8000000 in
set_option maxRecDepth 100000 in
theorem impl_DualGens.c1 (k : Nat) (w : World) (g g2 : Nat) (F : Value) (p : Int → Option Bool) (A1 : Option Addr) (c1 : Nat) (l1 : List Int) (hr1 : Kd.C (Kd.int .i64) w A1 l1.length l1) (hbox : w.heap[g]? = some (.cells #[.slice A1 l1.length c1] 22 (0, 0))) (hbox2 : w.heap[g2]? = some (.cells #[F] 47 (0, 0))) (hF : FnR1 Try.prog w F p) : FnR1 Try.prog w (.func (.func 80) #[] #[.pointer (some ⟨g, 0, none⟩), .pointer (some ⟨g2, 0, none⟩)]) (impl_DualGens.p k p l1) :=
 ⟨80, _, rfl, (fun args w => enters_ Try.func80 (by kernel_rfl) rfl args w), fun W hb x b h => by
  obtain ⟨gF, lF, rfl, eF, hF⟩ := hF
  have hcz : W.cell? ⟨g, 0, none⟩ = some (.slice A1 l1.length c1) := (blk_cell (blk_below hbox hb) 0).trans rfl
  have hcz2 : W.cell? ⟨g2, 0, none⟩ = some (.func (.func gF) #[] lF) := (blk_cell (blk_below hbox2 hb) 0).trans rfl
  have HR1 := Aside0.mk (Kd.C_below hr1 hb)
  have HW_ := Aside0.mk hb
  have H' : Aside0 (impl_DualGens.l0 k p l1 x 0 = some b) := ⟨h⟩
  clear hbox hbox2 h hr1 hb
  show Calls Try.prog 80 #[.int .i64 x, .pointer (some ⟨g, 0, none⟩), .pointer (some ⟨g2, 0, none⟩)] W _
  go_enter Try.func80, Try.ntmps80
  go_wp2
  go_loopg [9] k (fun kq v9 w' => ∃ (x9 : Int), v9 = .int .i64 x9 ∧ Aside0 (impl_DualGens.l0 kq p l1 x x9 = some b) ∧ Aside0 (kq ≤ k) ∧ Aside0 (Drawn0 W w'))
  case atStart => exact ⟨(0), rr, H', ⟨Nat.le_refl _⟩, ⟨dw⟩⟩
  case round =>
   clear H'
   obtain ⟨x9, rfl, HA, HK, HD⟩ := hrel
   obtain ⟨nd, rfl⟩ := HD.out
   cases gk with
   | zero => exact absurd HA.out (by simp [impl_DualGens.l0])
   | succ k2 =>
    have H := HA.out
    clear HA
    simp only [impl_DualGens.l0] at H
    replace H := gi H; obtain ⟨c1b, H⟩ | ⟨c1b, H⟩ := H
    ·replace H := gd H; obtain ⟨c2b, H⟩ := H
     replace H := gd H; obtain ⟨c3b, H⟩ := H
     replace H := ga H; obtain ⟨t1, A1_, H⟩ := H
     have HB := Aside0.mk (Below.refl W.heap.size W)
     obtain ⟨⟨ad, ead, hx⟩, pp, qq⟩ := pq (Kd.at_int HR1.out x9)
     cases ead
     replace H := gb H; obtain ⟨rfl, H⟩ | ⟨rfl, H⟩ := H
     ·have H' := Aside0.mk H
      clear H
      go_wp2_with (first | (go_at_fn gF; (with_reducible refine (hF _ (below_step HW_.out bw) (wrap64 (x + rd l1 x9)) true A1_.out).mono ?_); rintro e w' ⟨rfl, ⟨nd, rfl⟩⟩))
      go_roundg k2
      case measure => have := HK.out; omega
      case rel => exact ⟨(wrap64 (x9 + 1)), rr, H', ⟨by have := HK.out; omega⟩, ⟨dw⟩⟩
     ·obtain rfl := Option.some.inj H
      clear H
      go_wp2_with (first | (go_at_fn gF; (with_reducible refine (hF _ (below_step HW_.out bw) (wrap64 (x + rd l1 x9)) false A1_.out).mono ?_); rintro e w' ⟨rfl, ⟨nd, rfl⟩⟩))
      go_ret
      exact ⟨re, dw⟩
    ·obtain rfl := Option.some.inj H
     clear H
     go_wp2
     go_ret
     exact ⟨re, dw⟩⟩
set_option maxHeartbeats 8000000 in
set_option maxRecDepth 100000 in
theorem impl_DualGens.calls (k : Nat) (A0_0 : Option Addr) (c0_0 : Nat) (l0_0 : List Int) (A1 : Option Addr) (c1 : Nat) (l1 : List Int) (r : List Int) (w : World) (hr0_0 : Kd.C (Kd.int .i64) w A0_0 l0_0.length l0_0) (hc0_0 : l0_0.length ≤ c0_0) (hr1 : Kd.C (Kd.int .i64) w A1 l1.length l1) (hc1 : l1.length ≤ c1) (h : impl_DualGens.f k l0_0 l1 = some r) :
  Calls Try.prog 44 #[.agg #[.slice A0_0 l0_0.length c0_0], .slice A1 l1.length c1] w fun e w' => ∃ v0_ : Value, e = .returned v0_ ∧ Kd.R (Kd.int .i64) 3 w' w.heap.size (fun _ => True) v0_ r ∧ Below w.heap.size w w' := by
 have hu27 := Try.underlying27
 have HR0_0 := Aside0.mk hr0_0
 have HC0_0 := Aside0.mk hc0_0
 have HR1 := Aside0.mk hr1
 have HC1 := Aside0.mk hc1
 clear hr0_0 hc0_0 hr1 hc1
 have HB := Aside0.mk (Below.refl w.heap.size w)
 have H : ((impl_IsSemigroup.f k l0_0).bind fun t => if t = true then (impl_idealList.f k l1).bind fun t2 => if t2 = true then (impl_reach.f k l0_0).bind fun p => (impl_SortList.f l1).bind fun q => if 0 < (q.length : Int) then impl_sifted.f k l0_0 (wrap64 (-(rd q 0))) (wrap64 (400 - rd q 0)) (impl_DualGens.p k p l1) else none else some [] else some []) = some r := h
 clear h
 replace H := ga H; obtain ⟨t0, A0_, H⟩ := H
 replace H := gb H; obtain ⟨rfl, H⟩ | ⟨rfl, H⟩ := H
 ·replace H := ga H; obtain ⟨t1, A1_, H⟩ := H
  replace H := gb H; obtain ⟨rfl, H⟩ | ⟨rfl, H⟩ := H
  ·replace H := ga H; obtain ⟨t2, A2_, H⟩ := H
   replace H := ga H; obtain ⟨t3, A3_, H⟩ := H
   replace H := gd H; obtain ⟨c3, H⟩ := H
   have c00 : decide ((0 : Int) ≤ 0) = true := rfl
   have A4_ := Aside0.mk H
   clear H
   go_enter Try.func44, Try.ntmps44
   go_wp2_with (first | ((with_reducible refine gate_dst (N := 2) rfl ?_); refine bx 2 #[.slice A0_0 l0_0.length c0_0] 27 ?_; intro gb1 hg w1 hbox hb; have BK1 := Aside0.mk hbox; replace HB := Aside0.mk (below_step bw hb); clear hb hbox hg; have hcz1 := bc BK1 0 (.slice A0_0 l0_0.length c0_0); have hfz1 := blk_frozen BK1.out 0) | ((with_reducible refine gate_dst (N := 3) rfl ?_); refine bx 3 #[.slice A1 l1.length c1] 22 ?_; intro gb2 hg w2 hbox hb; have NB12 := Aside0.mk ((by rw [hg]; exact Nat.ne_of_lt (blk_lt (g := gb1) (o := .cells #[.slice A0_0 l0_0.length c0_0] 27 (0, 0)) (bo BK1.out)) : gb1 ≠ gb2)); clear hcz1 hfz1; replace BK1 := Aside0.mk (blk_below (g := gb1) (o := .cells #[.slice A0_0 l0_0.length c0_0] 27 (0, 0)) (bo BK1.out) hb); have BK2 := Aside0.mk hbox; replace HB := Aside0.mk (below_step bw hb); clear hb hbox hg; have hcz1 := bc BK1 0 (.slice A0_0 l0_0.length c0_0); have hfz1 := blk_frozen BK1.out 0; have hcz2 := bc BK2 0 (.slice A1 l1.length c1); have hfz2 := blk_frozen BK2.out 0) | ((with_reducible refine gate_callee (f := 58) rfl ?_); refine gl (some 8) Try.func58 #[.agg #[.slice A0_0 l0_0.length c0_0]] ?_; (with_reducible refine (impl_IsSemigroup.calls k _ _ l0_0 true _ ?side1 ?side2 A0_.out).mono ?_); (case side1 => exact co (Kd.C_below HR0_0.out HB.out)); (case side2 => exact HC0_0.out); rintro e w3 ⟨rfl, hb⟩; refine ⟨_, rfl, ?_⟩; clear hcz1 hfz1 hcz2 hfz2; replace BK1 := Aside0.mk (blk_below (g := gb1) (o := .cells #[.slice A0_0 l0_0.length c0_0] 27 (0, 0)) (bo BK1.out) hb); replace BK2 := Aside0.mk (blk_below (g := gb2) (o := .cells #[.slice A1 l1.length c1] 22 (0, 0)) (bo BK2.out) hb); replace HB := Aside0.mk (below_step bw hb); clear hb; have hcz1 := bc BK1 0 (.slice A0_0 l0_0.length c0_0); have hfz1 := blk_frozen BK1.out 0; have hcz2 := bc BK2 0 (.slice A1 l1.length c1); have hfz2 := blk_frozen BK2.out 0) | (go_at_call 64; (with_reducible refine (impl_idealList.calls k _ _ l1 true _ ?side1 ?side2 A1_.out).mono ?_); (case side1 => exact co (Kd.C_below HR1.out HB.out)); (case side2 => exact HC1.out); rintro e w' ⟨rfl, ⟨nd, rfl⟩⟩) | ((with_reducible refine gate_callee (f := 50) rfl ?_); refine gl (some 16) Try.func50 #[.agg #[.slice A0_0 l0_0.length c0_0]] ?_; (with_reducible refine (impl_reach.calls k _ _ l0_0 t2 _ ?side1 ?side2 A2_.out).mono ?_); (case side1 => exact co (Kd.C_below HR0_0.out HB.out)); (case side2 => exact HC0_0.out); rintro e w4 ⟨F_t1, rfl, hF_t1, hb⟩; refine ⟨_, rfl, ?_⟩; clear hcz1 hfz1 hcz2 hfz2; replace BK1 := Aside0.mk (blk_below (g := gb1) (o := .cells #[.slice A0_0 l0_0.length c0_0] 27 (0, 0)) (bo BK1.out) hb); replace BK2 := Aside0.mk (blk_below (g := gb2) (o := .cells #[.slice A1 l1.length c1] 22 (0, 0)) (bo BK2.out) hb); have HW_ := Aside0.mk (below_step bw hb : Below w.heap.size w w4); replace HR0_0 := Aside0.mk (Kd.C_below HR0_0.out HW_.out); replace HR1 := Aside0.mk (Kd.C_below HR1.out HW_.out); clear HB hb; have HB := Aside0.mk (Below.refl w4.heap.size w4); obtain ⟨gF, lF, eF_⟩ : ∃ g lb, F_t1 = .func (.func g) #[] lb := (by obtain ⟨g, lb, h, _⟩ := hF_t1; exact ⟨g, lb, h⟩); subst eF_; have HF_ := Aside0.mk hF_t1; clear hF_t1; obtain ⟨w, rfl⟩ : ∃ x_, x_ = w4 := ⟨_, rfl⟩; have hcz1 := bc BK1 0 (.slice A0_0 l0_0.length c0_0); have hfz1 := blk_frozen BK1.out 0; have hcz2 := bc BK2 0 (.slice A1 l1.length c1); have hfz2 := blk_frozen BK2.out 0) | ((with_reducible refine gate_dst (N := 5) rfl ?_); refine bx 5 #[.nilFunc] 47 ?_; intro gb3 hg w5 hbox hb; have NB13 := Aside0.mk ((by rw [hg]; exact Nat.ne_of_lt (blk_lt (g := gb1) (o := .cells #[.slice A0_0 l0_0.length c0_0] 27 (0, 0)) (bo BK1.out)) : gb1 ≠ gb3)); have NB23 := Aside0.mk ((by rw [hg]; exact Nat.ne_of_lt (blk_lt (g := gb2) (o := .cells #[.slice A1 l1.length c1] 22 (0, 0)) (bo BK2.out)) : gb2 ≠ gb3)); clear hcz1 hfz1 hcz2 hfz2; have GE3 := Aside0.mk (gs hg : w.heap.size ≤ gb3); replace BK1 := Aside0.mk (blk_below (g := gb1) (o := .cells #[.slice A0_0 l0_0.length c0_0] 27 (0, 0)) (bo BK1.out) hb); replace BK2 := Aside0.mk (blk_below (g := gb2) (o := .cells #[.slice A1 l1.length c1] 22 (0, 0)) (bo BK2.out) hb); have BK3 := Aside0.mk hbox; replace HB := Aside0.mk (below_step bw hb); clear hb hbox hg; have hnb1 := NB13.out; have hnc1 := NB13.out.symm; have hnb2 := NB23.out; have hnc2 := NB23.out.symm; have hcz1 := bc BK1 0 (.slice A0_0 l0_0.length c0_0); have hfz1 := blk_frozen BK1.out 0; have hcz2 := bc BK2 0 (.slice A1 l1.length c1); have hfz2 := blk_frozen BK2.out 0; have hcz3 := bc BK3 0 .nilFunc; have hfz3 := blk_frozen BK3.out 0) | ((with_reducible refine gate_callee (f := 62) rfl ?_); refine gl (some 18) Try.func62 #[.slice A1 l1.length c1] ?_; (with_reducible refine (impl_SortList.calls _ _ l1 t3 _ ?side1 ?side2 A3_.out).mono ?_); (case side1 => exact Kd.C_below HR1.out bw); (case side2 => exact HC1.out); rintro e w6 ⟨v6, rfl, ho0, hb⟩; refine ⟨_, rfl, ?_⟩; clear hcz1 hfz1 hcz2 hfz2 hcz3 hfz3; replace BK1 := Aside0.mk (blk_below (g := gb1) (o := .cells #[.slice A0_0 l0_0.length c0_0] 27 (0, 0)) (by (with_reducible repeat (first | refine blk_drewN ?_ _ | refine blk_drew ?_ | refine blk_alloc ?_ _)); refine blk_far ?_ NB13.out _; exact bo BK1.out) hb); replace BK2 := Aside0.mk (blk_below (g := gb2) (o := .cells #[.slice A1 l1.length c1] 22 (0, 0)) (by (with_reducible repeat (first | refine blk_drewN ?_ _ | refine blk_drew ?_ | refine blk_alloc ?_ _)); refine blk_far ?_ NB23.out _; exact bo BK2.out) hb); replace BK3 := Aside0.mk (blk_below (g := gb3) (o := .cells #[.func (.func gF) #[] lF] 47 (0, 0)) (by (with_reducible repeat (first | refine blk_drewN ?_ _ | refine blk_drew ?_ | refine blk_alloc ?_ _)); refine blk_put (cs := #[.nilFunc]) ?_ 0 _ rfl; exact bo BK3.out) hb); replace HB := Aside0.mk (below_step bw hb); clear hb; obtain ⟨Aq, cq, eq_⟩ := Kd.R_slice ho0; subst eq_; obtain ⟨⟨ad, ead, hx⟩, pp, qq⟩ := pq (Kd.at_int (Kd.R_reads' ho0).2.2 (0 : Int)); cases ead; replace hx : w6.cell? ad = some (.int .i64 (rd t3 0)) := hx; have qn : (0 < t3.length) = True := eq_true (by have := of_decide_eq_true c3; omega); clear ho0; have hcz1 := bc BK1 0 (.slice A0_0 l0_0.length c0_0); have hfz1 := blk_frozen BK1.out 0) | ((with_reducible refine gate_callee (f := 76) rfl ?_); refine gl (some 27) Try.func76 #[.agg #[.slice A0_0 l0_0.length c0_0], .int .i64 (wrap64 (-(rd t3 0))), .int .i64 (wrap64 (400 - rd t3 0)), .func (.func 80) #[] #[.pointer (some ⟨gb2, 0, none⟩), .pointer (some ⟨gb3, 0, none⟩)]] ?_; (with_reducible refine (impl_sifted.calls k _ _ l0_0 (wrap64 (-(rd t3 0))) (wrap64 (400 - rd t3 0)) (impl_DualGens.p k t2 l1) (.func (.func 80) #[] #[.pointer (some ⟨gb2, 0, none⟩), .pointer (some ⟨gb3, 0, none⟩)]) r _ ?side1 ?side2 ?side3 A4_.out).mono ?_); (case side1 => exact Kd.C_below HR0_0.out bw); (case side2 => exact HC0_0.out); (case side3 => exact impl_DualGens.c1 k _ gb2 gb3 (.func (.func gF) #[] lF) t2 A1 c1 l1 (Kd.C_below HR1.out bw) (bo BK2.out) (bo BK3.out) (FnR1.below HF_.out bw)); rintro e w7 ⟨v, rfl, ho0, hb⟩; refine ⟨_, rfl, ?_⟩; have HO := Aside0.mk (Kd.R_lower ho0 (below_size bw)); replace HB := Aside0.mk (below_step bw hb); clear hb ho0))
   go_ret
   exact ⟨_, rfl, Kd.R_lower (ro HO.out) (below_size HW_.out), below_step HW_.out bw⟩
  ·obtain rfl := Option.some.inj H
   clear H
   go_enter Try.func44, Try.ntmps44
   go_wp2_with (first | ((with_reducible refine gate_dst (N := 2) rfl ?_); refine bx 2 #[.slice A0_0 l0_0.length c0_0] 27 ?_; intro gb1 hg w1 hbox hb; have BK1 := Aside0.mk hbox; replace HB := Aside0.mk (below_step bw hb); clear hb hbox hg; have hcz1 := bc BK1 0 (.slice A0_0 l0_0.length c0_0); have hfz1 := blk_frozen BK1.out 0) | ((with_reducible refine gate_dst (N := 3) rfl ?_); refine bx 3 #[.slice A1 l1.length c1] 22 ?_; intro gb2 hg w2 hbox hb; have NB12 := Aside0.mk ((by rw [hg]; exact Nat.ne_of_lt (blk_lt (g := gb1) (o := .cells #[.slice A0_0 l0_0.length c0_0] 27 (0, 0)) (bo BK1.out)) : gb1 ≠ gb2)); clear hcz1 hfz1; replace BK1 := Aside0.mk (blk_below (g := gb1) (o := .cells #[.slice A0_0 l0_0.length c0_0] 27 (0, 0)) (bo BK1.out) hb); have BK2 := Aside0.mk hbox; replace HB := Aside0.mk (below_step bw hb); clear hb hbox hg; have hcz1 := bc BK1 0 (.slice A0_0 l0_0.length c0_0); have hfz1 := blk_frozen BK1.out 0; have hcz2 := bc BK2 0 (.slice A1 l1.length c1); have hfz2 := blk_frozen BK2.out 0) | ((with_reducible refine gate_callee (f := 58) rfl ?_); refine gl (some 8) Try.func58 #[.agg #[.slice A0_0 l0_0.length c0_0]] ?_; (with_reducible refine (impl_IsSemigroup.calls k _ _ l0_0 true _ ?side1 ?side2 A0_.out).mono ?_); (case side1 => exact co (Kd.C_below HR0_0.out HB.out)); (case side2 => exact HC0_0.out); rintro e w3 ⟨rfl, hb⟩; refine ⟨_, rfl, ?_⟩; clear hcz1 hfz1 hcz2 hfz2; replace BK1 := Aside0.mk (blk_below (g := gb1) (o := .cells #[.slice A0_0 l0_0.length c0_0] 27 (0, 0)) (bo BK1.out) hb); replace BK2 := Aside0.mk (blk_below (g := gb2) (o := .cells #[.slice A1 l1.length c1] 22 (0, 0)) (bo BK2.out) hb); replace HB := Aside0.mk (below_step bw hb); clear hb; have hcz1 := bc BK1 0 (.slice A0_0 l0_0.length c0_0); have hfz1 := blk_frozen BK1.out 0; have hcz2 := bc BK2 0 (.slice A1 l1.length c1); have hfz2 := blk_frozen BK2.out 0) | (go_at_call 64; (with_reducible refine (impl_idealList.calls k _ _ l1 false _ ?side1 ?side2 A1_.out).mono ?_); (case side1 => exact co (Kd.C_below HR1.out HB.out)); (case side2 => exact HC1.out); rintro e w' ⟨rfl, ⟨nd, rfl⟩⟩))
   go_ret
   exact ⟨_, rfl, Kd.R_nil .., bw⟩
 ·obtain rfl := Option.some.inj H
  clear H
  go_enter Try.func44, Try.ntmps44
  go_wp2_with (first | ((with_reducible refine gate_dst (N := 2) rfl ?_); refine bx 2 #[.slice A0_0 l0_0.length c0_0] 27 ?_; intro gb1 hg w1 hbox hb; have BK1 := Aside0.mk hbox; replace HB := Aside0.mk (below_step bw hb); clear hb hbox hg; have hcz1 := bc BK1 0 (.slice A0_0 l0_0.length c0_0); have hfz1 := blk_frozen BK1.out 0) | ((with_reducible refine gate_dst (N := 3) rfl ?_); refine bx 3 #[.slice A1 l1.length c1] 22 ?_; intro gb2 hg w2 hbox hb; have NB12 := Aside0.mk ((by rw [hg]; exact Nat.ne_of_lt (blk_lt (g := gb1) (o := .cells #[.slice A0_0 l0_0.length c0_0] 27 (0, 0)) (bo BK1.out)) : gb1 ≠ gb2)); clear hcz1 hfz1; replace BK1 := Aside0.mk (blk_below (g := gb1) (o := .cells #[.slice A0_0 l0_0.length c0_0] 27 (0, 0)) (bo BK1.out) hb); have BK2 := Aside0.mk hbox; replace HB := Aside0.mk (below_step bw hb); clear hb hbox hg; have hcz1 := bc BK1 0 (.slice A0_0 l0_0.length c0_0); have hfz1 := blk_frozen BK1.out 0; have hcz2 := bc BK2 0 (.slice A1 l1.length c1); have hfz2 := blk_frozen BK2.out 0) | ((with_reducible refine gate_callee (f := 58) rfl ?_); refine gl (some 8) Try.func58 #[.agg #[.slice A0_0 l0_0.length c0_0]] ?_; (with_reducible refine (impl_IsSemigroup.calls k _ _ l0_0 false _ ?side1 ?side2 A0_.out).mono ?_); (case side1 => exact co (Kd.C_below HR0_0.out HB.out)); (case side2 => exact HC0_0.out); rintro e w3 ⟨rfl, hb⟩; refine ⟨_, rfl, ?_⟩; clear hcz1 hfz1 hcz2 hfz2; replace BK1 := Aside0.mk (blk_below (g := gb1) (o := .cells #[.slice A0_0 l0_0.length c0_0] 27 (0, 0)) (bo BK1.out) hb); replace BK2 := Aside0.mk (blk_below (g := gb2) (o := .cells #[.slice A1 l1.length c1] 22 (0, 0)) (bo BK2.out) hb); replace HB := Aside0.mk (below_step bw hb); clear hb; have hcz1 := bc BK1 0 (.slice A0_0 l0_0.length c0_0); have hfz1 := blk_frozen BK1.out 0; have hcz2 := bc BK2 0 (.slice A1 l1.length c1); have hfz2 := blk_frozen BK2.out 0))
  go_ret
  exact ⟨_, rfl, Kd.R_nil .., bw⟩

end Go.Proofs.Ytiejmnnnjmmifaa.C
