/- Contracts of functions of the program: spec_DeltaSet, impl_DeltaSet, laws_FnExactDeltaSet. -/
import Derived.Test.YtiejmnnnjmmifaaC0
import Derived.Test.YtiejmnnnjmmifaaC1
import Derived.Test.YtiejmnnnjmmifaaC2
import Derived.Test.YtiejmnnnjmmifaaC3
import Derived.Test.YtiejmnnnjmmifaaC4
import Derived.Test.YtiejmnnnjmmifaaC5
import Derived.Test.YtiejmnnnjmmifaaC6
import Derived.Test.YtiejmnnnjmmifaaC9
namespace Go.Proofs.Ytiejmnnnjmmifaa.C
open Go.RowKit Go.Proofs.YtiejmnnnjmmifaaW.PrintWords Go.Proofs.YtiejmnnnjmmifaaW.PrintLast Go.Proofs.YtiejmnnnjmmifaaW.PrintMore
attribute [local go_sem] max2_int min2_int max_two min_two max_three min_three max_four min_four
set_option linter.unusedVariables false
set_option linter.unusedSimpArgs false

/-! ### spec_DeltaSet: function 39 -/
mutual
def spec_DeltaSet.j0 : Nat → Int → List Int → Bool → List Int → Option (List Int)
 | 0, _, _, _, _ => none
 | k + 1, x1, x5, x17, x674000 => if x17 = true then (some x5) else (spec_DeltaSet.l0 k x1 x5 0 x674000)
def spec_DeltaSet.l0 : Nat → Int → List Int → Int → List Int → Option (List Int)
 | 0, _, _, _, _ => none
 | k + 1, x1, x5, x6, x674000 => if x6 ≤ x1 then ((spec_DeltaOf.f k x674000 x6).bind fun t682 => (spec_DeltaSet.l1 k x1 x5 x6 t682 0 x674000)) else ((spec_SortList.f k x5).bind fun t679 => (some t679))
def spec_DeltaSet.l1 : Nat → Int → List Int → Int → List Int → Int → List Int → Option (List Int)
 | 0, _, _, _, _, _, _ => none
 | k + 1, x1, x5, x6, x7, x8, x674000 => if x8 < (x7.length : Int) then (if 0 ≤ x8 then ((spec_HasNumber.f k x5 (rd x7 x8)).bind fun t686 => (if t686 = true then (spec_DeltaSet.l1 k x1 x5 x6 x7 (wrap64 (x8 + 1)) x674000) else (if x5.length < 17592186044416 then (spec_DeltaSet.l1 k x1 (x5 ++ [rd x7 x8]) x6 x7 (wrap64 (x8 + 1)) x674000) else (none)))) else (none)) else (spec_DeltaSet.l0 k x1 x5 (wrap64 (x6 + 1)) x674000)
end
def spec_DeltaSet.f (k : Nat) (l0_0 : List Int) (a1 : Int) : Option (List Int) := (some (([] : List Int) : List Int)).bind fun y674 => ((spec_IsSemigroup.f k l0_0).bind fun t677 => (if t677 = true then ((spec_l1In.f a1 0 100).bind fun t678 => (spec_DeltaSet.j0 k a1 y674 (!t678) l0_0)) else (spec_DeltaSet.j0 k a1 y674 true l0_0)))
set_option maxHeartbeats 8000000 in
set_option maxRecDepth 100000 in
theorem spec_DeltaSet.calls (k : Nat) (A0_0 : Option Addr) (c0_0 : Nat) (l0_0 : List Int) (a1 : Int) (r : List Int) (w : World) (hr0_0 : Kd.C (Kd.int .i64) w A0_0 l0_0.length l0_0) (hc0_0 : l0_0.length ≤ c0_0) (h : spec_DeltaSet.f k l0_0 a1 = some r) :
  Calls Try.prog 39 #[.agg #[.slice A0_0 l0_0.length c0_0], .int .i64 a1] w fun e w' => ∃ v0_ : Value, e = .returned (v0_) ∧ Kd.R (Kd.int .i64) 3 w' w.heap.size (fun _ => True) v0_ r ∧ Below w.heap.size w w' := by
 have hu27 := Try.underlying27
 have HR0_0 := Aside0.mk hr0_0
 have HC0_0 := Aside0.mk hc0_0
 clear hr0_0 hc0_0
 have HB := Aside0.mk (Below.refl w.heap.size w)
 have H : ((some (([] : List Int) : List Int)).bind fun y674 => ((spec_IsSemigroup.f k l0_0).bind fun t677 => (if t677 = true then ((spec_l1In.f a1 0 100).bind fun t678 => (spec_DeltaSet.j0 k a1 y674 (!t678) l0_0)) else (spec_DeltaSet.j0 k a1 y674 true l0_0)))) = some r := h
 clear h
 obtain ⟨y674, hy674⟩ : ∃ y_ : List Int, y_ = (([] : List Int)) := ⟨_, rfl⟩
 replace H : ((spec_IsSemigroup.f k l0_0).bind fun t677 => (if t677 = true then ((spec_l1In.f a1 0 100).bind fun t678 => (spec_DeltaSet.j0 k a1 y674 (!t678) l0_0)) else (spec_DeltaSet.j0 k a1 y674 true l0_0))) = some r := by first | (rw [hy674]; with_reducible exact H) | (have H2_ := (Option.bind_some _ _).symm.trans H; rw [hy674]; with_reducible exact H2_) | (have H2_ := (Option.bind_some _ _).symm.trans H; with_reducible exact H2_) | with_reducible exact H | (rw [hy674]; exact H) | exact H
 have Ny674 := Aside0.mk hy674
 clear hy674
 have HC3 := Aside0.mk H
 clear H
 go_enter Try.func39, Try.ntmps39
 go_upto_region 2 with (first | ((with_reducible refine gate_dst (N := 2) rfl ?_); refine bx 2 #[.slice A0_0 l0_0.length c0_0] 27 ?_; intro gb673 hg w4 hbox hb; have BK673 := Aside0.mk (hbox); have GW673 := Aside0.mk (gs hg : w.heap.size ≤ gb673); have GE673 := Aside0.mk (gs hg : w.heap.size ≤ gb673); replace HB := Aside0.mk (below_step bw hb); clear hb hbox hg) | ((with_reducible refine gate_dst (N := 9) rfl ?_); refine Kd.R_lit (Kd.int .i64) _ 3 ?hg (N := 9) ?hd (xs := ([] : List Int)) (inner := []) (ok := fun _ => True) (okp := fun _ => True) ?hr ?hp (fun _ hk => hk) trivial (Below.refl _ _) (Nat.le_refl _) (by simp) ?_; (case hd => rfl); (case hg => rfl); (case hr => first | (go_simp; done) | (go_simp; rfl)); (case hp => exact (Reps.none _ _)); intro v675 w5 ho6 hb hg_ hnew_; clear hg_ hnew_; (first | rw [← Ny674.out] at ho6 | (simp only [Int.reduceToNat] at ho6; rw [← Ny674.out] at ho6)); have HO676 := Aside0.mk (Kd.R_lower ho6 (below_size bw)); replace BK673 := Aside0.mk (blk_below (g := gb673) (o := .cells #[.slice A0_0 l0_0.length c0_0] 27 (0, 0)) (bo BK673.out) hb); replace HB := Aside0.mk (below_step bw hb); clear hb ho6))
 (try simp only [Act.put, List.setIfInBounds_toArray, List.set_cons_zero, List.set_cons_succ])
 go_cut [17] (fun v17 wc => ∃ (kq : Nat) (x17_2 : Bool), v17 = .bool x17_2 ∧ Aside0 (spec_DeltaSet.j0 kq a1 y674 x17_2 l0_0 = some r) ∧ Aside0 (kq ≤ k) ∧ Aside0 (Kd.R (Kd.int .i64) 3 wc w.heap.size (fun _ => True) v675 y674) ∧ Aside0 (wc.heap[gb673]? = some (.cells #[(.slice A0_0 l0_0.length c0_0)] 27 (0, 0))) ∧ Aside0 (Below w.heap.size w wc))
 case first =>
  have H := HC3.out
  clear HC3
  replace H := ga H; obtain ⟨t677, A7, H⟩ := H
  replace H := gb H; obtain ⟨rfl, H⟩ | ⟨rfl, H⟩ := H
  ·replace H := ga H; obtain ⟨t678, A9, H⟩ := H
   have H' := Aside0.mk H
   clear H
   have hcz10_0 := bc BK673 0 (.slice A0_0 l0_0.length c0_0)
   have hfz10_0 := blk_frozen BK673.out 0
   go_wp2_with (first | ((with_reducible refine gate_callee (f := 71) rfl ?_); refine gl (some 11) Try.func71 #[.agg #[.slice A0_0 l0_0.length c0_0]] ?_; (with_reducible refine (spec_IsSemigroup.calls k _ _ l0_0 true _ ?side1 ?side2 A7.out).mono ?_); (case side1 => exact co (Kd.C_below HR0_0.out HB.out)); (case side2 => exact HC0_0.out); rintro e w11 ⟨rfl, hb⟩; refine ⟨_, rfl, ?_⟩; replace HO676 := Aside0.mk (Kd.R_below (ro HO676.out) hb); replace BK673 := Aside0.mk (blk_below (g := gb673) (o := .cells #[.slice A0_0 l0_0.length c0_0] 27 (0, 0)) (bo BK673.out) hb); replace HB := Aside0.mk (below_step bw hb); clear hb) | (go_at_call 72; (with_reducible refine (spec_l1In.calls a1 0 100 t678 _ A9.out).mono ?_); rintro e w' ⟨rfl, ⟨nd, rfl⟩⟩))
   go_meet
   case rel => exact ⟨_, (!t678), rr, H', ⟨om⟩, ⟨ro HO676.out⟩, ⟨bo BK673.out⟩, ⟨bw⟩⟩
  ·have H' := Aside0.mk H
   clear H
   have hcz12_0 := bc BK673 0 (.slice A0_0 l0_0.length c0_0)
   have hfz12_0 := blk_frozen BK673.out 0
   go_wp2_with (first | ((with_reducible refine gate_callee (f := 71) rfl ?_); refine gl (some 11) Try.func71 #[.agg #[.slice A0_0 l0_0.length c0_0]] ?_; (with_reducible refine (spec_IsSemigroup.calls k _ _ l0_0 false _ ?side1 ?side2 A7.out).mono ?_); (case side1 => exact co (Kd.C_below HR0_0.out HB.out)); (case side2 => exact HC0_0.out); rintro e w13 ⟨rfl, hb⟩; refine ⟨_, rfl, ?_⟩; replace HO676 := Aside0.mk (Kd.R_below (ro HO676.out) hb); replace BK673 := Aside0.mk (blk_below (g := gb673) (o := .cells #[.slice A0_0 l0_0.length c0_0] 27 (0, 0)) (bo BK673.out) hb); replace HB := Aside0.mk (below_step bw hb); clear hb))
   go_meet
   case rel => exact ⟨_, (true), rr, H', ⟨om⟩, ⟨ro HO676.out⟩, ⟨bo BK673.out⟩, ⟨bw⟩⟩
 case rest =>
  clear HC3
  try clear hcz10_0; try clear hcz12_0; try clear hfz10_0; try clear hfz12_0
  obtain ⟨kq, x17_2, rfl, HA, HJ2, HO_5, BK673, HB⟩ := hcut
  cases kq with
  | zero => exact absurd HA.out (by simp [spec_DeltaSet.j0])
  | succ kj2 =>
   have H := HA.out
   clear HA
   simp only [spec_DeltaSet.j0] at H
   replace H := gb H; obtain ⟨rfl, H⟩ | ⟨rfl, H⟩ := H
   ·obtain rfl := Option.some.inj H
    go_wp2
    go_ret
    exact ⟨_, re, ro HO_5.out, bw⟩
   ·have H' := Aside0.mk H
    clear H
    go_wp2
    go_loopg [5, 6] kj2 (fun kq v5 v6 w' => ∃ (x5_2 : List Int) (x6_2 : Int), v6 = .int .i64 x6_2 ∧ Aside0 (spec_DeltaSet.l0 kq a1 x5_2 x6_2 l0_0 = some r) ∧ Aside0 (kq ≤ kj2) ∧ Aside0 (Kd.R (Kd.int .i64) 3 w' w.heap.size (fun _ => True) v5 x5_2) ∧ Aside0 (w'.heap[gb673]? = some (.cells #[(.slice A0_0 l0_0.length c0_0)] 27 (0, 0))) ∧ Aside0 (Below w.heap.size w w'))
    case atStart => exact ⟨(y674), (0), rr, H', ⟨Nat.le_refl _⟩, ⟨ro HO_5.out⟩, ⟨bo BK673.out⟩, ⟨bw⟩⟩
    case round =>
     clear H'
     try clear hcz10_0; try clear hcz12_0; try clear hfz10_0; try clear hfz12_0
     obtain ⟨x5_2, x6_2, rfl, HA, HK2, HO_5, BK673, HB⟩ := hrel
     cases gk with
     | zero => exact absurd HA.out (by simp [spec_DeltaSet.l0])
     | succ k2 =>
      have H := HA.out
      clear HA
      simp only [spec_DeltaSet.l0] at H
      replace H := gi H; obtain ⟨c15b0, H⟩ | ⟨c15b0, H⟩ := H
      ·replace H := ga H; obtain ⟨t682, A16, H⟩ := H
       have H' := Aside0.mk H
       clear H
       have hcz17_0 := bc BK673 0 (.slice A0_0 l0_0.length c0_0)
       have hfz17_0 := blk_frozen BK673.out 0
       go_wp2_with (first | ((with_reducible refine gate_callee (f := 33) rfl ?_); refine gl (some 26) Try.func33 #[.agg #[.slice A0_0 l0_0.length c0_0], .int .i64 x6_2] ?_; (with_reducible refine (spec_DeltaOf.calls k2 _ _ l0_0 x6_2 t682 _ ?side1 ?side2 A16.out).mono ?_); (case side1 => exact co (Kd.C_below HR0_0.out HB.out)); (case side2 => exact HC0_0.out); rintro e w18 ⟨v683, rfl, ho0, hb⟩; refine ⟨_, rfl, ?_⟩; have HO684 := Aside0.mk (Kd.R_lower (Kd.R_new' ho0 (Kd.R_lt (ro HO_5.out))) (below_size bw)); replace HO_5 := Aside0.mk (Kd.R_elder' (ro HO_5.out) (Kd.R_base ho0) hb); replace BK673 := Aside0.mk (blk_below (g := gb673) (o := .cells #[.slice A0_0 l0_0.length c0_0] 27 (0, 0)) (bo BK673.out) hb); replace HB := Aside0.mk (below_step bw hb); clear hb ho0))
       go_loopg [5, 8] k2 (fun kq v5 v8 w' => ∃ (x5_3 : List Int) (x8_3 : Int), v8 = .int .i64 x8_3 ∧ Aside0 (spec_DeltaSet.l1 kq a1 x5_3 x6_2 t682 x8_3 l0_0 = some r) ∧ Aside0 (kq ≤ k2) ∧ Aside0 (Kd.R (Kd.int .i64) 3 w' w.heap.size (fun k_ => some k_ ≠ (v683 : Value).ownBlock) v5 x5_3) ∧ Aside0 (Kd.R (Kd.int .i64) 3 w' w.heap.size (fun k_ => some k_ ≠ (v5 : Value).ownBlock) v683 t682) ∧ Aside0 (w'.heap[gb673]? = some (.cells #[(.slice A0_0 l0_0.length c0_0)] 27 (0, 0))) ∧ Aside0 (Below w.heap.size w w'))
       case atStart => exact ⟨(x5_2), (0), rr, H', ⟨Nat.le_refl _⟩, ⟨by (with_reducible repeat (first | apply Kd.R_alloc | apply Kd.R_drewN | apply Kd.R_drew)); exact Kd.R_mono HO_5.out (fun _ hk => hk.2)⟩, ⟨by (with_reducible repeat (first | apply Kd.R_alloc | apply Kd.R_drewN | apply Kd.R_drew)); exact Kd.R_mono HO684.out (fun _ hk => hk.2)⟩, ⟨bo BK673.out⟩, ⟨bw⟩⟩
       case round =>
        clear H'
        try clear c15b0; try clear hcz10_0; try clear hcz12_0; try clear hcz17_0; try clear hfz10_0; try clear hfz12_0; try clear hfz17_0
        obtain ⟨x5_3, x8_3, rfl, HA, HK3, HO_5, HO_7, BK673, HB⟩ := hrel
        cases gk with
        | zero => exact absurd HA.out (by simp [spec_DeltaSet.l1])
        | succ k3 =>
         have H := HA.out
         clear HA
         simp only [spec_DeltaSet.l1] at H
         replace H := gi H; obtain ⟨c19b0, H⟩ | ⟨c19b0, H⟩ := H
         ·replace H := gd H; obtain ⟨c20b0, H⟩ := H
          replace H := ga H; obtain ⟨t686, A21, H⟩ := H
          replace H := gb H; obtain ⟨rfl, H⟩ | ⟨rfl, H⟩ := H
          ·have H' := Aside0.mk H
           clear H
           obtain ⟨Ao23, co23, eo23⟩ := Kd.R_slice HO_7.out
           subst eo23
           obtain ⟨⟨ad685, e685, hx685_0⟩, p685, q685⟩ := pq (Kd.at_int (Kd.R_reads' HO_7.out).2.2 x8_3)
           cases e685
           obtain ⟨Ao24, co24, eo24⟩ := Kd.R_slice HO_5.out
           subst eo24
           go_wp2_with (first | ((with_reducible refine gate_callee (f := 56) rfl ?_); refine gl (some 38) Try.func56 #[.slice Ao24 x5_3.length co24, .int .i64 (rd t682 x8_3)] ?_; (with_reducible refine (spec_HasNumber.calls k3 _ _ x5_3 (rd t682 x8_3) true _ ?side1 ?side2 A21.out).mono ?_); (case side1 => exact co (Kd.R_reads' HO_5.out).2.2); (case side2 => exact (Kd.R_reads' HO_5.out).2.1); rintro e w' ⟨rfl, ⟨nd, rfl⟩⟩; refine ⟨_, rfl, ?_⟩))
           go_roundg k3
           case measure => have := HJ2.out; have := HK2.out; have := HK3.out; omega
           case rel => exact ⟨(x5_3), (wrap64 (x8_3 + 1)), rr, H', ⟨by have := HJ2.out; have := HK2.out; have := HK3.out; omega⟩, ⟨ro HO_5.out⟩, ⟨ro HO_7.out⟩, ⟨bo BK673.out⟩, ⟨bw⟩⟩
          ·by_cases c25 : x5_3.length < 17592186044416
           rotate_left
           ·rw [if_neg c25] at H
            exact absurd H (by simp)
           rw [if_pos c25] at H
           have LMc25 := Aside0.mk c25
           clear c25
           obtain ⟨y688, hy688⟩ : ∃ y_ : List Int, y_ = (x5_3 ++ [rd t682 x8_3]) := ⟨_, rfl⟩
           replace H : (spec_DeltaSet.l1 k3 a1 y688 x6_2 t682 (wrap64 (x8_3 + 1)) l0_0) = some r := by first | (rw [hy688]; with_reducible exact H) | (have H2_ := (Option.bind_some _ _).symm.trans H; rw [hy688]; with_reducible exact H2_) | (have H2_ := (Option.bind_some _ _).symm.trans H; with_reducible exact H2_) | with_reducible exact H | (rw [hy688]; exact H) | exact H
           have Ny688 := Aside0.mk hy688
           clear hy688
           have H' := Aside0.mk H
           clear H
           obtain ⟨Ao26, co26, eo26⟩ := Kd.R_slice HO_7.out
           subst eo26
           obtain ⟨⟨ad685, e685, hx685_0⟩, p685, q685⟩ := pq (Kd.at_int (Kd.R_reads' HO_7.out).2.2 x8_3)
           cases e685
           obtain ⟨Ao27, co27, eo27⟩ := Kd.R_slice HO_5.out
           subst eo27
           go_wp2_with (first | ((with_reducible refine gate_callee (f := 56) rfl ?_); refine gl (some 38) Try.func56 #[.slice Ao27 x5_3.length co27, .int .i64 (rd t682 x8_3)] ?_; (with_reducible refine (spec_HasNumber.calls k3 _ _ x5_3 (rd t682 x8_3) false _ ?side1 ?side2 A21.out).mono ?_); (case side1 => exact co (Kd.R_reads' HO_5.out).2.2); (case side2 => exact (Kd.R_reads' HO_5.out).2.1); rintro e w' ⟨rfl, ⟨nd, rfl⟩⟩; refine ⟨_, rfl, ?_⟩; have p687 : 0 ≤ (x8_3 : Int) := of_decide_eq_true (by first | (with_reducible assumption) | assumption); have q687 : x8_3 < (t682.length : Int) := of_decide_eq_true (by first | (with_reducible assumption) | assumption); obtain ⟨ad687, e687, hx687_0⟩ := Kd.at_int (Kd.R_reads' HO_7.out).2.2 x8_3 p687 q687; obtain rfl : ad685 = ad687 := (by injection e687); replace p687 := eq_true p687; replace q687 := eq_true q687) | ((with_reducible refine gate_builtin (b := .append) (xs := #[.tmp 40, .tmp 45]) rfl ?_); at_builtin; refine Kd.R_append (Kd.int .i64) (w0 := w) w.heap.size rfl (.tmp 40) (.tmp 45) 22 3 (.int .i64 0) 8 rfl Try.underlying22 info3 rfl (by decide) (by omega) (.slice Ao27 x5_3.length co27) x5_3 (rd t682 x8_3) [.int .i64 (rd t682 x8_3)] (fun k_ => some k_ ≠ (.slice (some ad685) t682.length co26 : Value).ownBlock) (fun _ => False) rfl rfl ?aP (fun _ hk => hk.elim) ?aF ?aO ?aB ?aS ?aL ?_; (case aP => exact rfl); (case aB => exact bw); (case aF => exact (fun k_ hk => Kd.fresh' (Kd.R_lt (ro HO_7.out)) k_ hk)); (case aO => exact (ro HO_5.out)); (case aS => exact (below_size bw)); (case aL => have := LMc25.out; omega); intro v689 w28 ho hb hg hat; rw [← Ny688.out] at ho; replace HO_7 := Aside0.mk (Kd.R_after (ok := (fun _ => True)) (by (with_reducible repeat (first | apply Kd.R_alloc | apply Kd.R_drewN | apply Kd.R_drew)); exact Kd.R_mono HO_7.out (fun _ hk => ⟨trivial, by first | exact hk | exact (by intro a n m c x h; cases a <;> exact h : ∀ (a : Option Addr) (n m c x : Nat), some x ≠ (Value.slice a n c).ownBlock → some x ≠ (Value.slice a m c).ownBlock) _ _ _ _ _ hk⟩)) hg hat); replace BK673 := Aside0.mk (blk_grown (g := gb673) (o := .cells #[.slice A0_0 l0_0.length c0_0] 27 (0, 0)) (bo BK673.out) hg (Kd.R_ne HO_5.out BK673.out (by decide))); replace HB := Aside0.mk (hb); have HO690 := Aside0.mk (ho); clear HO_5 ho hb hg hat))
           go_roundg k3
           case measure => have := HJ2.out; have := HK2.out; have := HK3.out; omega
           case rel => exact ⟨(y688), (wrap64 (x8_3 + 1)), rr, H', ⟨by have := HJ2.out; have := HK2.out; have := HK3.out; omega⟩, ⟨ro HO690.out⟩, ⟨by (with_reducible repeat (first | apply Kd.R_alloc | apply Kd.R_drewN | apply Kd.R_drew)); exact Kd.R_mono HO_7.out (fun _ hk => hk.2)⟩, ⟨bo BK673.out⟩, ⟨bw⟩⟩
         ·have H' := Aside0.mk H
          clear H
          obtain ⟨Ao29, co29, eo29⟩ := Kd.R_slice HO_7.out
          subst eo29
          go_wp2
          go_roundg k3
          case measure => have := HJ2.out; have := HK2.out; have := HK3.out; omega
          case rel => exact ⟨(x5_3), (wrap64 (x6_2 + 1)), rr, H', ⟨by have := HJ2.out; have := HK2.out; have := HK3.out; omega⟩, ⟨by (with_reducible repeat (first | apply Kd.R_alloc | apply Kd.R_drewN | apply Kd.R_drew)); exact Kd.R_mono HO_5.out (fun _ hk => trivial)⟩, ⟨bo BK673.out⟩, ⟨bw⟩⟩
      ·replace H := ga H; obtain ⟨t679, A30, H⟩ := H
       obtain rfl := Option.some.inj H
       obtain ⟨Ao31, co31, eo31⟩ := Kd.R_slice HO_5.out
       subst eo31
       go_wp2_with (first | ((with_reducible refine gate_callee (f := 57) rfl ?_); refine gl (some 48) Try.func57 #[.slice Ao31 x5_2.length co31] ?_; (with_reducible refine (spec_SortList.calls k2 _ _ x5_2 t679 _ ?side1 ?side2 A30.out).mono ?_); (case side1 => exact co (Kd.R_reads' HO_5.out).2.2); (case side2 => exact (Kd.R_reads' HO_5.out).2.1); rintro e w32 ⟨v680, rfl, ho0, hb⟩; refine ⟨_, rfl, ?_⟩; have HO681 := Aside0.mk (Kd.R_lower (Kd.R_new' ho0 (Kd.R_lt (ro HO_5.out))) (below_size bw)); replace HO_5 := Aside0.mk (Kd.R_elder' (ro HO_5.out) (Kd.R_base ho0) hb); replace BK673 := Aside0.mk (blk_below (g := gb673) (o := .cells #[.slice A0_0 l0_0.length c0_0] 27 (0, 0)) (bo BK673.out) hb); replace HB := Aside0.mk (below_step bw hb); clear hb ho0))
       go_ret
       exact ⟨_, re, by (with_reducible repeat (first | apply Kd.R_alloc | apply Kd.R_drewN | apply Kd.R_drew)); exact Kd.R_mono HO681.out (fun _ hk => trivial), bw⟩


/-! ### impl_DeltaSet: function 40 -/
mutual
def impl_DeltaSet.j0 : Nat → Int → Bool → List Int → Option (List Int)
 | 0, _, _, _ => none
 | k + 1, x1, x14, x692000 => if x14 = true then (some ([] : List Int)) else (impl_DeltaSet.l0 k (([] : List Int)) (wrap64 (x1 + 1)) 0 x692000)
def impl_DeltaSet.l0 : Nat → List Int → Int → Int → List Int → Option (List Int)
 | 0, _, _, _, _ => none
 | k + 1, x5, x17, x18, x692000 => if x18 < x17 then ((impl_DeltaOf.f k x692000 x18).bind fun t697 => (if x5.length + t697.length < 17592186044416 then (impl_DeltaSet.l0 k (x5 ++ t697) x17 (wrap64 (x18 + 1)) x692000) else (none))) else ((impl_SortList.f x5).bind fun t703 => (some t703))
end
def impl_DeltaSet.f (k : Nat) (l0_0 : List Int) (a1 : Int) : Option (List Int) := (impl_IsSemigroup.f k l0_0).bind fun t692 => (if t692 = true then ((impl_within.f a1 0 100).bind fun t693 => (impl_DeltaSet.j0 k a1 (!t693) l0_0)) else (impl_DeltaSet.j0 k a1 true l0_0))
set_option maxHeartbeats 8000000 in
set_option maxRecDepth 100000 in
theorem impl_DeltaSet.calls (k : Nat) (A0_0 : Option Addr) (c0_0 : Nat) (l0_0 : List Int) (a1 : Int) (r : List Int) (w : World) (hr0_0 : Kd.C (Kd.int .i64) w A0_0 l0_0.length l0_0) (hc0_0 : l0_0.length ≤ c0_0) (h : impl_DeltaSet.f k l0_0 a1 = some r) :
  Calls Try.prog 40 #[.agg #[.slice A0_0 l0_0.length c0_0], .int .i64 a1] w fun e w' => ∃ v0_ : Value, e = .returned (v0_) ∧ Kd.R (Kd.int .i64) 3 w' w.heap.size (fun _ => True) v0_ r ∧ Below w.heap.size w w' := by
 have hu27 := Try.underlying27
 have HR0_0 := Aside0.mk hr0_0
 have HC0_0 := Aside0.mk hc0_0
 clear hr0_0 hc0_0
 have HB := Aside0.mk (Below.refl w.heap.size w)
 have H : ((impl_IsSemigroup.f k l0_0).bind fun t692 => (if t692 = true then ((impl_within.f a1 0 100).bind fun t693 => (impl_DeltaSet.j0 k a1 (!t693) l0_0)) else (impl_DeltaSet.j0 k a1 true l0_0))) = some r := h
 clear h
 have HC3 := Aside0.mk H
 clear H
 go_enter Try.func40, Try.ntmps40
 go_upto_region 1 with (first | ((with_reducible refine gate_dst (N := 2) rfl ?_); refine bx 2 #[.slice A0_0 l0_0.length c0_0] 27 ?_; intro gb691 hg w4 hbox hb; have BK691 := Aside0.mk (hbox); have GW691 := Aside0.mk (gs hg : w.heap.size ≤ gb691); have GE691 := Aside0.mk (gs hg : w.heap.size ≤ gb691); replace HB := Aside0.mk (below_step bw hb); clear hb hbox hg))
 (try simp only [Act.put, List.setIfInBounds_toArray, List.set_cons_zero, List.set_cons_succ])
 go_cut [14] (fun v14 wc => ∃ (kq : Nat) (x14_2 : Bool), v14 = .bool x14_2 ∧ Aside0 (impl_DeltaSet.j0 kq a1 x14_2 l0_0 = some r) ∧ Aside0 (kq ≤ k) ∧ Aside0 (wc.heap[gb691]? = some (.cells #[(.slice A0_0 l0_0.length c0_0)] 27 (0, 0))) ∧ Aside0 (Below w.heap.size w wc))
 case first =>
  have H := HC3.out
  clear HC3
  replace H := ga H; obtain ⟨t692, A5, H⟩ := H
  replace H := gb H; obtain ⟨rfl, H⟩ | ⟨rfl, H⟩ := H
  ·replace H := ga H; obtain ⟨t693, A7, H⟩ := H
   have H' := Aside0.mk H
   clear H
   have hcz8_0 := bc BK691 0 (.slice A0_0 l0_0.length c0_0)
   have hfz8_0 := blk_frozen BK691.out 0
   go_wp2_with (first | ((with_reducible refine gate_callee (f := 58) rfl ?_); refine gl (some 8) Try.func58 #[.agg #[.slice A0_0 l0_0.length c0_0]] ?_; (with_reducible refine (impl_IsSemigroup.calls k _ _ l0_0 true _ ?side1 ?side2 A5.out).mono ?_); (case side1 => exact co (Kd.C_below HR0_0.out HB.out)); (case side2 => exact HC0_0.out); rintro e w9 ⟨rfl, hb⟩; refine ⟨_, rfl, ?_⟩; replace BK691 := Aside0.mk (blk_below (g := gb691) (o := .cells #[.slice A0_0 l0_0.length c0_0] 27 (0, 0)) (bo BK691.out) hb); replace HB := Aside0.mk (below_step bw hb); clear hb) | (go_at_call 59; (with_reducible refine (impl_within.calls a1 0 100 t693 _ A7.out).mono ?_); rintro e w' ⟨rfl, ⟨nd, rfl⟩⟩))
   go_meet
   case rel => exact ⟨_, (!t693), rr, H', ⟨om⟩, ⟨bo BK691.out⟩, ⟨bw⟩⟩
  ·have H' := Aside0.mk H
   clear H
   have hcz10_0 := bc BK691 0 (.slice A0_0 l0_0.length c0_0)
   have hfz10_0 := blk_frozen BK691.out 0
   go_wp2_with (first | ((with_reducible refine gate_callee (f := 58) rfl ?_); refine gl (some 8) Try.func58 #[.agg #[.slice A0_0 l0_0.length c0_0]] ?_; (with_reducible refine (impl_IsSemigroup.calls k _ _ l0_0 false _ ?side1 ?side2 A5.out).mono ?_); (case side1 => exact co (Kd.C_below HR0_0.out HB.out)); (case side2 => exact HC0_0.out); rintro e w11 ⟨rfl, hb⟩; refine ⟨_, rfl, ?_⟩; replace BK691 := Aside0.mk (blk_below (g := gb691) (o := .cells #[.slice A0_0 l0_0.length c0_0] 27 (0, 0)) (bo BK691.out) hb); replace HB := Aside0.mk (below_step bw hb); clear hb))
   go_meet
   case rel => exact ⟨_, (true), rr, H', ⟨om⟩, ⟨bo BK691.out⟩, ⟨bw⟩⟩
 case rest =>
  clear HC3
  try clear hcz10_0; try clear hcz8_0; try clear hfz10_0; try clear hfz8_0
  obtain ⟨kq, x14_2, rfl, HA, HJ2, BK691, HB⟩ := hcut
  cases kq with
  | zero => exact absurd HA.out (by simp [impl_DeltaSet.j0])
  | succ kj2 =>
   have H := HA.out
   clear HA
   simp only [impl_DeltaSet.j0] at H
   replace H := gb H; obtain ⟨rfl, H⟩ | ⟨rfl, H⟩ := H
   ·obtain rfl := Option.some.inj H
    go_wp2
    go_ret
    exact ⟨_, re, by first | exact Kd.R_nil _ _ _ _ _ | exact Kd.N_nil _ _ _ _ _ | exact Kd.V_nil _ _ _ _ _ | exact Kd.Q_nil _ _ _ _ _ | exact Kd.S_nil _ _ _ _ _, bw⟩
   ·obtain ⟨y694, hy694⟩ : ∃ y_ : List Int, y_ = (([] : List Int)) := ⟨_, rfl⟩
    replace H : (impl_DeltaSet.l0 kj2 y694 (wrap64 (a1 + 1)) 0 l0_0) = some r := by first | (rw [hy694]; with_reducible exact H) | (have H2_ := (Option.bind_some _ _).symm.trans H; rw [hy694]; with_reducible exact H2_) | (have H2_ := (Option.bind_some _ _).symm.trans H; with_reducible exact H2_) | with_reducible exact H | (rw [hy694]; exact H) | exact H
    have Ny694 := Aside0.mk hy694
    clear hy694
    have H' := Aside0.mk H
    clear H
    go_wp2_with (first | ((with_reducible refine gate_dst (N := 15) rfl ?_); refine Kd.R_lit (Kd.int .i64) _ 3 ?hg (N := 15) ?hd (xs := ([] : List Int)) (inner := []) (ok := fun _ => True) (okp := fun _ => True) ?hr ?hp (fun _ hk => hk) trivial (Below.refl _ _) (Nat.le_refl _) (by simp) ?_; (case hd => rfl); (case hg => rfl); (case hr => first | (go_simp; done) | (go_simp; rfl)); (case hp => exact (Reps.none _ _)); intro v695 w13 ho14 hb hg_ hnew_; clear hg_ hnew_; (first | rw [← Ny694.out] at ho14 | (simp only [Int.reduceToNat] at ho14; rw [← Ny694.out] at ho14)); have HO696 := Aside0.mk (Kd.R_lower ho14 (below_size bw)); replace BK691 := Aside0.mk (blk_below (g := gb691) (o := .cells #[.slice A0_0 l0_0.length c0_0] 27 (0, 0)) (bo BK691.out) hb); replace HB := Aside0.mk (below_step bw hb); clear hb ho14))
    go_loopg [5, 18] kj2 (fun kq v5 v18 w' => ∃ (x5_2 : List Int) (x18_2 : Int), v18 = .int .i64 x18_2 ∧ Aside0 (impl_DeltaSet.l0 kq x5_2 (wrap64 (a1 + 1)) x18_2 l0_0 = some r) ∧ Aside0 (kq ≤ kj2) ∧ Aside0 (Kd.R (Kd.int .i64) 3 w' w.heap.size (fun _ => True) v5 x5_2) ∧ Aside0 (w'.heap[gb691]? = some (.cells #[(.slice A0_0 l0_0.length c0_0)] 27 (0, 0))) ∧ Aside0 (Below w.heap.size w w'))
    case atStart => exact ⟨(y694), (0), rr, H', ⟨Nat.le_refl _⟩, ⟨ro HO696.out⟩, ⟨bo BK691.out⟩, ⟨bw⟩⟩
    case round =>
     clear H'
     try clear hcz10_0; try clear hcz8_0; try clear hfz10_0; try clear hfz8_0
     obtain ⟨x5_2, x18_2, rfl, HA, HK2, HO_5, BK691, HB⟩ := hrel
     cases gk with
     | zero => exact absurd HA.out (by simp [impl_DeltaSet.l0])
     | succ k2 =>
      have H := HA.out
      clear HA
      simp only [impl_DeltaSet.l0] at H
      replace H := gi H; obtain ⟨c15b0, H⟩ | ⟨c15b0, H⟩ := H
      ·replace H := ga H; obtain ⟨t697, A16, H⟩ := H
       by_cases c17 : x5_2.length + t697.length < 17592186044416
       rotate_left
       ·rw [if_neg c17] at H
        exact absurd H (by simp)
       rw [if_pos c17] at H
       have LMc17 := Aside0.mk c17
       clear c17
       obtain ⟨y700, hy700⟩ : ∃ y_ : List Int, y_ = (x5_2 ++ t697) := ⟨_, rfl⟩
       replace H : (impl_DeltaSet.l0 k2 y700 (wrap64 (a1 + 1)) (wrap64 (x18_2 + 1)) l0_0) = some r := by first | (rw [hy700]; with_reducible exact H) | (have H2_ := (Option.bind_some _ _).symm.trans H; rw [hy700]; with_reducible exact H2_) | (have H2_ := (Option.bind_some _ _).symm.trans H; with_reducible exact H2_) | with_reducible exact H | (rw [hy700]; exact H) | exact H
       have Ny700 := Aside0.mk hy700
       clear hy700
       have H' := Aside0.mk H
       clear H
       have hcz18_0 := bc BK691 0 (.slice A0_0 l0_0.length c0_0)
       have hfz18_0 := blk_frozen BK691.out 0
       go_wp2_with (first | ((with_reducible refine gate_callee (f := 34) rfl ?_); refine gl (some 24) Try.func34 #[.agg #[.slice A0_0 l0_0.length c0_0], .int .i64 x18_2] ?_; (with_reducible refine (impl_DeltaOf.calls k2 _ _ l0_0 x18_2 t697 _ ?side1 ?side2 A16.out).mono ?_); (case side1 => exact co (Kd.C_below HR0_0.out HB.out)); (case side2 => exact HC0_0.out); rintro e w19 ⟨v698, rfl, ho0, hb⟩; refine ⟨_, rfl, ?_⟩; have HO699 := Aside0.mk (Kd.R_lower (Kd.R_new' ho0 (Kd.R_lt (ro HO_5.out))) (below_size bw)); replace HO_5 := Aside0.mk (Kd.R_elder' (ro HO_5.out) (Kd.R_base ho0) hb); replace BK691 := Aside0.mk (blk_below (g := gb691) (o := .cells #[.slice A0_0 l0_0.length c0_0] 27 (0, 0)) (bo BK691.out) hb); replace HB := Aside0.mk (below_step bw hb); clear hb ho0; obtain ⟨Ao21, co21, eo21⟩ := Kd.R_slice HO699.out; subst eo21) | ((with_reducible refine gate_builtin (b := .append) (xs := #[.tmp 21, .tmp 24]) rfl ?_); at_builtin; refine Kd.R_append_rows (Kd.int .i64) (w0 := w) w.heap.size rfl (.tmp 21) (.tmp 24) 22 3 (.int .i64 0) 8 rfl Try.underlying22 info3 rfl (by decide) (by omega) u5 x5_2 t697 _ _ _ (fun k_ => some k_ ≠ (.slice Ao21 t697.length co21 : Value).ownBlock) (fun _ => False) rfl rfl ?aO ?aR (fun _ _ h => h) (fun _ h => h.elim) ?aF ?aB ?aS ?aL ?_; (case aR => exact co (Kd.R_reads' HO699.out).2.2); (case aB => exact bw); (case aF => exact (fun k_ hk => Kd.fresh' (Kd.R_lt (ro HO699.out)) k_ hk)); (case aO => exact (by (with_reducible repeat (first | apply Kd.R_alloc | apply Kd.R_drewN | apply Kd.R_drew)); exact Kd.R_mono HO_5.out (fun _ hk => hk.2))); (case aS => exact (below_size bw)); (case aL => have := LMc17.out; omega); intro v701 w20 ho hb hg hat; rw [← Ny700.out] at ho; replace BK691 := Aside0.mk (blk_grown (g := gb691) (o := .cells #[.slice A0_0 l0_0.length c0_0] 27 (0, 0)) (bo BK691.out) hg (Kd.R_ne HO_5.out BK691.out (by decide))); replace HO699 := Aside0.mk (Kd.R_after (ok := (fun _ => True)) (ro HO699.out) hg hat); replace HB := Aside0.mk (hb); have HO702 := Aside0.mk (ho); clear HO_5 ho hb hg hat))
       go_roundg k2
       case measure => have := HJ2.out; have := HK2.out; omega
       case rel => exact ⟨(y700), (wrap64 (x18_2 + 1)), rr, H', ⟨by have := HJ2.out; have := HK2.out; omega⟩, ⟨by (with_reducible repeat (first | apply Kd.R_alloc | apply Kd.R_drewN | apply Kd.R_drew)); exact Kd.R_mono HO702.out (fun _ hk => trivial)⟩, ⟨bo BK691.out⟩, ⟨bw⟩⟩
      ·replace H := ga H; obtain ⟨t703, A22, H⟩ := H
       obtain rfl := Option.some.inj H
       obtain ⟨Ao23, co23, eo23⟩ := Kd.R_slice HO_5.out
       subst eo23
       go_wp2_with (first | ((with_reducible refine gate_callee (f := 62) rfl ?_); refine gl (some 28) Try.func62 #[.slice Ao23 x5_2.length co23] ?_; (with_reducible refine (impl_SortList.calls _ _ x5_2 t703 _ ?side1 ?side2 A22.out).mono ?_); (case side1 => exact co (Kd.R_reads' HO_5.out).2.2); (case side2 => exact (Kd.R_reads' HO_5.out).2.1); rintro e w24 ⟨v704, rfl, ho0, hb⟩; refine ⟨_, rfl, ?_⟩; have HO705 := Aside0.mk (Kd.R_lower (Kd.R_new' ho0 (Kd.R_lt (ro HO_5.out))) (below_size bw)); replace HO_5 := Aside0.mk (Kd.R_elder' (ro HO_5.out) (Kd.R_base ho0) hb); replace BK691 := Aside0.mk (blk_below (g := gb691) (o := .cells #[.slice A0_0 l0_0.length c0_0] 27 (0, 0)) (bo BK691.out) hb); replace HB := Aside0.mk (below_step bw hb); clear hb ho0))
       go_ret
       exact ⟨_, re, by (with_reducible repeat (first | apply Kd.R_alloc | apply Kd.R_drewN | apply Kd.R_drew)); exact Kd.R_mono HO705.out (fun _ hk => trivial), bw⟩


/-! ### laws_FnExactDeltaSet: function 11 -/
def laws_FnExactDeltaSet.j0 : Nat → Int → List Int → List Int → Bool → List Int → Option (Bool)
 | 0, _, _, _, _, _ => none
 | k + 1, x1, x6, x8, x46, x707000 => if x46 = true then (some false) else ((laws_markIntS.f k x8 1).bind fun bt729 => ((laws_heldIntS.f k bt729.2 1).bind fun t731 => (if t731 < 0 then (some false) else (if t731 = bt729.1 then ((laws_toSemigroup.f k x707000).bind fun t732 => ((impl_DeltaSet.f k t732 x1).bind fun t735 => ((laws_eqIntS.f k t735 x6).bind fun t738 => (if t738 = true then ((laws_heldIntS.f k bt729.2 1).bind fun t739 => (if t739 < 0 then (some false) else (if t739 = bt729.1 then (some true) else (some false)))) else (some false))))) else (some false)))))
def laws_FnExactDeltaSet.f (k : Nat) (l0_0 : List Int) (a1 : Int) : Option (Bool) := (laws_szSemigroup.f l0_0 1048576).bind fun t707 => (if t707 < 0 then (some true) else ((laws_toSemigroup.f k l0_0).bind fun t708 => ((spec_DeltaSet.f k t708 a1).bind fun t711 => ((laws_toSemigroup.f k l0_0).bind fun t714 => ((impl_DeltaSet.f k t714 a1).bind fun t718 => ((laws_eqIntS.f k t718 t711).bind fun t721 => (if t721 = true then ((laws_toSemigroup.f k l0_0).bind fun t722 => ((laws_eqSemigroup.f k t714 t722).bind fun t725 => (if t725 = true then ((laws_markSemigroup.f k t714 1).bind fun bt726 => (if bt726.1 < 0 then (laws_FnExactDeltaSet.j0 k a1 t711 t718 true l0_0) else ((laws_eqIntS.f k t718 t711).bind fun t728 => (laws_FnExactDeltaSet.j0 k a1 t711 t718 (!t728) l0_0)))) else (some false)))) else (some false))))))))
set_option maxHeartbeats 8000000 in
set_option maxRecDepth 100000 in
theorem laws_FnExactDeltaSet.calls (k : Nat) (A0_0 : Option Addr) (c0_0 : Nat) (l0_0 : List Int) (a1 : Int) (w : World) (hr0_0 : Kd.C (Kd.int .i64) w A0_0 l0_0.length l0_0) (hc0_0 : l0_0.length ≤ c0_0) (h : laws_FnExactDeltaSet.f k l0_0 a1 = some true) :
  Calls Try.prog 11 #[.agg #[.slice A0_0 l0_0.length c0_0], .int .i64 a1] w fun e w' => e = .returned (.bool true) ∧ Below w.heap.size w w' := by
 have hu24 := Try.underlying24
 have hu27 := Try.underlying27
 have HR0_0 := Aside0.mk hr0_0
 have HC0_0 := Aside0.mk hc0_0
 clear hr0_0 hc0_0
 have HB := Aside0.mk (Below.refl w.heap.size w)
 have H : ((laws_szSemigroup.f l0_0 1048576).bind fun t707 => (if t707 < 0 then (some true) else ((laws_toSemigroup.f k l0_0).bind fun t708 => ((spec_DeltaSet.f k t708 a1).bind fun t711 => ((laws_toSemigroup.f k l0_0).bind fun t714 => ((impl_DeltaSet.f k t714 a1).bind fun t718 => ((laws_eqIntS.f k t718 t711).bind fun t721 => (if t721 = true then ((laws_toSemigroup.f k l0_0).bind fun t722 => ((laws_eqSemigroup.f k t714 t722).bind fun t725 => (if t725 = true then ((laws_markSemigroup.f k t714 1).bind fun bt726 => (if bt726.1 < 0 then (laws_FnExactDeltaSet.j0 k a1 t711 t718 true l0_0) else ((laws_eqIntS.f k t718 t711).bind fun t728 => (laws_FnExactDeltaSet.j0 k a1 t711 t718 (!t728) l0_0)))) else (some false)))) else (some false))))))))) = some true := h
 clear h
 replace H := ga H; obtain ⟨t707, A3, H⟩ := H
 replace H := gi H; obtain ⟨c4b0, H⟩ | ⟨c4b0, H⟩ := H
 ·skip
  go_enter Try.func11, Try.ntmps11
  go_wp2_with (first | ((with_reducible refine gate_dst (N := 2) rfl ?_); refine bx 2 #[.slice A0_0 l0_0.length c0_0] 24 ?_; intro gb706 hg w5 hbox hb; have BK706 := Aside0.mk (hbox); have GW706 := Aside0.mk (gs hg : w.heap.size ≤ gb706); have GE706 := Aside0.mk (gs hg : w.heap.size ≤ gb706); replace HB := Aside0.mk (below_step bw hb); clear hb hbox hg; have hcz6_0 := bc BK706 0 (.slice A0_0 l0_0.length c0_0); have hfz6_0 := blk_frozen BK706.out 0) | ((with_reducible refine gate_callee (f := 15) rfl ?_); refine gl (some 15) Try.func15 #[.agg #[.slice A0_0 l0_0.length c0_0], .int .i64 1048576] ?_; (with_reducible refine (laws_szSemigroup.calls _ _ l0_0 1048576 t707 _ ?side1 ?side2 A3.out).mono ?_); (case side1 => exact co (Kd.C_below HR0_0.out HB.out)); (case side2 => exact HC0_0.out); rintro e w7 ⟨rfl, hb⟩; refine ⟨_, rfl, ?_⟩; replace BK706 := Aside0.mk (blk_below (g := gb706) (o := .cells #[.slice A0_0 l0_0.length c0_0] 24 (0, 0)) (bo BK706.out) hb); replace HB := Aside0.mk (below_step bw hb); clear hb))
  go_ret
  exact ⟨re, bw⟩
 ·replace H := ga H; obtain ⟨t708, A8, H⟩ := H
  replace H := ga H; obtain ⟨t711, A9, H⟩ := H
  replace H := ga H; obtain ⟨t714, A10, H⟩ := H
  replace H := ga H; obtain ⟨t718, A11, H⟩ := H
  replace H := ga H; obtain ⟨t721, A12, H⟩ := H
  replace H := gb H; obtain ⟨rfl, H⟩ | ⟨rfl, H⟩ := H
  ·replace H := ga H; obtain ⟨t722, A14, H⟩ := H
   replace H := ga H; obtain ⟨t725, A15, H⟩ := H
   replace H := gb H; obtain ⟨rfl, H⟩ | ⟨rfl, H⟩ := H
   ·replace H := ga H; obtain ⟨⟨t726, t727⟩, A17, H⟩ := H
    replace H : (if t726 < 0 then (laws_FnExactDeltaSet.j0 k a1 t711 t718 true l0_0) else ((laws_eqIntS.f k t718 t711).bind fun t728 => (laws_FnExactDeltaSet.j0 k a1 t711 t718 (!t728) l0_0))) = some true := H
    have HC18 := Aside0.mk H
    clear H
    go_enter Try.func11, Try.ntmps11
    try go_wp2_with (first | ((with_reducible refine gate_dst (N := 2) rfl ?_); refine bx 2 #[.slice A0_0 l0_0.length c0_0] 24 ?_; intro gb706 hg w19 hbox hb; have BK706 := Aside0.mk (hbox); have GW706 := Aside0.mk (gs hg : w.heap.size ≤ gb706); have GE706 := Aside0.mk (gs hg : w.heap.size ≤ gb706); replace HB := Aside0.mk (below_step bw hb); clear hb hbox hg; have hcz20_0 := bc BK706 0 (.slice A0_0 l0_0.length c0_0); have hfz20_0 := blk_frozen BK706.out 0) | ((with_reducible refine gate_callee (f := 15) rfl ?_); refine gl (some 15) Try.func15 #[.agg #[.slice A0_0 l0_0.length c0_0], .int .i64 1048576] ?_; (with_reducible refine (laws_szSemigroup.calls _ _ l0_0 1048576 t707 _ ?side1 ?side2 A3.out).mono ?_); (case side1 => exact co (Kd.C_below HR0_0.out HB.out)); (case side2 => exact HC0_0.out); rintro e w21 ⟨rfl, hb⟩; refine ⟨_, rfl, ?_⟩; replace BK706 := Aside0.mk (blk_below (g := gb706) (o := .cells #[.slice A0_0 l0_0.length c0_0] 24 (0, 0)) (bo BK706.out) hb); replace HB := Aside0.mk (below_step bw hb); clear hb; have hcz22_0 := bc BK706 0 (.slice A0_0 l0_0.length c0_0); have hfz22_0 := blk_frozen BK706.out 0) | ((with_reducible refine gate_callee (f := 17) rfl ?_); refine gl (some 19) Try.func17 #[.agg #[.slice A0_0 l0_0.length c0_0]] ?_; (with_reducible refine (laws_toSemigroup.calls k _ _ l0_0 t708 _ ?side1 ?side2 A8.out).mono ?_); (case side1 => exact co (Kd.C_below HR0_0.out HB.out)); (case side2 => exact HC0_0.out); rintro e w23 ⟨v709, rfl, ho0, hb⟩; refine ⟨_, rfl, ?_⟩; have HO710 := Aside0.mk (Kd.R_lower ho0 (below_size bw)); replace BK706 := Aside0.mk (blk_below (g := gb706) (o := .cells #[.slice A0_0 l0_0.length c0_0] 24 (0, 0)) (bo BK706.out) hb); replace HB := Aside0.mk (below_step bw hb); clear hb ho0; obtain ⟨Ao24, co24, eo24⟩ := Kd.R_slice HO710.out; subst eo24) | ((with_reducible refine gate_callee (f := 39) rfl ?_); refine gl (some 21) Try.func39 #[.agg #[.slice Ao24 t708.length co24], .int .i64 a1] ?_; (with_reducible refine (spec_DeltaSet.calls k _ _ t708 a1 t711 _ ?side1 ?side2 A9.out).mono ?_); (case side1 => exact co (Kd.R_reads' HO710.out).2.2); (case side2 => exact (Kd.R_reads' HO710.out).2.1); rintro e w25 ⟨v712, rfl, ho0, hb⟩; refine ⟨_, rfl, ?_⟩; have HO713 := Aside0.mk (Kd.R_lower (Kd.R_new' ho0 (Kd.R_lt (ro HO710.out))) (below_size bw)); replace HO710 := Aside0.mk (Kd.R_elder' (ro HO710.out) (Kd.R_base ho0) hb); replace BK706 := Aside0.mk (blk_below (g := gb706) (o := .cells #[.slice A0_0 l0_0.length c0_0] 24 (0, 0)) (bo BK706.out) hb); replace HB := Aside0.mk (below_step bw hb); clear hb ho0; have hcz26_0 := bc BK706 0 (.slice A0_0 l0_0.length c0_0); have hfz26_0 := blk_frozen BK706.out 0) | ((with_reducible refine gate_callee (f := 17) rfl ?_); refine gl (some 23) Try.func17 #[.agg #[.slice A0_0 l0_0.length c0_0]] ?_; (with_reducible refine (laws_toSemigroup.calls k _ _ l0_0 t714 _ ?side1 ?side2 A10.out).mono ?_); (case side1 => exact co (Kd.C_below HR0_0.out HB.out)); (case side2 => exact HC0_0.out); rintro e w27 ⟨v715, rfl, ho0, hb⟩; refine ⟨_, rfl, ?_⟩; have HO716 := Aside0.mk (Kd.R_lower (Kd.R_new' (Kd.R_new' ho0 (Kd.R_lt (ro HO710.out))) (Kd.R_lt (ro HO713.out))) (below_size bw)); replace HO710 := Aside0.mk (Kd.R_elder' (ro HO710.out) (Kd.R_base ho0) hb); replace HO713 := Aside0.mk (Kd.R_elder' (ro HO713.out) (Kd.R_base ho0) hb); replace BK706 := Aside0.mk (blk_below (g := gb706) (o := .cells #[.slice A0_0 l0_0.length c0_0] 24 (0, 0)) (bo BK706.out) hb); replace HB := Aside0.mk (below_step bw hb); clear hb ho0) | ((with_reducible refine gate_dst (N := 7) rfl ?_); refine bx 7 #[.slice none 0 0] 27 ?_; intro gb717 hg w28 hbox hb; replace HO710 := Aside0.mk (Kd.R_below (ro HO710.out) hb); replace HO713 := Aside0.mk (Kd.R_below (ro HO713.out) hb); replace HO716 := Aside0.mk (Kd.R_below (ro HO716.out) hb); have BK717 := Aside0.mk (hbox); have GW717 := Aside0.mk (gs hg : w.heap.size ≤ gb717); have GE717 := Aside0.mk (gs hg : w.heap.size ≤ gb717); replace HB := Aside0.mk (below_step bw hb); have NB706_717 := Aside0.mk ((by rw [hg]; exact Nat.ne_of_lt (blk_lt (g := gb706) (o := .cells #[.slice A0_0 l0_0.length c0_0] 24 (0, 0)) (bo BK706.out)) : gb706 ≠ gb717)); have NB717_706 := Aside0.mk ((by rw [hg]; exact Nat.ne_of_gt (blk_lt (g := gb706) (o := .cells #[.slice A0_0 l0_0.length c0_0] 24 (0, 0)) (bo BK706.out)) : gb717 ≠ gb706)); replace BK706 := Aside0.mk (blk_below (g := gb706) (o := .cells #[.slice A0_0 l0_0.length c0_0] 24 (0, 0)) (bo BK706.out) hb); clear hb hbox hg; obtain ⟨Ao29, co29, eo29⟩ := Kd.R_slice HO716.out; subst eo29; have hnb30 := NB717_706.out; have hnc30 := NB706_717.out; have hcz31_0 := bc BK717 0 (.slice none 0 0); have hfz31_0 := blk_frozen BK717.out 0) | ((with_reducible refine gate_callee (f := 40) rfl ?_); refine gl (some 26) Try.func40 #[.agg #[.slice Ao29 t714.length co29], .int .i64 a1] ?_; (with_reducible refine (impl_DeltaSet.calls k _ _ t714 a1 t718 _ ?side1 ?side2 A11.out).mono ?_); (case side1 => refine (Kd.R_reads' (e := 3) (base := w.heap.size) (ok := fun k_ => ((True ∧ some k_ ≠ (.slice Ao24 t708.length co24 : Value).ownBlock) ∧ some k_ ≠ (v712 : Value).ownBlock)) (n := t714.length) (c := co29) ?_).2.2; exact (by (with_reducible repeat (first | apply Kd.R_alloc | apply Kd.R_drewN | apply Kd.R_drew)); exact (Kd.R_mono (Kd.R_far (p := ⟨gb717, 0, none⟩) (Kd.R_types HO716.out BK717.out (by decide)) (fun _ hk => hk.2) (.slice Ao29 t714.length co29)) (fun _ h_ => h_.1)))); (case side2 => exact (Kd.R_reads' HO716.out).2.1); rintro e w32 ⟨v719, rfl, ho0, hb⟩; refine ⟨_, rfl, ?_⟩; have HO720 := Aside0.mk (Kd.R_lower (Kd.R_new' (Kd.R_new' (Kd.R_new' ho0 (Kd.R_lt (by (with_reducible repeat (first | apply Kd.R_alloc | apply Kd.R_drewN | apply Kd.R_drew)); exact (Kd.R_mono (Kd.R_far (p := ⟨gb717, 0, none⟩) (Kd.R_types HO710.out BK717.out (by decide)) (fun _ hk => hk.2) (.slice Ao29 t714.length co29)) (fun _ h_ => h_.1))))) (Kd.R_lt (by (with_reducible repeat (first | apply Kd.R_alloc | apply Kd.R_drewN | apply Kd.R_drew)); exact (Kd.R_mono (Kd.R_far (p := ⟨gb717, 0, none⟩) (Kd.R_types HO713.out BK717.out (by decide)) (fun _ hk => hk.2) (.slice Ao29 t714.length co29)) (fun _ h_ => h_.1))))) (Kd.R_lt (by (with_reducible repeat (first | apply Kd.R_alloc | apply Kd.R_drewN | apply Kd.R_drew)); exact (Kd.R_mono (Kd.R_far (p := ⟨gb717, 0, none⟩) (Kd.R_types HO716.out BK717.out (by decide)) (fun _ hk => hk.2) (.slice Ao29 t714.length co29)) (fun _ h_ => h_.1))))) (below_size bw)); replace HO710 := Aside0.mk (Kd.R_elder' (by (with_reducible repeat (first | apply Kd.R_alloc | apply Kd.R_drewN | apply Kd.R_drew)); exact (Kd.R_mono (Kd.R_far (p := ⟨gb717, 0, none⟩) (Kd.R_types HO710.out BK717.out (by decide)) (fun _ hk => hk.2) (.slice Ao29 t714.length co29)) (fun _ h_ => h_.1))) (Kd.R_base ho0) hb); replace HO713 := Aside0.mk (Kd.R_elder' (by (with_reducible repeat (first | apply Kd.R_alloc | apply Kd.R_drewN | apply Kd.R_drew)); exact (Kd.R_mono (Kd.R_far (p := ⟨gb717, 0, none⟩) (Kd.R_types HO713.out BK717.out (by decide)) (fun _ hk => hk.2) (.slice Ao29 t714.length co29)) (fun _ h_ => h_.1))) (Kd.R_base ho0) hb); replace HO716 := Aside0.mk (Kd.R_elder' (by (with_reducible repeat (first | apply Kd.R_alloc | apply Kd.R_drewN | apply Kd.R_drew)); exact (Kd.R_mono (Kd.R_far (p := ⟨gb717, 0, none⟩) (Kd.R_types HO716.out BK717.out (by decide)) (fun _ hk => hk.2) (.slice Ao29 t714.length co29)) (fun _ h_ => h_.1))) (Kd.R_base ho0) hb); replace BK706 := Aside0.mk (blk_below (g := gb706) (o := .cells #[.slice A0_0 l0_0.length c0_0] 24 (0, 0)) (by (with_reducible repeat (first | refine blk_drewN ?_ _ | refine blk_drew ?_ | refine blk_alloc ?_ _)); refine blk_far ?_ NB706_717.out _; (with_reducible repeat (first | refine blk_drewN ?_ _ | refine blk_drew ?_ | refine blk_alloc ?_ _)); exact BK706.out) hb); replace BK717 := Aside0.mk (blk_below (g := gb717) (o := .cells #[.slice Ao29 t714.length co29] 27 (0, 0)) (by (with_reducible repeat (first | refine blk_drewN ?_ _ | refine blk_drew ?_ | refine blk_alloc ?_ _)); refine blk_put (cs := #[.slice none 0 0]) ?_ 0 _ rfl; (with_reducible repeat (first | refine blk_drewN ?_ _ | refine blk_drew ?_ | refine blk_alloc ?_ _)); exact BK717.out) hb); replace HB := Aside0.mk (below_step bw hb); clear hb ho0; obtain ⟨Ao33, co33, eo33⟩ := Kd.R_slice HO720.out; subst eo33; obtain ⟨Ao34, co34, eo34⟩ := Kd.R_slice HO713.out; subst eo34) | ((with_reducible refine gate_callee (f := 20) rfl ?_); refine gl (some 29) Try.func20 #[.slice Ao33 t718.length co33, .slice Ao34 t711.length co34] ?_; (with_reducible refine (laws_eqIntS.calls k _ _ t718 _ _ t711 true _ ?side1 ?side2 ?side3 ?side4 A12.out).mono ?_); (case side1 => exact co (Kd.R_reads' HO720.out).2.2); (case side2 => exact (Kd.R_reads' HO720.out).2.1); (case side3 => exact co (Kd.R_reads' HO713.out).2.2); (case side4 => exact (Kd.R_reads' HO713.out).2.1); rintro e w' ⟨rfl, ⟨nd, rfl⟩⟩; refine ⟨_, rfl, ?_⟩))
    (try (rw [drewN_self w32]; generalize hq_ : World.drewN w32 _ = w32; have n0_ : Aside0 (Kd.R (Kd.int .i64) 3 w32 w.heap.size (fun k_ => some k_ ≠ (.slice Ao34 t711.length co34 : Value).ownBlock ∧ some k_ ≠ (.slice Ao29 t714.length co29 : Value).ownBlock ∧ some k_ ≠ (.slice Ao33 t718.length co33 : Value).ownBlock) (.slice Ao24 t708.length co24) t708) := ⟨by rw [← hq_]; exact (by (with_reducible repeat (first | apply Kd.R_alloc | apply Kd.R_drewN | apply Kd.R_drew)); exact Kd.R_mono HO710.out (fun _ hk => ⟨hk.1.1.2, ⟨hk.1.2, hk.2⟩⟩))⟩; have n1_ : Aside0 (Kd.R (Kd.int .i64) 3 w32 w.heap.size (fun k_ => some k_ ≠ (.slice Ao24 t708.length co24 : Value).ownBlock ∧ some k_ ≠ (.slice Ao29 t714.length co29 : Value).ownBlock ∧ some k_ ≠ (.slice Ao33 t718.length co33 : Value).ownBlock) (.slice Ao34 t711.length co34) t711) := ⟨by rw [← hq_]; exact (by (with_reducible repeat (first | apply Kd.R_alloc | apply Kd.R_drewN | apply Kd.R_drew)); exact Kd.R_mono HO713.out (fun _ hk => ⟨hk.1.1.2, ⟨hk.1.2, hk.2⟩⟩))⟩; have n2_ : Aside0 (Kd.R (Kd.int .i64) 3 w32 w.heap.size (fun k_ => some k_ ≠ (.slice Ao24 t708.length co24 : Value).ownBlock ∧ some k_ ≠ (.slice Ao34 t711.length co34 : Value).ownBlock ∧ some k_ ≠ (.slice Ao33 t718.length co33 : Value).ownBlock) (.slice Ao29 t714.length co29) t714) := ⟨by rw [← hq_]; exact (by (with_reducible repeat (first | apply Kd.R_alloc | apply Kd.R_drewN | apply Kd.R_drew)); exact Kd.R_mono HO716.out (fun _ hk => ⟨hk.1.1.2, ⟨hk.1.2, hk.2⟩⟩))⟩; have n3_ : Aside0 (Kd.R (Kd.int .i64) 3 w32 w.heap.size (fun k_ => some k_ ≠ (.slice Ao24 t708.length co24 : Value).ownBlock ∧ some k_ ≠ (.slice Ao34 t711.length co34 : Value).ownBlock ∧ some k_ ≠ (.slice Ao29 t714.length co29 : Value).ownBlock) (.slice Ao33 t718.length co33) t718) := ⟨by rw [← hq_]; exact (by (with_reducible repeat (first | apply Kd.R_alloc | apply Kd.R_drewN | apply Kd.R_drew)); exact Kd.R_mono HO720.out (fun _ hk => ⟨hk.1.1.2, ⟨hk.1.2, hk.2⟩⟩))⟩; have n4_ : Aside0 (w32.heap[gb706]? = some (.cells #[.slice A0_0 l0_0.length c0_0] 24 (0, 0))) := ⟨by rw [← hq_]; exact (bo BK706.out)⟩; have n5_ : Aside0 (w32.heap[gb717]? = some (.cells #[.slice Ao29 t714.length co29] 27 (0, 0))) := ⟨by rw [← hq_]; exact (bo BK717.out)⟩; have n6_ : Aside0 (Below w.heap.size w w32) := ⟨by rw [← hq_]; exact bw⟩; clear HO710 HO713 HO716 HO720 BK706 BK717 HB hq_; have HO710 := n0_; have HO713 := n1_; have HO716 := n2_; have HO720 := n3_; have BK706 := n4_; have BK717 := n5_; have HB := n6_; clear n0_ n1_ n2_ n3_ n4_ n5_ n6_))
    replace HO710 := Aside0.mk (Kd.R_drew HO710.out)
    replace HO713 := Aside0.mk (Kd.R_drew HO713.out)
    replace HO716 := Aside0.mk (Kd.R_drew HO716.out)
    replace HO720 := Aside0.mk (Kd.R_drew HO720.out)
    replace BK706 := Aside0.mk (blk_drew BK706.out)
    replace BK717 := Aside0.mk (blk_drew BK717.out)
    replace HB := Aside0.mk (below_drew1 HB.out)
    refine start_ (n := 5) (S := fun w' => w'.cell? ⟨gb717, 0, none⟩ = some (.slice Ao29 t714.length co29) ∧ w'.cell? ⟨gb706, 0, none⟩ = some (.slice A0_0 l0_0.length c0_0)) (ds := []) #[Z,Z,Z,Z,Z] (by kernel_rfl) rfl rfl ⟨(blk_cell BK717.out 0).trans rfl, (blk_cell BK706.out 0).trans rfl⟩ (fun hHeld => ?_)
    generalize w32.drew = w35 at HO710 HO713 HO716 HO720 BK706 BK717 HB hHeld ⊢
    refine take_ (i := 0) (N := some 31) (v := ?_) (a' := ?_) #[Y,Z,Z,Z,Z] rfl rfl (by kernel_rfl) (fun _ _ _ h => h) (Or.inl ⟨by rfl, ?_⟩) hHeld ?_ ?_
    rotate_left
    ·rintro w' ⟨s0, s1⟩
     go_simp
     with_reducible rfl
    rotate_left
    ·simp only [Act.put, qa, qb, qc, i64_w, i32_w]
     rfl
    refine take_ (i := 1) (N := some 32) (v := ?_) (a' := ?_) #[Y,Y,Z,Z,Z] rfl rfl (by kernel_rfl) (fun _ _ _ h => h) (Or.inl ⟨by rfl, ?_⟩) hHeld ?_ ?_
    rotate_left
    ·rintro w' ⟨s0, s1⟩
     go_simp
     with_reducible rfl
    rotate_left
    ·simp only [Act.put, qa, qb, qc, i64_w, i32_w]
     rfl
    refine one_ (i := 2) (N := some 33) #[Y,Y,Y,Z,Z] rfl rfl (by kernel_rfl) (by decide) (fun K hK => ?_)
    refine gm Try.func17 #[.agg #[.slice A0_0 l0_0.length c0_0]] ?_
    with_reducible refine (laws_toSemigroup.calls k _ _ l0_0 t722 _ ?side1 ?side2 A14.out).mono ?_
    (case side1 => exact co (Kd.C_below HR0_0.out HB.out))
    (case side2 => exact HC0_0.out)
    rintro e w36 ⟨v723, rfl, ho0, hb⟩
    refine ⟨_, rfl, ?_⟩
    have HO724 := Aside0.mk (Kd.R_lower (Kd.R_new' (Kd.R_new' (Kd.R_new' (Kd.R_new' ho0 (Kd.R_lt (ro HO710.out))) (Kd.R_lt (ro HO713.out))) (Kd.R_lt (ro HO716.out))) (Kd.R_lt (ro HO720.out))) (below_size bw))
    replace HO710 := Aside0.mk (Kd.R_elder' (ro HO710.out) (Kd.R_base ho0) hb)
    replace HO713 := Aside0.mk (Kd.R_elder' (ro HO713.out) (Kd.R_base ho0) hb)
    replace HO716 := Aside0.mk (Kd.R_elder' (ro HO716.out) (Kd.R_base ho0) hb)
    replace HO720 := Aside0.mk (Kd.R_elder' (ro HO720.out) (Kd.R_base ho0) hb)
    replace BK706 := Aside0.mk (blk_below (g := gb706) (o := .cells #[.slice A0_0 l0_0.length c0_0] 24 (0, 0)) (bo BK706.out) hb)
    replace BK717 := Aside0.mk (blk_below (g := gb717) (o := .cells #[.slice Ao29 t714.length co29] 27 (0, 0)) (bo BK717.out) hb)
    replace HB := Aside0.mk (below_step bw hb)
    clear hb ho0
    obtain ⟨Ao37, co37, eo37⟩ := Kd.R_slice HO724.out
    (first | subst eo37 | (injection eo37 with f1_ f2_ f3_; have f4_ := f1_.symm; have f5_ := f3_.symm; clear f1_ f2_ f3_; subst f4_; subst f5_))
    refine hK.out _ _ ⟨(blk_cell BK717.out 0).trans rfl, (blk_cell BK706.out 0).trans rfl⟩ (fun hHeld => ?_)
    clear hK K
    refine norm_ (a' := ?_) ?_ ?_
    rotate_left
    ·show Act.put _ (some 33) _ = _
     simp only [Act.put, qa, qb, qc, i64_w, i32_w]
     rfl
    refine one_ (i := 3) (N := some 34) #[Y,Y,Y,Y,Z] rfl rfl (by kernel_rfl) (by decide) (fun K hK => ?_)
    refine gm Try.func21 #[.agg #[.slice Ao29 t714.length co29], .agg #[.slice Ao37 t722.length co37]] ?_
    with_reducible refine (laws_eqSemigroup.calls k _ _ t714 _ _ t722 true _ ?side1 ?side2 ?side3 ?side4 A15.out).mono ?_
    (case side1 => exact co (Kd.R_reads' HO716.out).2.2)
    (case side2 => exact (Kd.R_reads' HO716.out).2.1)
    (case side3 => exact co (Kd.R_reads' HO724.out).2.2)
    (case side4 => exact (Kd.R_reads' HO724.out).2.1)
    rintro e w38 ⟨rfl, hb⟩
    refine ⟨_, rfl, ?_⟩
    replace HO710 := Aside0.mk (Kd.R_below (ro HO710.out) hb)
    replace HO713 := Aside0.mk (Kd.R_below (ro HO713.out) hb)
    replace HO716 := Aside0.mk (Kd.R_below (ro HO716.out) hb)
    replace HO720 := Aside0.mk (Kd.R_below (ro HO720.out) hb)
    replace HO724 := Aside0.mk (Kd.R_below (ro HO724.out) hb)
    replace BK706 := Aside0.mk (blk_below (g := gb706) (o := .cells #[.slice A0_0 l0_0.length c0_0] 24 (0, 0)) (bo BK706.out) hb)
    replace BK717 := Aside0.mk (blk_below (g := gb717) (o := .cells #[.slice Ao29 t714.length co29] 27 (0, 0)) (bo BK717.out) hb)
    replace HB := Aside0.mk (below_step bw hb)
    clear hb
    refine hK.out _ _ ⟨(blk_cell BK717.out 0).trans rfl, (blk_cell BK706.out 0).trans rfl⟩ (fun hHeld => ?_)
    clear hK K
    refine norm_ (a' := ?_) ?_ ?_
    rotate_left
    ·show Act.put _ (some 34) _ = _
     simp only [Act.put, qa, qb, qc, i64_w, i32_w]
     rfl
    refine pure_ (i := 4) (N := some 35) (v := ?_) (a' := ?_) #[Y,Y,Y,Y,Y] rfl rfl (by kernel_rfl) (fun _ _ _ h => h) (Or.inl ⟨by rfl, ?_⟩) ?_ ?_
    rotate_left
    ·intro w'
     go_simp
     with_reducible rfl
    rotate_left
    ·simp only [Act.put, qa, qb, qc, i64_w, i32_w]
     rfl
    refine done_ (by kernel_rfl) ?_
    have hcz39_0 := bc BK717 0 (.slice Ao29 t714.length co29)
    have hfz39_0 := blk_frozen BK717.out 0
    go_upto_region 14 with (first | ((with_reducible refine gate_callee (f := 22) rfl ?_); refine gl (some 38) Try.func22 #[.agg #[.slice Ao29 t714.length co29], .int .i64 1] ?_; (with_reducible refine (laws_markSemigroup.calls k (fun k_ => some k_ = (.slice Ao29 t714.length co29 : Value).ownBlock) (.slice Ao29 t714.length co29) t714 1 t726 t727 w _ ?side1 ?side2 A17.out).mono ?_); (case side1 => repeat (first | (with_reducible first | exact HB.out | apply below_alloc | apply pw_below_drewN | apply below_drew1 | refine below_set ?_ GE706.out | refine below_set ?_ GE717.out) | exact HB.out)); (case side2 => exact Kd.R_tight rfl HO716.out); rintro e w40 ⟨rfl, hy0, hb, hkp⟩; refine ⟨_, rfl, ?_⟩; replace BK706 := Aside0.mk (blk_kept (bo BK706.out) hkp (fun hs_ => (fun e_ => (Kd.R_ne HO716.out BK706.out (by decide)) e_) hs_)); replace HO710 := Aside0.mk (Kd.R_mono (ok' := fun k_ => some k_ ≠ (.slice Ao34 t711.length co34 : Value).ownBlock ∧ some k_ ≠ (.slice Ao29 t714.length co29 : Value).ownBlock ∧ some k_ ≠ (.slice Ao33 t718.length co33 : Value).ownBlock ∧ some k_ ≠ (.slice Ao37 t722.length co37 : Value).ownBlock) (Kd.R_keptB (HO710.out) hkp (fun k_ hk_ hs_ => by first | exact (hk_.1.1.2) hs_ | simp_all)) (fun k_ hk_ => by first | exact ⟨hk_.1.1.1.1.2, hk_.1.1.1.2, hk_.1.1.2, hk_.1.2⟩ | simp_all)); replace HO713 := Aside0.mk (Kd.R_mono (ok' := fun k_ => some k_ ≠ (.slice Ao24 t708.length co24 : Value).ownBlock ∧ some k_ ≠ (.slice Ao29 t714.length co29 : Value).ownBlock ∧ some k_ ≠ (.slice Ao33 t718.length co33 : Value).ownBlock ∧ some k_ ≠ (.slice Ao37 t722.length co37 : Value).ownBlock) (Kd.R_keptB (HO713.out) hkp (fun k_ hk_ hs_ => by first | exact (hk_.1.1.2) hs_ | simp_all)) (fun k_ hk_ => by first | exact ⟨hk_.1.1.1.1.2, hk_.1.1.1.2, hk_.1.1.2, hk_.1.2⟩ | simp_all)); replace BK717 := Aside0.mk (blk_kept (bo BK717.out) hkp (fun hs_ => (fun e_ => (Kd.R_ne HO716.out BK717.out (by decide)) e_) hs_)); replace HO716 := Aside0.mk (Kd.R_reok rfl hy0 (fun k_ e_ => HO716.out.1 k_ e_)); replace HO720 := Aside0.mk (Kd.R_mono (ok' := fun k_ => some k_ ≠ (.slice Ao24 t708.length co24 : Value).ownBlock ∧ some k_ ≠ (.slice Ao34 t711.length co34 : Value).ownBlock ∧ some k_ ≠ (.slice Ao29 t714.length co29 : Value).ownBlock ∧ some k_ ≠ (.slice Ao37 t722.length co37 : Value).ownBlock) (Kd.R_keptB (HO720.out) hkp (fun k_ hk_ hs_ => by first | exact (hk_.1.2) hs_ | simp_all)) (fun k_ hk_ => by first | exact ⟨hk_.1.1.1.1.2, hk_.1.1.1.2, hk_.1.1.2, hk_.1.2⟩ | simp_all)); replace HO724 := Aside0.mk (Kd.R_mono (ok' := fun k_ => some k_ ≠ (.slice Ao24 t708.length co24 : Value).ownBlock ∧ some k_ ≠ (.slice Ao34 t711.length co34 : Value).ownBlock ∧ some k_ ≠ (.slice Ao29 t714.length co29 : Value).ownBlock ∧ some k_ ≠ (.slice Ao33 t718.length co33 : Value).ownBlock) (Kd.R_keptB (HO724.out) hkp (fun k_ hk_ hs_ => by first | exact (hk_.1.2) hs_ | simp_all)) (fun k_ hk_ => by first | exact ⟨hk_.1.1.1.1.2, hk_.1.1.1.2, hk_.1.1.2, hk_.1.2⟩ | simp_all)); replace HB := Aside0.mk (hb); clear hb hkp hy0))
    (try simp only [Act.put, List.setIfInBounds_toArray, List.set_cons_zero, List.set_cons_succ])
    go_cut [46] (fun v46 wc => ∃ (kq : Nat) (x46_17 : Bool), v46 = .bool x46_17 ∧ Aside0 (laws_FnExactDeltaSet.j0 kq a1 t711 t718 x46_17 l0_0 = some true) ∧ Aside0 (kq ≤ k) ∧ Aside0 (Kd.R (Kd.int .i64) 3 wc w.heap.size (fun k_ => some k_ ≠ ((.slice Ao33 t718.length co33) : Value).ownBlock ∧ some k_ ≠ ((.slice Ao29 t714.length co29) : Value).ownBlock) (.slice Ao34 t711.length co34) t711) ∧ Aside0 (Kd.R (Kd.int .i64) 3 wc w.heap.size (fun k_ => some k_ ≠ ((.slice Ao34 t711.length co34) : Value).ownBlock ∧ some k_ ≠ ((.slice Ao29 t714.length co29) : Value).ownBlock) (.slice Ao33 t718.length co33) t718) ∧ Aside0 (Kd.R (Kd.int .i64) 3 wc w.heap.size (fun k_ => some k_ ≠ ((.slice Ao34 t711.length co34) : Value).ownBlock ∧ some k_ ≠ ((.slice Ao33 t718.length co33) : Value).ownBlock) (.slice Ao29 t714.length co29) t727) ∧ Aside0 (wc.heap[gb706]? = some (.cells #[(.slice A0_0 l0_0.length c0_0)] 24 (0, 0))) ∧ Aside0 (wc.heap[gb717]? = some (.cells #[(.slice Ao29 t714.length co29)] 27 (0, 0))) ∧ Aside0 (Below w.heap.size w wc))
    case first =>
     have H := HC18.out
     clear HC18
     replace H := gi H; obtain ⟨c41b0, H⟩ | ⟨c41b0, H⟩ := H
     ·(first | rw [c41b0] | (simp only [i64_w, i32_w]; rw [c41b0]) | skip)
      have H' := Aside0.mk H
      clear H
      go_wp2
      go_meet
      case rel => exact ⟨_, (true), rr, H', ⟨om⟩, ⟨by (with_reducible repeat (first | apply Kd.R_alloc | apply Kd.R_drewN | apply Kd.R_drew)); exact Kd.R_mono HO713.out (fun _ hk => by first | exact ⟨hk.2.2.1, hk.2.1⟩ | simp_all)⟩, ⟨by (with_reducible repeat (first | apply Kd.R_alloc | apply Kd.R_drewN | apply Kd.R_drew)); exact Kd.R_mono HO720.out (fun _ hk => by first | exact ⟨hk.2.1, hk.2.2.1⟩ | simp_all)⟩, ⟨by (with_reducible repeat (first | apply Kd.R_alloc | apply Kd.R_drewN | apply Kd.R_drew)); exact Kd.R_mono HO716.out (fun _ hk => by first | exact ⟨hk.1.1.2, hk.1.2⟩ | simp_all)⟩, ⟨bo BK706.out⟩, ⟨bo BK717.out⟩, ⟨bw⟩⟩
     ·(first | rw [c41b0] | (simp only [i64_w, i32_w]; rw [c41b0]) | skip)
      replace H := ga H; obtain ⟨t728, A42, H⟩ := H
      have H' := Aside0.mk H
      clear H
      go_wp2_with (first | (go_at_call 20; (with_reducible refine (laws_eqIntS.calls k _ _ t718 _ _ t711 t728 _ ?side1 ?side2 ?side3 ?side4 A42.out).mono ?_); (case side1 => exact co (Kd.R_reads' HO720.out).2.2); (case side2 => exact (Kd.R_reads' HO720.out).2.1); (case side3 => exact co (Kd.R_reads' HO713.out).2.2); (case side4 => exact (Kd.R_reads' HO713.out).2.1); rintro e w' ⟨rfl, ⟨nd, rfl⟩⟩))
      go_meet
      case rel => exact ⟨_, (!t728), rr, H', ⟨om⟩, ⟨by (with_reducible repeat (first | apply Kd.R_alloc | apply Kd.R_drewN | apply Kd.R_drew)); exact Kd.R_mono HO713.out (fun _ hk => by first | exact ⟨hk.2.2.1, hk.2.1⟩ | simp_all)⟩, ⟨by (with_reducible repeat (first | apply Kd.R_alloc | apply Kd.R_drewN | apply Kd.R_drew)); exact Kd.R_mono HO720.out (fun _ hk => by first | exact ⟨hk.2.1, hk.2.2.1⟩ | simp_all)⟩, ⟨by (with_reducible repeat (first | apply Kd.R_alloc | apply Kd.R_drewN | apply Kd.R_drew)); exact Kd.R_mono HO716.out (fun _ hk => by first | exact ⟨hk.1.1.2, hk.1.2⟩ | simp_all)⟩, ⟨bo BK706.out⟩, ⟨bo BK717.out⟩, ⟨bw⟩⟩
    case rest =>
     clear HC18
     try clear c4b0; try clear c41b0; try clear hcz20_0; try clear hcz22_0; try clear hcz26_0; try clear hcz31_0; try clear hcz39_0; try clear hcz6_0; try clear hfz20_0; try clear hfz22_0; try clear hfz26_0; try clear hfz31_0; try clear hfz39_0; try clear hfz6_0
     obtain ⟨kq, x46_17, rfl, HA, HJ17, HO_6, HO_8, HO_718000, BK706, BK717, HB⟩ := hcut
     have hl718000_17 := (Kd.R_reads' HO_718000.out).1
     rw [hl718000_17] at HO_718000
     (try simp only [hl718000_17])
     (try simp only [hl718000_17] at BK706)
     (try simp only [hl718000_17] at BK717)
     (try simp only [hl718000_17] at HO_6)
     (try simp only [hl718000_17] at HO_8)
     cases kq with
     | zero => exact absurd HA.out (by simp [laws_FnExactDeltaSet.j0])
     | succ kj17 =>
      have H := HA.out
      clear HA
      simp only [laws_FnExactDeltaSet.j0] at H
      replace H := gb H; obtain ⟨rfl, H⟩ | ⟨rfl, H⟩ := H
      ·exact absurd (Option.some.inj H) (by decide)
      ·replace H := ga H; obtain ⟨⟨t729, t730⟩, A44, H⟩ := H
       replace H : ((laws_heldIntS.f kj17 t730 1).bind fun t731 => (if t731 < 0 then (some false) else (if t731 = t729 then ((laws_toSemigroup.f kj17 l0_0).bind fun t732 => ((impl_DeltaSet.f kj17 t732 a1).bind fun t735 => ((laws_eqIntS.f kj17 t735 t711).bind fun t738 => (if t738 = true then ((laws_heldIntS.f kj17 t730 1).bind fun t739 => (if t739 < 0 then (some false) else (if t739 = t729 then (some true) else (some false)))) else (some false))))) else (some false)))) = some true := H
       replace H := ga H; obtain ⟨t731, A45, H⟩ := H
       replace H := gi H; obtain ⟨c46b0, H⟩ | ⟨c46b0, H⟩ := H
       ·exact absurd (Option.some.inj H) (by decide)
       ·by_cases c48 : t731 = t729
        ·rw [if_pos c48] at H
         have c48b0 : (t731 == t729) = true := beq_iff_eq.mpr c48
         have c48b1 : (t731 != t729) = false := bne_eq_false_iff_eq.mpr c48
         clear c48
         replace H := ga H; obtain ⟨t732, A49, H⟩ := H
         replace H := ga H; obtain ⟨t735, A50, H⟩ := H
         replace H := ga H; obtain ⟨t738, A51, H⟩ := H
         replace H := gb H; obtain ⟨rfl, H⟩ | ⟨rfl, H⟩ := H
         ·replace H := ga H; obtain ⟨t739, A53, H⟩ := H
          replace H := gi H; obtain ⟨c54b0, H⟩ | ⟨c54b0, H⟩ := H
          ·exact absurd (Option.some.inj H) (by decide)
          ·by_cases c62 : t739 = t729
           ·rw [if_pos c62] at H
            have c62b0 : (t739 == t729) = true := beq_iff_eq.mpr c62
            have c62b1 : (t739 != t729) = false := bne_eq_false_iff_eq.mpr c62
            clear c62
            skip
            go_wp2_with (first | ((with_reducible refine gate_callee (f := 23) rfl ?_); refine gl (some 49) Try.func23 #[.slice Ao33 t718.length co33, .int .i64 1] ?_; (with_reducible refine (laws_markIntS.calls kj17 (fun k_ => some k_ = (.slice Ao33 t718.length co33 : Value).ownBlock) (.slice Ao33 t718.length co33) t718 1 t729 t730 w _ ?side1 ?side2 A44.out).mono ?_); (case side1 => repeat (first | (with_reducible first | exact HB.out | apply below_alloc | apply pw_below_drewN | apply below_drew1 | refine below_set ?_ GE706.out | refine below_set ?_ GE717.out) | exact HB.out)); (case side2 => exact Kd.R_tight rfl HO_8.out); rintro e w63 ⟨rfl, hy0, hb, hkp⟩; refine ⟨_, rfl, ?_⟩; replace HO_6 := Aside0.mk (Kd.R_mono (ok' := fun k_ => some k_ ≠ (.slice Ao33 t718.length co33 : Value).ownBlock ∧ some k_ ≠ (.slice Ao29 t727.length co29 : Value).ownBlock) (Kd.R_keptB (HO_6.out) hkp (fun k_ hk_ hs_ => by first | exact (hk_.1) hs_ | simp_all)) (fun k_ hk_ => by first | exact ⟨hk_.1.1, hk_.1.2⟩ | simp_all)); replace HO_718000 := Aside0.mk (Kd.R_mono (ok' := fun k_ => some k_ ≠ (.slice Ao34 t711.length co34 : Value).ownBlock ∧ some k_ ≠ (.slice Ao33 t718.length co33 : Value).ownBlock) (Kd.R_keptB (HO_718000.out) hkp (fun k_ hk_ hs_ => by first | exact (hk_.2) hs_ | simp_all)) (fun k_ hk_ => by first | exact ⟨hk_.1.1, hk_.1.2⟩ | simp_all)); replace BK706 := Aside0.mk (blk_kept (bo BK706.out) hkp (fun hs_ => (fun e_ => (Kd.R_ne HO_8.out BK706.out (by decide)) e_) hs_)); replace BK717 := Aside0.mk (blk_kept (bo BK717.out) hkp (fun hs_ => (fun e_ => (Kd.R_ne HO_8.out BK717.out (by decide)) e_) hs_)); replace HO_8 := Aside0.mk (Kd.R_reok rfl hy0 (fun k_ e_ => HO_8.out.1 k_ e_)); replace HB := Aside0.mk (hb); clear hb hkp hy0) | ((with_reducible refine gate_callee (f := 24) rfl ?_); refine goesL_ (some 52) rfl rfl Try.func24 (by kernel_rfl) rfl #[.slice Ao33 t730.length co33, .int .i64 1] rfl (by (try simp only [List.map_toArray, List.map_cons, List.map_nil]); first | done | (rw [show t730.length = t718.length from (Kd.R_reads' HO_8.out).1.symm] <;> rfl) | rfl | (simp only [List.length_drop, List.length_take]; rfl)) ?_; (with_reducible refine (laws_heldIntS.calls kj17 _ _ t730 1 t731 _ ?side1 ?side2 A45.out).mono ?_); (case side1 => exact co (Kd.R_reads' HO_8.out).2.2); (case side2 => rw [show t730.length = t718.length from (Kd.R_reads' HO_8.out).1.symm]; exact (Kd.R_reads' HO_8.out).2.1); rintro e w' ⟨rfl, ⟨nd, rfl⟩⟩; refine ⟨_, rfl, ?_⟩; have hnb64 := NB706_717.out; have hnc64 := NB717_706.out; have hcz65_0 := bc BK706 0 (.slice A0_0 l0_0.length c0_0); have hfz65_0 := blk_frozen BK706.out 0) | ((with_reducible refine gate_callee (f := 17) rfl ?_); refine gl (some 59) Try.func17 #[.agg #[.slice A0_0 l0_0.length c0_0]] ?_; (with_reducible refine (laws_toSemigroup.calls kj17 _ _ l0_0 t732 _ ?side1 ?side2 A49.out).mono ?_); (case side1 => exact co (Kd.C_below HR0_0.out bw)); (case side2 => exact HC0_0.out); rintro e w66 ⟨v733, rfl, ho0, hb⟩; refine ⟨_, rfl, ?_⟩; have HO734 := Aside0.mk (Kd.R_lower (Kd.R_new' (Kd.R_new' (Kd.R_new' ho0 (Kd.R_lt (ro HO_6.out))) (Kd.R_lt (ro HO_8.out))) (Kd.R_lt (ro HO_718000.out))) (below_size bw)); replace HO_6 := Aside0.mk (Kd.R_elder' (ro HO_6.out) (Kd.R_base ho0) hb); replace HO_8 := Aside0.mk (Kd.R_elder' (ro HO_8.out) (Kd.R_base ho0) hb); replace HO_718000 := Aside0.mk (Kd.R_elder' (ro HO_718000.out) (Kd.R_base ho0) hb); replace BK706 := Aside0.mk (blk_below (g := gb706) (o := .cells #[.slice A0_0 l0_0.length c0_0] 24 (0, 0)) (bo BK706.out) hb); replace BK717 := Aside0.mk (blk_below (g := gb717) (o := .cells #[.slice Ao29 t727.length co29] 27 (0, 0)) (bo BK717.out) hb); replace HB := Aside0.mk (below_step bw hb); clear hb ho0; obtain ⟨Ao67, co67, eo67⟩ := Kd.R_slice HO734.out; subst eo67) | ((with_reducible refine gate_callee (f := 40) rfl ?_); refine gl (some 61) Try.func40 #[.agg #[.slice Ao67 t732.length co67], .int .i64 a1] ?_; (with_reducible refine (impl_DeltaSet.calls kj17 _ _ t732 a1 t735 _ ?side1 ?side2 A50.out).mono ?_); (case side1 => exact co (Kd.R_reads' HO734.out).2.2); (case side2 => exact (Kd.R_reads' HO734.out).2.1); rintro e w68 ⟨v736, rfl, ho0, hb⟩; refine ⟨_, rfl, ?_⟩; have HO737 := Aside0.mk (Kd.R_lower (Kd.R_new' (Kd.R_new' (Kd.R_new' (Kd.R_new' ho0 (Kd.R_lt (ro HO_6.out))) (Kd.R_lt (ro HO_8.out))) (Kd.R_lt (ro HO_718000.out))) (Kd.R_lt (ro HO734.out))) (below_size bw)); replace HO_6 := Aside0.mk (Kd.R_elder' (ro HO_6.out) (Kd.R_base ho0) hb); replace HO_8 := Aside0.mk (Kd.R_elder' (ro HO_8.out) (Kd.R_base ho0) hb); replace HO_718000 := Aside0.mk (Kd.R_elder' (ro HO_718000.out) (Kd.R_base ho0) hb); replace HO734 := Aside0.mk (Kd.R_elder' (ro HO734.out) (Kd.R_base ho0) hb); replace BK706 := Aside0.mk (blk_below (g := gb706) (o := .cells #[.slice A0_0 l0_0.length c0_0] 24 (0, 0)) (bo BK706.out) hb); replace BK717 := Aside0.mk (blk_below (g := gb717) (o := .cells #[.slice Ao29 t727.length co29] 27 (0, 0)) (bo BK717.out) hb); replace HB := Aside0.mk (below_step bw hb); clear hb ho0; obtain ⟨Ao69, co69, eo69⟩ := Kd.R_slice HO737.out; subst eo69) | ((with_reducible refine gate_callee (f := 20) rfl ?_); refine gl (some 64) Try.func20 #[.slice Ao69 t735.length co69, .slice Ao34 t711.length co34] ?_; (with_reducible refine (laws_eqIntS.calls kj17 _ _ t735 _ _ t711 true _ ?side1 ?side2 ?side3 ?side4 A51.out).mono ?_); (case side1 => exact co (Kd.R_reads' HO737.out).2.2); (case side2 => exact (Kd.R_reads' HO737.out).2.1); (case side3 => exact co (Kd.R_reads' HO_6.out).2.2); (case side4 => exact (Kd.R_reads' HO_6.out).2.1); rintro e w' ⟨rfl, ⟨nd, rfl⟩⟩; refine ⟨_, rfl, ?_⟩) | ((with_reducible refine gate_callee (f := 24) rfl ?_); refine goesL_ (some 68) rfl rfl Try.func24 (by kernel_rfl) rfl #[.slice Ao33 t730.length co33, .int .i64 1] rfl (by (try simp only [List.map_toArray, List.map_cons, List.map_nil]); first | done | (rw [show t730.length = t718.length from (Kd.R_reads' HO_8.out).1.symm] <;> rfl) | rfl | (simp only [List.length_drop, List.length_take]; rfl)) ?_; (with_reducible refine (laws_heldIntS.calls kj17 _ _ t730 1 t739 _ ?side1 ?side2 A53.out).mono ?_); (case side1 => exact co (Kd.R_reads' HO_8.out).2.2); (case side2 => rw [show t730.length = t718.length from (Kd.R_reads' HO_8.out).1.symm]; exact (Kd.R_reads' HO_8.out).2.1); rintro e w' ⟨rfl, ⟨nd, rfl⟩⟩; refine ⟨_, rfl, ?_⟩))
            go_ret
            exact ⟨re, bw⟩
           ·rw [if_neg c62] at H
            have c62b0 : (t739 == t729) = false := beq_eq_false_iff_ne.mpr c62
            have c62b1 : (t739 != t729) = true := bne_iff_ne.mpr c62
            exact absurd (Option.some.inj H) (by decide)
         ·exact absurd (Option.some.inj H) (by decide)
        ·rw [if_neg c48] at H
         have c48b0 : (t731 == t729) = false := beq_eq_false_iff_ne.mpr c48
         have c48b1 : (t731 != t729) = true := bne_iff_ne.mpr c48
         exact absurd (Option.some.inj H) (by decide)
   ·exact absurd (Option.some.inj H) (by decide)
  ·exact absurd (Option.some.inj H) (by decide)
end Go.Proofs.Ytiejmnnnjmmifaa.C
