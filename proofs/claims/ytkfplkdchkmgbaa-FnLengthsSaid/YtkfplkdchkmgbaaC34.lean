/- Contracts of functions of the program: spec_DeltaSet, laws_FnLengths. -/
import Derived.Test.YtkfplkdchkmgbaaC0
import Derived.Test.YtkfplkdchkmgbaaC1
import Derived.Test.YtkfplkdchkmgbaaC2
import Derived.Test.YtkfplkdchkmgbaaC3
import Derived.Test.YtkfplkdchkmgbaaC8
import Derived.Test.YtkfplkdchkmgbaaC12
import Derived.Test.YtkfplkdchkmgbaaC31
import Derived.Test.YtkfplkdchkmgbaaC32
import Derived.Test.YtkfplkdchkmgbaaC33
namespace Go.Proofs.Ytkfplkdchkmgbaa.C
open Go.RowKit Go.Proofs.YtkfplkdchkmgbaaW.PrintWords Go.Proofs.YtkfplkdchkmgbaaW.PrintLast Go.Proofs.YtkfplkdchkmgbaaW.PrintMore
attribute [local go_sem] max2_int min2_int max_two min_two max_three min_three max_four min_four
set_option linter.unusedVariables false
set_option linter.unusedSimpArgs false

/-! ### spec_DeltaSet: function 106 -/
mutual
def spec_DeltaSet.j0 : Nat → Int → List Int → Bool → List Int → Option (List Int)
 | 0, _, _, _, _ => none
 | k + 1, x1, x5, x17, x1275000 => if x17 = true then (some x5) else (spec_DeltaSet.l0 k x1 x5 0 x1275000)
def spec_DeltaSet.l0 : Nat → Int → List Int → Int → List Int → Option (List Int)
 | 0, _, _, _, _ => none
 | k + 1, x1, x5, x6, x1275000 => if x6 ≤ x1 then ((spec_DeltaOf.f k x1275000 x6).bind fun t1283 => (spec_DeltaSet.l1 k x1 x5 x6 t1283 0 x1275000)) else ((spec_SortList.f k x5).bind fun t1280 => (some t1280))
def spec_DeltaSet.l1 : Nat → Int → List Int → Int → List Int → Int → List Int → Option (List Int)
 | 0, _, _, _, _, _, _ => none
 | k + 1, x1, x5, x6, x7, x8, x1275000 => if x8 < (x7.length : Int) then (if 0 ≤ x8 then ((spec_HasNumber.f k x5 (rd x7 x8)).bind fun t1287 => (if t1287 = true then (spec_DeltaSet.l1 k x1 x5 x6 x7 (wrap64 (x8 + 1)) x1275000) else (if x5.length < 17592186044416 then (spec_DeltaSet.l1 k x1 (x5 ++ [rd x7 x8]) x6 x7 (wrap64 (x8 + 1)) x1275000) else (none)))) else (none)) else (spec_DeltaSet.l0 k x1 x5 (wrap64 (x6 + 1)) x1275000)
end
def spec_DeltaSet.f (k : Nat) (l0_0 : List Int) (a1 : Int) : Option (List Int) := (some (([] : List Int) : List Int)).bind fun y1275 => ((spec_IsSemigroup.f k l0_0).bind fun t1278 => (if t1278 = true then ((spec_l1In.f a1 0 100).bind fun t1279 => (spec_DeltaSet.j0 k a1 y1275 (!t1279) l0_0)) else (spec_DeltaSet.j0 k a1 y1275 true l0_0)))
set_option maxHeartbeats 8000000 in
set_option maxRecDepth 100000 in
theorem spec_DeltaSet.calls (k : Nat) (A0_0 : Option Addr) (c0_0 : Nat) (l0_0 : List Int) (a1 : Int) (r : List Int) (w : World) (hr0_0 : Kd.C (Kd.int .i64) w A0_0 l0_0.length l0_0) (hc0_0 : l0_0.length ≤ c0_0) (h : spec_DeltaSet.f k l0_0 a1 = some r) :
  Calls Try.prog 106 #[.agg #[.slice A0_0 l0_0.length c0_0], .int .i64 a1] w fun e w' => ∃ v0_ : Value, e = .returned (v0_) ∧ Kd.R (Kd.int .i64) 3 w' w.heap.size (fun _ => True) v0_ r ∧ Below w.heap.size w w' := by
 have hu26 := Try.underlying26
 have HR0_0 := am hr0_0
 have HC0_0 := am hc0_0
 clear hr0_0 hc0_0
 have HB := am (Below.refl w.heap.size w)
 have H : ((some (([] : List Int) : List Int)).bind fun y1275 => ((spec_IsSemigroup.f k l0_0).bind fun t1278 => (if t1278 = true then ((spec_l1In.f a1 0 100).bind fun t1279 => (spec_DeltaSet.j0 k a1 y1275 (!t1279) l0_0)) else (spec_DeltaSet.j0 k a1 y1275 true l0_0)))) = some r := h
 clear h
 obtain ⟨y1275, hy1275⟩ : ∃ y_ : List Int, y_ = (([] : List Int)) := ⟨_, rfl⟩
 replace H : ((spec_IsSemigroup.f k l0_0).bind fun t1278 => (if t1278 = true then ((spec_l1In.f a1 0 100).bind fun t1279 => (spec_DeltaSet.j0 k a1 y1275 (!t1279) l0_0)) else (spec_DeltaSet.j0 k a1 y1275 true l0_0))) = some r := by first | (rw [hy1275]; with_reducible exact H) | (have H2_ := (Option.bind_some _ _).symm.trans H; rw [hy1275]; with_reducible exact H2_) | (have H2_ := (Option.bind_some _ _).symm.trans H; with_reducible exact H2_) | with_reducible exact H | (rw [hy1275]; exact H) | exact H
 have Ny1275 := am hy1275
 clear hy1275
 have HC3 := am H
 clear H
 go_enter Try.func106, Try.ntmps106
 go_upto_region 2 with (first | ((with_reducible refine gate_dst (N := 2) rfl ?_); refine bx 2 #[.slice A0_0 l0_0.length c0_0] 26 ?_; intro gb1274 hg w4 hbox hb; have BK1274 := am (hbox); have GW1274 := am (gs hg : w.heap.size ≤ gb1274); have GE1274 := GW1274; replace HB := am (below_step bw hb); clear hb hbox hg) | ((with_reducible refine gate_dst (N := 9) rfl ?_); refine Kd.R_lit (Kd.int .i64) _ 3 ?hg (N := 9) ?hd (xs := ([] : List Int)) (inner := []) (ok := fun _ => True) (okp := fun _ => True) ?hr ?hp (fun _ hk => hk) trivial (Below.refl _ _) (Nat.le_refl _) (by simp) ?_; (case hd => rfl); (case hg => rfl); (case hr => first | (go_simp; done) | (go_simp; rfl)); (case hp => exact (Reps.none _ _)); intro v1276 w5 ho6 hb hg_ hnew_; clear hg_ hnew_; (first | rw [← Ny1275.out] at ho6 | (simp only [Int.reduceToNat] at ho6; rw [← Ny1275.out] at ho6)); have HO1277 := am (Kd.R_lower ho6 (below_size bw)); replace BK1274 := kb BK1274 hb; replace HB := am (below_step bw hb); clear hb ho6))
 (try simp only [Act.put, List.setIfInBounds_toArray, List.set_cons_zero, List.set_cons_succ])
 go_cut [17] (fun v17 wc => ∃ (kq : Nat) (x17_2 : Bool), v17 = .bool x17_2 ∧ Aside0 (spec_DeltaSet.j0 kq a1 y1275 x17_2 l0_0 = some r) ∧ Aside0 (kq ≤ k) ∧ Aside0 (Kd.R (Kd.int .i64) 3 wc w.heap.size (fun _ => True) v1276 y1275) ∧ Aside0 (wc.heap[gb1274]? = some (.cells #[(.slice A0_0 l0_0.length c0_0)] 26 (0, 0))) ∧ Aside0 (Below w.heap.size w wc))
 case first =>
  have H := HC3.out
  clear HC3
  replace H := ga H; obtain ⟨t1278, A7, H⟩ := H
  replace H := gb H; obtain ⟨rfl, H⟩ | ⟨rfl, H⟩ := H
  ·replace H := ga H; obtain ⟨t1279, A9, H⟩ := H
   have H' := am H
   clear H
   have hcz10_0 := bc BK1274 0 (.slice A0_0 l0_0.length c0_0)
   have hfz10_0 := blk_frozen BK1274.out 0
   go_wp2_with (first | ((with_reducible refine gate_callee (f := 23) rfl ?_); refine gl (some 11) Try.func23 #[.agg #[.slice A0_0 l0_0.length c0_0]] ?_; (with_reducible refine (spec_IsSemigroup.calls k _ _ l0_0 true _ ?side1 ?side2 A7.out).mono ?_); (case side1 => exact co (Kd.C_below HR0_0.out HB.out)); (case side2 => exact HC0_0.out); rintro e w11 ⟨rfl, hb⟩; refine ⟨_, rfl, ?_⟩; replace HO1277 := am (Kd.R_below (ro HO1277.out) hb); replace BK1274 := kb BK1274 hb; replace HB := am (below_step bw hb); clear hb) | (go_at_call 140; (with_reducible refine (spec_l1In.calls a1 0 100 t1279 _ A9.out).mono ?_); rintro e w' ⟨rfl, ⟨nd, rfl⟩⟩))
   go_meet
   case rel => exact ⟨_, (!t1279), rr, H', ⟨om⟩, ⟨ro HO1277.out⟩, ⟨bo BK1274.out⟩, ⟨bw⟩⟩
  ·have H' := am H
   clear H
   have hcz12_0 := bc BK1274 0 (.slice A0_0 l0_0.length c0_0)
   have hfz12_0 := blk_frozen BK1274.out 0
   go_wp2_with (first | ((with_reducible refine gate_callee (f := 23) rfl ?_); refine gl (some 11) Try.func23 #[.agg #[.slice A0_0 l0_0.length c0_0]] ?_; (with_reducible refine (spec_IsSemigroup.calls k _ _ l0_0 false _ ?side1 ?side2 A7.out).mono ?_); (case side1 => exact co (Kd.C_below HR0_0.out HB.out)); (case side2 => exact HC0_0.out); rintro e w13 ⟨rfl, hb⟩; refine ⟨_, rfl, ?_⟩; replace HO1277 := am (Kd.R_below (ro HO1277.out) hb); replace BK1274 := kb BK1274 hb; replace HB := am (below_step bw hb); clear hb))
   go_meet
   case rel => exact ⟨_, (true), rr, H', ⟨om⟩, ⟨ro HO1277.out⟩, ⟨bo BK1274.out⟩, ⟨bw⟩⟩
 case rest =>
  clear HC3
  try clear hcz10_0; try clear hcz12_0; try clear hfz10_0; try clear hfz12_0
  obtain ⟨kq, x17_2, rfl, HA, HJ2, HO_5, BK1274, HB⟩ := hcut
  cases kq with
  | zero => exact absurd HA.out (by simp [spec_DeltaSet.j0])
  | succ kj2 =>
   have H := HA.out
   clear HA
   simp only [spec_DeltaSet.j0] at H
   replace H := gb H; obtain ⟨rfl, H⟩ | ⟨rfl, H⟩ := H
   ·obtain rfl := Option.some.inj H
    go_wp2
    go_ret
    exact ⟨_, re, ro HO_5.out, bw⟩
   ·have H' := am H
    clear H
    go_wp2
    go_loopg [5, 6] kj2 (fun kq v5 v6 w' => ∃ (x5_2 : List Int) (x6_2 : Int), v6 = .int .i64 x6_2 ∧ Aside0 (spec_DeltaSet.l0 kq a1 x5_2 x6_2 l0_0 = some r) ∧ Aside0 (kq ≤ kj2) ∧ Aside0 (Kd.R (Kd.int .i64) 3 w' w.heap.size (fun _ => True) v5 x5_2) ∧ Aside0 (w'.heap[gb1274]? = some (.cells #[(.slice A0_0 l0_0.length c0_0)] 26 (0, 0))) ∧ Aside0 (Below w.heap.size w w'))
    case atStart => exact ⟨(y1275), (0), rr, H', ⟨Nat.le_refl _⟩, ⟨ro HO_5.out⟩, ⟨bo BK1274.out⟩, ⟨bw⟩⟩
    case round =>
     clear H'
     try clear hcz10_0; try clear hcz12_0; try clear hfz10_0; try clear hfz12_0
     obtain ⟨x5_2, x6_2, rfl, HA, HK2, HO_5, BK1274, HB⟩ := hrel
     cases gk with
     | zero => exact absurd HA.out (by simp [spec_DeltaSet.l0])
     | succ k2 =>
      have H := HA.out
      clear HA
      simp only [spec_DeltaSet.l0] at H
      replace H := gi H; obtain ⟨c15b0, H⟩ | ⟨c15b0, H⟩ := H
      ·replace H := ga H; obtain ⟨t1283, A16, H⟩ := H
       have H' := am H
       clear H
       have hcz17_0 := bc BK1274 0 (.slice A0_0 l0_0.length c0_0)
       have hfz17_0 := blk_frozen BK1274.out 0
       go_wp2_with (first | ((with_reducible refine gate_callee (f := 67) rfl ?_); refine gl (some 26) Try.func67 #[.agg #[.slice A0_0 l0_0.length c0_0], .int .i64 x6_2] ?_; (with_reducible refine (spec_DeltaOf.calls k2 _ _ l0_0 x6_2 t1283 _ ?side1 ?side2 A16.out).mono ?_); (case side1 => exact co (Kd.C_below HR0_0.out HB.out)); (case side2 => exact HC0_0.out); rintro e w18 ⟨v1284, rfl, ho0, hb⟩; refine ⟨_, rfl, ?_⟩; have HO1285 := am (Kd.R_lower (Kd.R_new' ho0 (Kd.R_lt (ro HO_5.out))) (below_size bw)); replace HO_5 := am (Kd.R_elder' (ro HO_5.out) (Kd.R_base ho0) hb); replace BK1274 := kb BK1274 hb; replace HB := am (below_step bw hb); clear hb ho0))
       go_loopg [5, 8] k2 (fun kq v5 v8 w' => ∃ (x5_3 : List Int) (x8_3 : Int), v8 = .int .i64 x8_3 ∧ Aside0 (spec_DeltaSet.l1 kq a1 x5_3 x6_2 t1283 x8_3 l0_0 = some r) ∧ Aside0 (kq ≤ k2) ∧ Aside0 (Kd.R (Kd.int .i64) 3 w' w.heap.size (fun k_ => some k_ ≠ (v1284 : Value).ownBlock) v5 x5_3) ∧ Aside0 (Kd.R (Kd.int .i64) 3 w' w.heap.size (fun k_ => some k_ ≠ (v5 : Value).ownBlock) v1284 t1283) ∧ Aside0 (w'.heap[gb1274]? = some (.cells #[(.slice A0_0 l0_0.length c0_0)] 26 (0, 0))) ∧ Aside0 (Below w.heap.size w w'))
       case atStart => exact ⟨(x5_2), (0), rr, H', ⟨Nat.le_refl _⟩, ⟨by (with_reducible repeat (first | apply Kd.R_alloc | apply Kd.R_drewN | apply Kd.R_drew)); exact Kd.R_mono HO_5.out (fun _ hk => hk.2)⟩, ⟨by (with_reducible repeat (first | apply Kd.R_alloc | apply Kd.R_drewN | apply Kd.R_drew)); exact Kd.R_mono HO1285.out (fun _ hk => hk.2)⟩, ⟨bo BK1274.out⟩, ⟨bw⟩⟩
       case round =>
        clear H'
        try clear c15b0; try clear hcz10_0; try clear hcz12_0; try clear hcz17_0; try clear hfz10_0; try clear hfz12_0; try clear hfz17_0
        obtain ⟨x5_3, x8_3, rfl, HA, HK3, HO_5, HO_7, BK1274, HB⟩ := hrel
        cases gk with
        | zero => exact absurd HA.out (by simp [spec_DeltaSet.l1])
        | succ k3 =>
         have H := HA.out
         clear HA
         simp only [spec_DeltaSet.l1] at H
         replace H := gi H; obtain ⟨c19b0, H⟩ | ⟨c19b0, H⟩ := H
         ·replace H := gd H; obtain ⟨c20b0, H⟩ := H
          replace H := ga H; obtain ⟨t1287, A21, H⟩ := H
          replace H := gb H; obtain ⟨rfl, H⟩ | ⟨rfl, H⟩ := H
          ·have H' := am H
           clear H
           obtain ⟨Ao23, co23, eo23⟩ := Kd.R_slice HO_7.out
           subst eo23
           obtain ⟨⟨ad1286, e1286, hx1286_0⟩, p1286, q1286⟩ := pq (Kd.at_int (Kd.R_reads' HO_7.out).2.2 x8_3)
           cases e1286
           obtain ⟨Ao24, co24, eo24⟩ := Kd.R_slice HO_5.out
           subst eo24
           go_wp2_with (first | ((with_reducible refine gate_callee (f := 117) rfl ?_); refine gl (some 38) Try.func117 #[.slice Ao24 x5_3.length co24, .int .i64 (rd t1283 x8_3)] ?_; (with_reducible refine (spec_HasNumber.calls k3 _ _ x5_3 (rd t1283 x8_3) true _ ?side1 ?side2 A21.out).mono ?_); (case side1 => exact co (Kd.R_reads' HO_5.out).2.2); (case side2 => exact (Kd.R_reads' HO_5.out).2.1); rintro e w' ⟨rfl, ⟨nd, rfl⟩⟩; refine ⟨_, rfl, ?_⟩))
           go_roundg k3
           case measure => have := HJ2.out; have := HK2.out; have := HK3.out; omega
           case rel => exact ⟨(x5_3), (wrap64 (x8_3 + 1)), rr, H', ⟨by have := HJ2.out; have := HK2.out; have := HK3.out; omega⟩, ⟨ro HO_5.out⟩, ⟨ro HO_7.out⟩, ⟨bo BK1274.out⟩, ⟨bw⟩⟩
          ·by_cases c25 : x5_3.length < 17592186044416
           rotate_left
           ·rw [if_neg c25] at H
            exact absurd H (by simp)
           rw [if_pos c25] at H
           have LMc25 := am c25
           clear c25
           obtain ⟨y1289, hy1289⟩ : ∃ y_ : List Int, y_ = (x5_3 ++ [rd t1283 x8_3]) := ⟨_, rfl⟩
           replace H : (spec_DeltaSet.l1 k3 a1 y1289 x6_2 t1283 (wrap64 (x8_3 + 1)) l0_0) = some r := by first | (rw [hy1289]; with_reducible exact H) | (have H2_ := (Option.bind_some _ _).symm.trans H; rw [hy1289]; with_reducible exact H2_) | (have H2_ := (Option.bind_some _ _).symm.trans H; with_reducible exact H2_) | with_reducible exact H | (rw [hy1289]; exact H) | exact H
           have Ny1289 := am hy1289
           clear hy1289
           have H' := am H
           clear H
           obtain ⟨Ao26, co26, eo26⟩ := Kd.R_slice HO_7.out
           subst eo26
           obtain ⟨⟨ad1286, e1286, hx1286_0⟩, p1286, q1286⟩ := pq (Kd.at_int (Kd.R_reads' HO_7.out).2.2 x8_3)
           cases e1286
           obtain ⟨Ao27, co27, eo27⟩ := Kd.R_slice HO_5.out
           subst eo27
           go_wp2_with (first | ((with_reducible refine gate_callee (f := 117) rfl ?_); refine gl (some 38) Try.func117 #[.slice Ao27 x5_3.length co27, .int .i64 (rd t1283 x8_3)] ?_; (with_reducible refine (spec_HasNumber.calls k3 _ _ x5_3 (rd t1283 x8_3) false _ ?side1 ?side2 A21.out).mono ?_); (case side1 => exact co (Kd.R_reads' HO_5.out).2.2); (case side2 => exact (Kd.R_reads' HO_5.out).2.1); rintro e w' ⟨rfl, ⟨nd, rfl⟩⟩; refine ⟨_, rfl, ?_⟩; have p1288 : 0 ≤ (x8_3 : Int) := of_decide_eq_true (by first | (with_reducible assumption) | assumption); have q1288 : x8_3 < (t1283.length : Int) := of_decide_eq_true (by first | (with_reducible assumption) | assumption); obtain ⟨ad1288, e1288, hx1288_0⟩ := Kd.at_int (Kd.R_reads' HO_7.out).2.2 x8_3 p1288 q1288; obtain rfl : ad1286 = ad1288 := (by injection e1288); replace p1288 := eq_true p1288; replace q1288 := eq_true q1288) | ((with_reducible refine gate_builtin (b := .append) (xs := #[.tmp 40, .tmp 45]) rfl ?_); at_builtin; refine Kd.R_append (Kd.int .i64) (w0 := w) w.heap.size rfl (.tmp 40) (.tmp 45) 24 3 (.int .i64 0) 8 rfl Try.underlying24 info3 rfl (by decide) (by omega) (.slice Ao27 x5_3.length co27) x5_3 (rd t1283 x8_3) [.int .i64 (rd t1283 x8_3)] (fun k_ => some k_ ≠ (.slice (some ad1286) t1283.length co26 : Value).ownBlock) (fun _ => False) rfl rfl ?aP (fun _ hk => hk.elim) ?aF ?aO ?aB ?aS ?aL ?_; (case aP => exact rfl); (case aB => exact bw); (case aF => exact (fun k_ hk => Kd.fresh' (Kd.R_lt (ro HO_7.out)) k_ hk)); (case aO => exact (ro HO_5.out)); (case aS => exact (below_size bw)); (case aL => have := LMc25.out; omega); intro v1290 w28 ho hb hg hat; rw [← Ny1289.out] at ho; replace HO_7 := am (Kd.R_after (ok := (fun _ => True)) (by (with_reducible repeat (first | apply Kd.R_alloc | apply Kd.R_drewN | apply Kd.R_drew)); exact Kd.R_mono HO_7.out (fun _ hk => ⟨trivial, by first | exact hk | exact (by intro a n m c x h; cases a <;> exact h : ∀ (a : Option Addr) (n m c x : Nat), some x ≠ (Value.slice a n c).ownBlock → some x ≠ (Value.slice a m c).ownBlock) _ _ _ _ _ hk⟩)) hg hat); replace BK1274 := am (blk_grown (g := gb1274) (o := .cells #[.slice A0_0 l0_0.length c0_0] 26 (0, 0)) (bo BK1274.out) hg (Kd.R_ne HO_5.out BK1274.out (by decide))); replace HB := am (hb); have HO1291 := am (ho); clear HO_5 ho hb hg hat))
           go_roundg k3
           case measure => have := HJ2.out; have := HK2.out; have := HK3.out; omega
           case rel => exact ⟨(y1289), (wrap64 (x8_3 + 1)), rr, H', ⟨by have := HJ2.out; have := HK2.out; have := HK3.out; omega⟩, ⟨ro HO1291.out⟩, ⟨by (with_reducible repeat (first | apply Kd.R_alloc | apply Kd.R_drewN | apply Kd.R_drew)); exact Kd.R_mono HO_7.out (fun _ hk => hk.2)⟩, ⟨bo BK1274.out⟩, ⟨bw⟩⟩
         ·have H' := am H
          clear H
          obtain ⟨Ao29, co29, eo29⟩ := Kd.R_slice HO_7.out
          subst eo29
          go_wp2
          go_roundg k3
          case measure => have := HJ2.out; have := HK2.out; have := HK3.out; omega
          case rel => exact ⟨(x5_3), (wrap64 (x6_2 + 1)), rr, H', ⟨by have := HJ2.out; have := HK2.out; have := HK3.out; omega⟩, ⟨by (with_reducible repeat (first | apply Kd.R_alloc | apply Kd.R_drewN | apply Kd.R_drew)); exact Kd.R_mono HO_5.out (fun _ hk => trivial)⟩, ⟨bo BK1274.out⟩, ⟨bw⟩⟩
      ·replace H := ga H; obtain ⟨t1280, A30, H⟩ := H
       obtain rfl := Option.some.inj H
       obtain ⟨Ao31, co31, eo31⟩ := Kd.R_slice HO_5.out
       subst eo31
       go_wp2_with (first | ((with_reducible refine gate_callee (f := 93) rfl ?_); refine gl (some 48) Try.func93 #[.slice Ao31 x5_2.length co31] ?_; (with_reducible refine (spec_SortList.calls k2 _ _ x5_2 t1280 _ ?side1 ?side2 A30.out).mono ?_); (case side1 => exact co (Kd.R_reads' HO_5.out).2.2); (case side2 => exact (Kd.R_reads' HO_5.out).2.1); rintro e w32 ⟨v1281, rfl, ho0, hb⟩; refine ⟨_, rfl, ?_⟩; have HO1282 := am (Kd.R_lower (Kd.R_new' ho0 (Kd.R_lt (ro HO_5.out))) (below_size bw)); replace HO_5 := am (Kd.R_elder' (ro HO_5.out) (Kd.R_base ho0) hb); replace BK1274 := kb BK1274 hb; replace HB := am (below_step bw hb); clear hb ho0))
       go_ret
       exact ⟨_, re, by (with_reducible repeat (first | apply Kd.R_alloc | apply Kd.R_drewN | apply Kd.R_drew)); exact Kd.R_mono HO1282.out (fun _ hk => trivial), bw⟩


/-! ### laws_FnLengths: function 9 -/
mutual
def laws_FnLengths.j0 : Nat → Int → List Int → List Int → Int → Int → Int → Int → Bool → List Int → Option (Bool)
 | 0, _, _, _, _, _, _, _, _, _ => none
 | k + 1, x4, x5, x6, x7, x8, x11, x12, x103, x1298000 => if x103 = true then (some false) else (if (x5.length : Int) = 0 then (some ((x6.length : Int) == 0)) else (laws_FnLengths.l0 k x4 x6 x7 x8 x11 x12 0 1 x1298000))
def laws_FnLengths.l0 : Nat → Int → List Int → Int → Int → Int → Int → Int → Int → List Int → Option (Bool)
 | 0, _, _, _, _, _, _, _, _, _ => none
 | k + 1, x4, x6, x7, x8, x11, x12, x17, x18, x1298000 => if x18 < (x1298000.length : Int) then (if 0 ≤ x18 then (if 0 ≤ (wrap64 (x18 - 1)) then (if (wrap64 (x18 - 1)) < (x1298000.length : Int) then ((spec_GcdOf.f k x17 (wrap64 ((rd x1298000 x18) - (rd x1298000 (wrap64 (x18 - 1)))))).bind fun t1334 => (laws_FnLengths.l0 k x4 x6 x7 x8 x11 x12 t1334 (wrap64 (x18 + 1)) x1298000)) else (none)) else (none)) else (none)) else (laws_FnLengths.l1 k x4 x6 x7 x8 x11 x12 x17 0)
def laws_FnLengths.l1 : Nat → Int → List Int → Int → Int → Int → Int → Int → Int → Option (Bool)
 | 0, _, _, _, _, _, _, _, _ => none
 | k + 1, x4, x6, x7, x8, x11, x12, x17, x19 => if x19 < (x6.length : Int) then (if x17 = 0 then (some false) else (if 0 ≤ x19 then (if (Int.tmod (rd x6 x19) x17) = 0 then (laws_FnLengths.l1 k x4 x6 x7 x8 x11 x12 x17 (wrap64 (x19 + 1))) else (some false)) else (none))) else (if (wrap64 (x7 * x12)) ≤ (wrap64 (x8 * x11)) then (some true) else (some (x4 == 0)))
end
def laws_FnLengths.f (k : Nat) (l0 : List Int) : Option (Bool) := (laws_big.f l0).bind fun t1292 => (if t1292 = true then (some true) else ((spec_DrawLengthsOf.f k l0).bind fun bt1293 => ((impl_LengthsOf.f k bt1293.1 bt1293.2).bind fun t1298 => ((impl_DeltaOf.f k bt1293.1 bt1293.2).bind fun t1301 => ((impl_ElasticityOf.f k bt1293.1 bt1293.2).bind fun bt1304 => ((spec_ElasticityOf.f k bt1293.1 bt1293.2).bind fun bt1306 => ((impl_GreatestElasticity.f k bt1293.1).bind fun bt1308 => ((spec_GreatestElasticity.f k bt1293.1).bind fun bt1310 => ((spec_DrawDeltaSet.f k l0).bind fun bt1312 => ((spec_LengthsOf.f k bt1293.1 bt1293.2).bind fun t1317 => ((laws_sameInts.f k t1298 t1317).bind fun t1320 => (if t1320 = true then ((spec_DeltaOf.f k bt1293.1 bt1293.2).bind fun t1321 => ((laws_sameInts.f k t1301 t1321).bind fun t1324 => (if t1324 = true then (if bt1304.1 = bt1306.1 then (if bt1304.2 = bt1306.2 then (if bt1308.1 = bt1310.1 then (if bt1308.2 = bt1310.2 then ((impl_DeltaSet.f k bt1312.1 bt1312.2).bind fun t1325 => ((spec_DeltaSet.f k bt1312.1 bt1312.2).bind fun t1328 => ((laws_sameInts.f k t1325 t1328).bind fun t1331 => (laws_FnLengths.j0 k bt1293.2 t1298 t1301 bt1304.1 bt1304.2 bt1308.1 bt1308.2 (!t1331) bt1293.1)))) else (laws_FnLengths.j0 k bt1293.2 t1298 t1301 bt1304.1 bt1304.2 bt1308.1 bt1308.2 true bt1293.1)) else (laws_FnLengths.j0 k bt1293.2 t1298 t1301 bt1304.1 bt1304.2 bt1308.1 bt1308.2 true bt1293.1)) else (laws_FnLengths.j0 k bt1293.2 t1298 t1301 bt1304.1 bt1304.2 bt1308.1 bt1308.2 true bt1293.1)) else (laws_FnLengths.j0 k bt1293.2 t1298 t1301 bt1304.1 bt1304.2 bt1308.1 bt1308.2 true bt1293.1)) else (laws_FnLengths.j0 k bt1293.2 t1298 t1301 bt1304.1 bt1304.2 bt1308.1 bt1308.2 true bt1293.1)))) else (laws_FnLengths.j0 k bt1293.2 t1298 t1301 bt1304.1 bt1304.2 bt1308.1 bt1308.2 true bt1293.1)))))))))))))
def laws_FnLengths.T11 : Bool × List (List Nat × List Nat) := (true, [([], []), ([], []), ([], []), ([1, 2], [1, 2]), ([0, 3, 3], [0, 3]), ([4], [4]), ([5, 4], [5]), ([6], [6]), ([6], [6]), ([6], [6]), ([8, 9, 6, 6], [6, 8, 9]), ([7, 10, 10, 6], [6, 7, 10]), ([11, 6], [6, 11]), ([6, 12], [6, 12]), ([13, 11], [13]), ([14], [14]), ([14], [14]), ([15, 16, 14], [14, 15, 16]), ([14, 17], [14, 17]), ([18, 14], [18]), ([19], [19]), ([19], [19]), ([20, 21, 19], [19, 20, 21]), ([19, 22], [19, 22]), ([23, 19], [23]), ([24], [24]), ([24], [24]), ([25, 26, 24], [24, 25, 26]), ([24, 27], [24, 27]), ([28, 24], [28]), ([29], [29]), ([29], [29]), ([30, 31, 29], [29, 30, 31]), ([29, 32], [29, 32]), ([33, 29], [33]), ([34], [34]), ([34], [34]), ([35, 36, 34, 34], [34, 35, 36]), ([34], [34]), ([34], [34]), ([38, 39, 37, 34], [34, 38, 39]), ([37, 40, 40, 34], [34, 37, 40]), ([41, 34], [34, 41]), ([34, 42], [34, 42])])
def laws_FnLengths.B11 : List Nat := [0, 0, 0, 6, 15, 31, 63, 127, 127, 127, 895, 2047, 4095, 8191, 16383, 32767, 32767, 131071, 262143, 524287, 1048575, 1048575, 4194303, 8388607, 16777215, 33554431, 33554431, 134217727, 268435455, 536870911, 1073741823, 1073741823, 4294967295, 8589934591, 17179869183, 34359738367, 34359738367, 137438953471, 34359738367, 34359738367, 1099511627775, 2199023255551, 4398046511103, 8796093022207]
theorem laws_FnLengths.tab11 : rtab .any (opsOf Try.f9 11) = laws_FnLengths.T11 := by kernel_rfl
theorem laws_FnLengths.bits11 : waitsOk laws_FnLengths.T11.2 laws_FnLengths.B11 = true := by kernel_rfl
def laws_FnLengths.T19 : Bool × List (List Nat × List Nat) := (true, [([], []), ([], []), ([1], [1]), ([], []), ([2, 3], [2, 3]), ([4], [4]), ([], []), ([6], [6]), ([], []), ([8], [8]), ([7, 9], [7, 9]), ([10], [10]), ([5, 11], [5, 11]), ([0, 12], [0, 12]), ([13, 13, 0, 1, 2, 3, 4, 5, 6, 7, 8, 9, 10, 11, 12, 13], [0, 13])])
def laws_FnLengths.B19 : List Nat := [0, 0, 2, 0, 14, 30, 0, 64, 0, 256, 960, 1984, 4094, 8191, 16383]
theorem laws_FnLengths.tab19 : rtab .any (opsOf Try.f9 19) = laws_FnLengths.T19 := by kernel_rfl
theorem laws_FnLengths.bits19 : waitsOk laws_FnLengths.T19.2 laws_FnLengths.B19 = true := by kernel_rfl
theorem laws_FnLengths.j0_no {k : Nat} : ∀ {a0} {a1} {a2} {a3} {a4} {a5} {a6} {a8}, laws_FnLengths.j0 k a0 a1 a2 a3 a4 a5 a6 true a8 ≠ some true := by
 intros
 cases k <;> simp [laws_FnLengths.j0]
set_option maxHeartbeats 8000000 in
set_option maxRecDepth 100000 in
theorem laws_FnLengths.calls (k : Nat) (A0 : Option Addr) (c0 : Nat) (l0 : List Int) (w : World) (hr0 : Kd.C (Kd.int .u8) w A0 l0.length l0) (hc0 : l0.length ≤ c0) (h : laws_FnLengths.f k l0 = some true) :
  Calls Try.prog 9 #[.slice A0 l0.length c0] w fun e w' => e = .returned (.bool true) ∧ Below w.heap.size w w' := by
 have hu26 := Try.underlying26
 have HR0 := am hr0
 have HC0 := am hc0
 clear hr0 hc0
 have HB := am (Below.refl w.heap.size w)
 have H : ((laws_big.f l0).bind fun t1292 => (if t1292 = true then (some true) else ((spec_DrawLengthsOf.f k l0).bind fun bt1293 => ((impl_LengthsOf.f k bt1293.1 bt1293.2).bind fun t1298 => ((impl_DeltaOf.f k bt1293.1 bt1293.2).bind fun t1301 => ((impl_ElasticityOf.f k bt1293.1 bt1293.2).bind fun bt1304 => ((spec_ElasticityOf.f k bt1293.1 bt1293.2).bind fun bt1306 => ((impl_GreatestElasticity.f k bt1293.1).bind fun bt1308 => ((spec_GreatestElasticity.f k bt1293.1).bind fun bt1310 => ((spec_DrawDeltaSet.f k l0).bind fun bt1312 => ((spec_LengthsOf.f k bt1293.1 bt1293.2).bind fun t1317 => ((laws_sameInts.f k t1298 t1317).bind fun t1320 => (if t1320 = true then ((spec_DeltaOf.f k bt1293.1 bt1293.2).bind fun t1321 => ((laws_sameInts.f k t1301 t1321).bind fun t1324 => (if t1324 = true then (if bt1304.1 = bt1306.1 then (if bt1304.2 = bt1306.2 then (if bt1308.1 = bt1310.1 then (if bt1308.2 = bt1310.2 then ((impl_DeltaSet.f k bt1312.1 bt1312.2).bind fun t1325 => ((spec_DeltaSet.f k bt1312.1 bt1312.2).bind fun t1328 => ((laws_sameInts.f k t1325 t1328).bind fun t1331 => (laws_FnLengths.j0 k bt1293.2 t1298 t1301 bt1304.1 bt1304.2 bt1308.1 bt1308.2 (!t1331) bt1293.1)))) else (laws_FnLengths.j0 k bt1293.2 t1298 t1301 bt1304.1 bt1304.2 bt1308.1 bt1308.2 true bt1293.1)) else (laws_FnLengths.j0 k bt1293.2 t1298 t1301 bt1304.1 bt1304.2 bt1308.1 bt1308.2 true bt1293.1)) else (laws_FnLengths.j0 k bt1293.2 t1298 t1301 bt1304.1 bt1304.2 bt1308.1 bt1308.2 true bt1293.1)) else (laws_FnLengths.j0 k bt1293.2 t1298 t1301 bt1304.1 bt1304.2 bt1308.1 bt1308.2 true bt1293.1)) else (laws_FnLengths.j0 k bt1293.2 t1298 t1301 bt1304.1 bt1304.2 bt1308.1 bt1308.2 true bt1293.1)))) else (laws_FnLengths.j0 k bt1293.2 t1298 t1301 bt1304.1 bt1304.2 bt1308.1 bt1308.2 true bt1293.1)))))))))))))) = some true := h
 clear h
 replace H := ga H; obtain ⟨t1292, A2, H⟩ := H
 by_cases c3 : t1292 = true
 ·subst c3
  have H1 : (some true) = some true := rfl
  clear H
  have H := H1
  clear H1
  skip
  go_enter Try.func9, Try.ntmps9
  go_wp2_with (first | ((with_reducible refine gate_callee (f := 12) rfl ?_); refine gl (some 21) Try.func12 #[.slice A0 l0.length c0] ?_; (with_reducible refine (laws_big.calls _ _ l0 true _ ?side1 ?side2 A2.out).mono ?_); (case side1 => exact co HR0.out); (case side2 => exact HC0.out); rintro e w' ⟨rfl, ⟨nd, rfl⟩⟩; refine ⟨_, rfl, ?_⟩))
  go_ret
  exact ⟨re, bw⟩
 ·replace c3 := Bool.eq_false_iff.mpr c3
  subst c3
  have H1 : ((spec_DrawLengthsOf.f k l0).bind fun bt1293 => ((impl_LengthsOf.f k bt1293.1 bt1293.2).bind fun t1298 => ((impl_DeltaOf.f k bt1293.1 bt1293.2).bind fun t1301 => ((impl_ElasticityOf.f k bt1293.1 bt1293.2).bind fun bt1304 => ((spec_ElasticityOf.f k bt1293.1 bt1293.2).bind fun bt1306 => ((impl_GreatestElasticity.f k bt1293.1).bind fun bt1308 => ((spec_GreatestElasticity.f k bt1293.1).bind fun bt1310 => ((spec_DrawDeltaSet.f k l0).bind fun bt1312 => ((spec_LengthsOf.f k bt1293.1 bt1293.2).bind fun t1317 => ((laws_sameInts.f k t1298 t1317).bind fun t1320 => (if t1320 = true then ((spec_DeltaOf.f k bt1293.1 bt1293.2).bind fun t1321 => ((laws_sameInts.f k t1301 t1321).bind fun t1324 => (if t1324 = true then (if bt1304.1 = bt1306.1 then (if bt1304.2 = bt1306.2 then (if bt1308.1 = bt1310.1 then (if bt1308.2 = bt1310.2 then ((impl_DeltaSet.f k bt1312.1 bt1312.2).bind fun t1325 => ((spec_DeltaSet.f k bt1312.1 bt1312.2).bind fun t1328 => ((laws_sameInts.f k t1325 t1328).bind fun t1331 => (laws_FnLengths.j0 k bt1293.2 t1298 t1301 bt1304.1 bt1304.2 bt1308.1 bt1308.2 (!t1331) bt1293.1)))) else (laws_FnLengths.j0 k bt1293.2 t1298 t1301 bt1304.1 bt1304.2 bt1308.1 bt1308.2 true bt1293.1)) else (laws_FnLengths.j0 k bt1293.2 t1298 t1301 bt1304.1 bt1304.2 bt1308.1 bt1308.2 true bt1293.1)) else (laws_FnLengths.j0 k bt1293.2 t1298 t1301 bt1304.1 bt1304.2 bt1308.1 bt1308.2 true bt1293.1)) else (laws_FnLengths.j0 k bt1293.2 t1298 t1301 bt1304.1 bt1304.2 bt1308.1 bt1308.2 true bt1293.1)) else (laws_FnLengths.j0 k bt1293.2 t1298 t1301 bt1304.1 bt1304.2 bt1308.1 bt1308.2 true bt1293.1)))) else (laws_FnLengths.j0 k bt1293.2 t1298 t1301 bt1304.1 bt1304.2 bt1308.1 bt1308.2 true bt1293.1)))))))))))) = some true := by rw [if_neg (show ¬ (false = true) by decide)] at H; exact H
  clear H
  have H := H1
  clear H1
  replace H := ga H; obtain ⟨⟨t1293, t1296⟩, A4, H⟩ := H
  replace H : ((impl_LengthsOf.f k t1293 t1296).bind fun t1298 => ((impl_DeltaOf.f k t1293 t1296).bind fun t1301 => ((impl_ElasticityOf.f k t1293 t1296).bind fun bt1304 => ((spec_ElasticityOf.f k t1293 t1296).bind fun bt1306 => ((impl_GreatestElasticity.f k t1293).bind fun bt1308 => ((spec_GreatestElasticity.f k t1293).bind fun bt1310 => ((spec_DrawDeltaSet.f k l0).bind fun bt1312 => ((spec_LengthsOf.f k t1293 t1296).bind fun t1317 => ((laws_sameInts.f k t1298 t1317).bind fun t1320 => (if t1320 = true then ((spec_DeltaOf.f k t1293 t1296).bind fun t1321 => ((laws_sameInts.f k t1301 t1321).bind fun t1324 => (if t1324 = true then (if bt1304.1 = bt1306.1 then (if bt1304.2 = bt1306.2 then (if bt1308.1 = bt1310.1 then (if bt1308.2 = bt1310.2 then ((impl_DeltaSet.f k bt1312.1 bt1312.2).bind fun t1325 => ((spec_DeltaSet.f k bt1312.1 bt1312.2).bind fun t1328 => ((laws_sameInts.f k t1325 t1328).bind fun t1331 => (laws_FnLengths.j0 k t1296 t1298 t1301 bt1304.1 bt1304.2 bt1308.1 bt1308.2 (!t1331) t1293)))) else (laws_FnLengths.j0 k t1296 t1298 t1301 bt1304.1 bt1304.2 bt1308.1 bt1308.2 true t1293)) else (laws_FnLengths.j0 k t1296 t1298 t1301 bt1304.1 bt1304.2 bt1308.1 bt1308.2 true t1293)) else (laws_FnLengths.j0 k t1296 t1298 t1301 bt1304.1 bt1304.2 bt1308.1 bt1308.2 true t1293)) else (laws_FnLengths.j0 k t1296 t1298 t1301 bt1304.1 bt1304.2 bt1308.1 bt1308.2 true t1293)) else (laws_FnLengths.j0 k t1296 t1298 t1301 bt1304.1 bt1304.2 bt1308.1 bt1308.2 true t1293)))) else (laws_FnLengths.j0 k t1296 t1298 t1301 bt1304.1 bt1304.2 bt1308.1 bt1308.2 true t1293))))))))))) = some true := H
  replace H := ga H; obtain ⟨t1298, A5, H⟩ := H
  replace H := ga H; obtain ⟨t1301, A6, H⟩ := H
  replace H := ga H; obtain ⟨⟨t1304, t1305⟩, A7, H⟩ := H
  replace H : ((spec_ElasticityOf.f k t1293 t1296).bind fun bt1306 => ((impl_GreatestElasticity.f k t1293).bind fun bt1308 => ((spec_GreatestElasticity.f k t1293).bind fun bt1310 => ((spec_DrawDeltaSet.f k l0).bind fun bt1312 => ((spec_LengthsOf.f k t1293 t1296).bind fun t1317 => ((laws_sameInts.f k t1298 t1317).bind fun t1320 => (if t1320 = true then ((spec_DeltaOf.f k t1293 t1296).bind fun t1321 => ((laws_sameInts.f k t1301 t1321).bind fun t1324 => (if t1324 = true then (if t1304 = bt1306.1 then (if t1305 = bt1306.2 then (if bt1308.1 = bt1310.1 then (if bt1308.2 = bt1310.2 then ((impl_DeltaSet.f k bt1312.1 bt1312.2).bind fun t1325 => ((spec_DeltaSet.f k bt1312.1 bt1312.2).bind fun t1328 => ((laws_sameInts.f k t1325 t1328).bind fun t1331 => (laws_FnLengths.j0 k t1296 t1298 t1301 t1304 t1305 bt1308.1 bt1308.2 (!t1331) t1293)))) else (laws_FnLengths.j0 k t1296 t1298 t1301 t1304 t1305 bt1308.1 bt1308.2 true t1293)) else (laws_FnLengths.j0 k t1296 t1298 t1301 t1304 t1305 bt1308.1 bt1308.2 true t1293)) else (laws_FnLengths.j0 k t1296 t1298 t1301 t1304 t1305 bt1308.1 bt1308.2 true t1293)) else (laws_FnLengths.j0 k t1296 t1298 t1301 t1304 t1305 bt1308.1 bt1308.2 true t1293)) else (laws_FnLengths.j0 k t1296 t1298 t1301 t1304 t1305 bt1308.1 bt1308.2 true t1293)))) else (laws_FnLengths.j0 k t1296 t1298 t1301 t1304 t1305 bt1308.1 bt1308.2 true t1293)))))))) = some true := H
  replace H := ga H; obtain ⟨⟨t1306, t1307⟩, A8, H⟩ := H
  replace H : ((impl_GreatestElasticity.f k t1293).bind fun bt1308 => ((spec_GreatestElasticity.f k t1293).bind fun bt1310 => ((spec_DrawDeltaSet.f k l0).bind fun bt1312 => ((spec_LengthsOf.f k t1293 t1296).bind fun t1317 => ((laws_sameInts.f k t1298 t1317).bind fun t1320 => (if t1320 = true then ((spec_DeltaOf.f k t1293 t1296).bind fun t1321 => ((laws_sameInts.f k t1301 t1321).bind fun t1324 => (if t1324 = true then (if t1304 = t1306 then (if t1305 = t1307 then (if bt1308.1 = bt1310.1 then (if bt1308.2 = bt1310.2 then ((impl_DeltaSet.f k bt1312.1 bt1312.2).bind fun t1325 => ((spec_DeltaSet.f k bt1312.1 bt1312.2).bind fun t1328 => ((laws_sameInts.f k t1325 t1328).bind fun t1331 => (laws_FnLengths.j0 k t1296 t1298 t1301 t1304 t1305 bt1308.1 bt1308.2 (!t1331) t1293)))) else (laws_FnLengths.j0 k t1296 t1298 t1301 t1304 t1305 bt1308.1 bt1308.2 true t1293)) else (laws_FnLengths.j0 k t1296 t1298 t1301 t1304 t1305 bt1308.1 bt1308.2 true t1293)) else (laws_FnLengths.j0 k t1296 t1298 t1301 t1304 t1305 bt1308.1 bt1308.2 true t1293)) else (laws_FnLengths.j0 k t1296 t1298 t1301 t1304 t1305 bt1308.1 bt1308.2 true t1293)) else (laws_FnLengths.j0 k t1296 t1298 t1301 t1304 t1305 bt1308.1 bt1308.2 true t1293)))) else (laws_FnLengths.j0 k t1296 t1298 t1301 t1304 t1305 bt1308.1 bt1308.2 true t1293))))))) = some true := H
  replace H := ga H; obtain ⟨⟨t1308, t1309⟩, A9, H⟩ := H
  replace H : ((spec_GreatestElasticity.f k t1293).bind fun bt1310 => ((spec_DrawDeltaSet.f k l0).bind fun bt1312 => ((spec_LengthsOf.f k t1293 t1296).bind fun t1317 => ((laws_sameInts.f k t1298 t1317).bind fun t1320 => (if t1320 = true then ((spec_DeltaOf.f k t1293 t1296).bind fun t1321 => ((laws_sameInts.f k t1301 t1321).bind fun t1324 => (if t1324 = true then (if t1304 = t1306 then (if t1305 = t1307 then (if t1308 = bt1310.1 then (if t1309 = bt1310.2 then ((impl_DeltaSet.f k bt1312.1 bt1312.2).bind fun t1325 => ((spec_DeltaSet.f k bt1312.1 bt1312.2).bind fun t1328 => ((laws_sameInts.f k t1325 t1328).bind fun t1331 => (laws_FnLengths.j0 k t1296 t1298 t1301 t1304 t1305 t1308 t1309 (!t1331) t1293)))) else (laws_FnLengths.j0 k t1296 t1298 t1301 t1304 t1305 t1308 t1309 true t1293)) else (laws_FnLengths.j0 k t1296 t1298 t1301 t1304 t1305 t1308 t1309 true t1293)) else (laws_FnLengths.j0 k t1296 t1298 t1301 t1304 t1305 t1308 t1309 true t1293)) else (laws_FnLengths.j0 k t1296 t1298 t1301 t1304 t1305 t1308 t1309 true t1293)) else (laws_FnLengths.j0 k t1296 t1298 t1301 t1304 t1305 t1308 t1309 true t1293)))) else (laws_FnLengths.j0 k t1296 t1298 t1301 t1304 t1305 t1308 t1309 true t1293)))))) = some true := H
  replace H := ga H; obtain ⟨⟨t1310, t1311⟩, A10, H⟩ := H
  replace H : ((spec_DrawDeltaSet.f k l0).bind fun bt1312 => ((spec_LengthsOf.f k t1293 t1296).bind fun t1317 => ((laws_sameInts.f k t1298 t1317).bind fun t1320 => (if t1320 = true then ((spec_DeltaOf.f k t1293 t1296).bind fun t1321 => ((laws_sameInts.f k t1301 t1321).bind fun t1324 => (if t1324 = true then (if t1304 = t1306 then (if t1305 = t1307 then (if t1308 = t1310 then (if t1309 = t1311 then ((impl_DeltaSet.f k bt1312.1 bt1312.2).bind fun t1325 => ((spec_DeltaSet.f k bt1312.1 bt1312.2).bind fun t1328 => ((laws_sameInts.f k t1325 t1328).bind fun t1331 => (laws_FnLengths.j0 k t1296 t1298 t1301 t1304 t1305 t1308 t1309 (!t1331) t1293)))) else (laws_FnLengths.j0 k t1296 t1298 t1301 t1304 t1305 t1308 t1309 true t1293)) else (laws_FnLengths.j0 k t1296 t1298 t1301 t1304 t1305 t1308 t1309 true t1293)) else (laws_FnLengths.j0 k t1296 t1298 t1301 t1304 t1305 t1308 t1309 true t1293)) else (laws_FnLengths.j0 k t1296 t1298 t1301 t1304 t1305 t1308 t1309 true t1293)) else (laws_FnLengths.j0 k t1296 t1298 t1301 t1304 t1305 t1308 t1309 true t1293)))) else (laws_FnLengths.j0 k t1296 t1298 t1301 t1304 t1305 t1308 t1309 true t1293))))) = some true := H
  replace H := ga H; obtain ⟨⟨t1312, t1315⟩, A11, H⟩ := H
  replace H : ((spec_LengthsOf.f k t1293 t1296).bind fun t1317 => ((laws_sameInts.f k t1298 t1317).bind fun t1320 => (if t1320 = true then ((spec_DeltaOf.f k t1293 t1296).bind fun t1321 => ((laws_sameInts.f k t1301 t1321).bind fun t1324 => (if t1324 = true then (if t1304 = t1306 then (if t1305 = t1307 then (if t1308 = t1310 then (if t1309 = t1311 then ((impl_DeltaSet.f k t1312 t1315).bind fun t1325 => ((spec_DeltaSet.f k t1312 t1315).bind fun t1328 => ((laws_sameInts.f k t1325 t1328).bind fun t1331 => (laws_FnLengths.j0 k t1296 t1298 t1301 t1304 t1305 t1308 t1309 (!t1331) t1293)))) else (laws_FnLengths.j0 k t1296 t1298 t1301 t1304 t1305 t1308 t1309 true t1293)) else (laws_FnLengths.j0 k t1296 t1298 t1301 t1304 t1305 t1308 t1309 true t1293)) else (laws_FnLengths.j0 k t1296 t1298 t1301 t1304 t1305 t1308 t1309 true t1293)) else (laws_FnLengths.j0 k t1296 t1298 t1301 t1304 t1305 t1308 t1309 true t1293)) else (laws_FnLengths.j0 k t1296 t1298 t1301 t1304 t1305 t1308 t1309 true t1293)))) else (laws_FnLengths.j0 k t1296 t1298 t1301 t1304 t1305 t1308 t1309 true t1293)))) = some true := H
  have HC12 := am H
  clear H
  go_enter Try.func9, Try.ntmps9
  go_upto_region 11 with (first | ((with_reducible refine gate_callee (f := 12) rfl ?_); refine gl (some 21) Try.func12 #[.slice A0 l0.length c0] ?_; (with_reducible refine (laws_big.calls _ _ l0 false _ ?side1 ?side2 A2.out).mono ?_); (case side1 => exact co HR0.out); (case side2 => exact HC0.out); rintro e w' ⟨rfl, ⟨nd, rfl⟩⟩; refine ⟨_, rfl, ?_⟩) | ((with_reducible refine gate_callee (f := 96) rfl ?_); refine gl (some 24) Try.func96 #[.slice A0 l0.length c0] ?_; (with_reducible refine (spec_DrawLengthsOf.calls k _ _ l0 t1293 t1296 _ ?side1 ?side2 A4.out).mono ?_); (case side1 => exact co HR0.out); (case side2 => exact HC0.out); rintro e w13 ⟨v1294, rfl, ho0, hb⟩; refine ⟨_, rfl, ?_⟩; have HO1295 := am (Kd.Q_lower ho0 (below_size bw)); replace HB := am (below_step bw hb); clear hb ho0) | ((with_reducible refine gate_dst (N := 3) rfl ?_); refine bx 3 #[.slice none 0 0] 26 ?_; intro gb1297 hg w14 hbox hb; replace HO1295 := am (Kd.Q_below (qo HO1295.out) hb); have BK1297 := am (hbox); have GW1297 := am (gs hg : w.heap.size ≤ gb1297); have GE1297 := GW1297; replace HB := am (below_step bw hb); clear hb hbox hg; obtain ⟨Ao15, co15, eo15, _⟩ := Kd.Q_slice HO1295.out; subst eo15; have hcz16_0 := bc BK1297 0 (.slice none 0 0); have hfz16_0 := blk_frozen BK1297.out 0) | ((with_reducible refine gate_callee (f := 97) rfl ?_); refine gl (some 29) Try.func97 #[.agg #[.slice Ao15 t1293.length co15], .int .i64 t1296] ?_; (with_reducible refine (impl_LengthsOf.calls k _ _ t1293 t1296 t1298 _ ?side1 ?side2 A5.out).mono ?_); (case side1 => refine (Kd.Q_reads' (e := 3) (base := w.heap.size) (ok := fun k_ => True) (n := t1293.length) (c := co15) ?_).2.2; exact (by (with_reducible repeat (first | apply Kd.Q_alloc | apply Kd.Q_drewN | apply Kd.Q_drew)); exact (Kd.Q_mono (Kd.Q_far (p := ⟨gb1297, 0, none⟩) (Kd.Q_types HO1295.out BK1297.out (by decide)) (fun _ hk => hk.2) (.slice Ao15 t1293.length co15)) (fun _ h_ => h_.1)))); (case side2 => exact (Kd.Q_reads' HO1295.out).2.1); rintro e w17 ⟨v1299, rfl, ho0, hb⟩; refine ⟨_, rfl, ?_⟩; have HO1300 := am (Kd.R_lower (Kd.R_new' ho0 (Kd.Q_lt (by (with_reducible repeat (first | apply Kd.Q_alloc | apply Kd.Q_drewN | apply Kd.Q_drew)); exact (Kd.Q_mono (Kd.Q_far (p := ⟨gb1297, 0, none⟩) (Kd.Q_types HO1295.out BK1297.out (by decide)) (fun _ hk => hk.2) (.slice Ao15 t1293.length co15)) (fun _ h_ => h_.1))))) (below_size bw)); replace HO1295 := am (Kd.Q_elder' (by (with_reducible repeat (first | apply Kd.Q_alloc | apply Kd.Q_drewN | apply Kd.Q_drew)); exact (Kd.Q_mono (Kd.Q_far (p := ⟨gb1297, 0, none⟩) (Kd.Q_types HO1295.out BK1297.out (by decide)) (fun _ hk => hk.2) (.slice Ao15 t1293.length co15)) (fun _ h_ => h_.1))) (Kd.R_base ho0) hb); replace BK1297 := am (blk_below (g := gb1297) (o := .cells #[.slice Ao15 t1293.length co15] 26 (0, 0)) (by (with_reducible repeat (first | refine blk_drewN ?_ _ | refine blk_drew ?_ | refine blk_alloc ?_ _)); refine blk_put (cs := #[.slice none 0 0]) ?_ 0 _ rfl; (with_reducible repeat (first | refine blk_drewN ?_ _ | refine blk_drew ?_ | refine blk_alloc ?_ _)); exact BK1297.out) hb); replace HB := am (below_step bw hb); clear hb ho0; have hcz18_0 := bc BK1297 0 (.slice Ao15 t1293.length co15); have hfz18_0 := blk_frozen BK1297.out 0) | ((with_reducible refine gate_callee (f := 98) rfl ?_); refine gl (some 32) Try.func98 #[.agg #[.slice Ao15 t1293.length co15], .int .i64 t1296] ?_; (with_reducible refine (impl_DeltaOf.calls k _ _ t1293 t1296 t1301 _ ?side1 ?side2 A6.out).mono ?_); (case side1 => exact co (Kd.Q_reads' HO1295.out).2.2); (case side2 => exact (Kd.Q_reads' HO1295.out).2.1); rintro e w19 ⟨v1302, rfl, ho0, hb⟩; refine ⟨_, rfl, ?_⟩; have HO1303 := am (Kd.R_lower (Kd.R_new' (Kd.R_new' ho0 (Kd.Q_lt (qo HO1295.out))) (Kd.R_lt (ro HO1300.out))) (below_size bw)); replace HO1295 := am (Kd.Q_elder' (qo HO1295.out) (Kd.R_base ho0) hb); replace HO1300 := am (Kd.R_elder' (ro HO1300.out) (Kd.R_base ho0) hb); replace BK1297 := kb BK1297 hb; replace HB := am (below_step bw hb); clear hb ho0; have hcz20_0 := bc BK1297 0 (.slice Ao15 t1293.length co15); have hfz20_0 := blk_frozen BK1297.out 0) | ((with_reducible refine gate_callee (f := 99) rfl ?_); refine gl (some 36) Try.func99 #[.agg #[.slice Ao15 t1293.length co15], .int .i64 t1296] ?_; (with_reducible refine (impl_ElasticityOf.calls k _ _ t1293 t1296 t1304 t1305 _ ?side1 ?side2 A7.out).mono ?_); (case side1 => exact co (Kd.Q_reads' HO1295.out).2.2); (case side2 => exact (Kd.Q_reads' HO1295.out).2.1); rintro e w21 ⟨rfl, hb⟩; refine ⟨_, rfl, ?_⟩; replace HO1295 := am (Kd.Q_below (qo HO1295.out) hb); replace HO1300 := am (Kd.R_below (ro HO1300.out) hb); replace HO1303 := am (Kd.R_below (ro HO1303.out) hb); replace BK1297 := kb BK1297 hb; replace HB := am (below_step bw hb); clear hb; have hcz22_0 := bc BK1297 0 (.slice Ao15 t1293.length co15); have hfz22_0 := blk_frozen BK1297.out 0) | ((with_reducible refine gate_callee (f := 100) rfl ?_); refine gl (some 42) Try.func100 #[.agg #[.slice Ao15 t1293.length co15], .int .i64 t1296] ?_; (with_reducible refine (spec_ElasticityOf.calls k _ _ t1293 t1296 t1306 t1307 _ ?side1 ?side2 A8.out).mono ?_); (case side1 => exact co (Kd.Q_reads' HO1295.out).2.2); (case side2 => exact (Kd.Q_reads' HO1295.out).2.1); rintro e w23 ⟨rfl, hb⟩; refine ⟨_, rfl, ?_⟩; replace HO1295 := am (Kd.Q_below (qo HO1295.out) hb); replace HO1300 := am (Kd.R_below (ro HO1300.out) hb); replace HO1303 := am (Kd.R_below (ro HO1303.out) hb); replace BK1297 := kb BK1297 hb; replace HB := am (below_step bw hb); clear hb; have hcz24_0 := bc BK1297 0 (.slice Ao15 t1293.length co15); have hfz24_0 := blk_frozen BK1297.out 0) | ((with_reducible refine gate_callee (f := 101) rfl ?_); refine gl (some 47) Try.func101 #[.agg #[.slice Ao15 t1293.length co15]] ?_; (with_reducible refine (impl_GreatestElasticity.calls k _ _ t1293 t1308 t1309 _ ?side1 ?side2 A9.out).mono ?_); (case side1 => exact co (Kd.Q_reads' HO1295.out).2.2); (case side2 => exact (Kd.Q_reads' HO1295.out).2.1); rintro e w25 ⟨rfl, hb⟩; refine ⟨_, rfl, ?_⟩; replace HO1295 := am (Kd.Q_below (qo HO1295.out) hb); replace HO1300 := am (Kd.R_below (ro HO1300.out) hb); replace HO1303 := am (Kd.R_below (ro HO1303.out) hb); replace BK1297 := kb BK1297 hb; replace HB := am (below_step bw hb); clear hb; have hcz26_0 := bc BK1297 0 (.slice Ao15 t1293.length co15); have hfz26_0 := blk_frozen BK1297.out 0) | ((with_reducible refine gate_callee (f := 102) rfl ?_); refine gl (some 52) Try.func102 #[.agg #[.slice Ao15 t1293.length co15]] ?_; (with_reducible refine (spec_GreatestElasticity.calls k _ _ t1293 t1310 t1311 _ ?side1 ?side2 A10.out).mono ?_); (case side1 => exact co (Kd.Q_reads' HO1295.out).2.2); (case side2 => exact (Kd.Q_reads' HO1295.out).2.1); rintro e w27 ⟨rfl, hb⟩; refine ⟨_, rfl, ?_⟩; replace HO1295 := am (Kd.Q_below (qo HO1295.out) hb); replace HO1300 := am (Kd.R_below (ro HO1300.out) hb); replace HO1303 := am (Kd.R_below (ro HO1303.out) hb); replace BK1297 := kb BK1297 hb; replace HB := am (below_step bw hb); clear hb) | ((with_reducible refine gate_callee (f := 103) rfl ?_); refine gl (some 57) Try.func103 #[.slice A0 l0.length c0] ?_; (with_reducible refine (spec_DrawDeltaSet.calls k _ _ l0 t1312 t1315 _ ?side1 ?side2 A11.out).mono ?_); (case side1 => exact co (Kd.C_below HR0.out HB.out)); (case side2 => exact HC0.out); rintro e w28 ⟨v1313, rfl, ho0, hb⟩; refine ⟨_, rfl, ?_⟩; have HO1314 := am (Kd.Q_lower (Kd.Q_new' (Kd.Q_new' (Kd.Q_new' ho0 (Kd.Q_lt (qo HO1295.out))) (Kd.R_lt (ro HO1300.out))) (Kd.R_lt (ro HO1303.out))) (below_size bw)); replace HO1295 := am (Kd.Q_elder' (qo HO1295.out) (Kd.Q_base ho0) hb); replace HO1300 := am (Kd.R_elder' (ro HO1300.out) (Kd.Q_base ho0) hb); replace HO1303 := am (Kd.R_elder' (ro HO1303.out) (Kd.Q_base ho0) hb); replace BK1297 := kb BK1297 hb; replace HB := am (below_step bw hb); clear hb ho0) | ((with_reducible refine gate_dst (N := 15) rfl ?_); refine bx 15 #[.slice none 0 0] 26 ?_; intro gb1316 hg w29 hbox hb; replace HO1295 := am (Kd.Q_below (qo HO1295.out) hb); replace HO1300 := am (Kd.R_below (ro HO1300.out) hb); replace HO1303 := am (Kd.R_below (ro HO1303.out) hb); replace HO1314 := am (Kd.Q_below (qo HO1314.out) hb); have BK1316 := am (hbox); have GW1316 := am (gs hg : w.heap.size ≤ gb1316); have GE1316 := GW1316; replace HB := am (below_step bw hb); have NB1297_1316 := nl hg BK1297; have NB1316_1297 := ns NB1297_1316; replace BK1297 := kb BK1297 hb; clear hb hbox hg; obtain ⟨Ao30, co30, eo30, _⟩ := Kd.Q_slice HO1314.out; subst eo30; have hnb31 := NB1316_1297.out; have hnc31 := NB1297_1316.out; have hcz32_0 := bc BK1316 0 (.slice none 0 0); have hfz32_0 := blk_frozen BK1316.out 0))
  (try simp only [Act.put, List.setIfInBounds_toArray, List.set_cons_zero, List.set_cons_succ])
  go_cut [103] (fun v103 wc => ∃ (kq : Nat) (x103_11 : Bool), v103 = .bool x103_11 ∧ Aside0 (laws_FnLengths.j0 kq t1296 t1298 t1301 t1304 t1305 t1308 t1309 x103_11 t1293 = some true) ∧ Aside0 (kq ≤ k) ∧ Aside0 (Kd.R (Kd.int .i64) 3 wc w.heap.size (fun k_ => some k_ ≠ (v1302 : Value).ownBlock ∧ some k_ ≠ ((.slice Ao15 t1293.length co15) : Value).ownBlock ∧ some k_ ≠ ((.slice Ao30 t1312.length co30) : Value).ownBlock) v1299 t1298) ∧ Aside0 (Kd.R (Kd.int .i64) 3 wc w.heap.size (fun k_ => some k_ ≠ (v1299 : Value).ownBlock ∧ some k_ ≠ ((.slice Ao15 t1293.length co15) : Value).ownBlock ∧ some k_ ≠ ((.slice Ao30 t1312.length co30) : Value).ownBlock) v1302 t1301) ∧ Aside0 (Kd.Q (Kd.int .i64) 3 wc w.heap.size (fun k_ => some k_ ≠ (v1299 : Value).ownBlock ∧ some k_ ≠ (v1302 : Value).ownBlock ∧ some k_ ≠ ((.slice Ao30 t1312.length co30) : Value).ownBlock) (.slice Ao15 t1293.length co15) t1293) ∧ Aside0 (Kd.Q (Kd.int .i64) 3 wc w.heap.size (fun k_ => some k_ ≠ (v1299 : Value).ownBlock ∧ some k_ ≠ (v1302 : Value).ownBlock ∧ some k_ ≠ ((.slice Ao15 t1293.length co15) : Value).ownBlock) (.slice Ao30 t1312.length co30) t1312) ∧ Aside0 (wc.heap[gb1297]? = some (.cells #[(.slice Ao15 t1293.length co15)] 26 (0, 0))) ∧ Aside0 (wc.heap[gb1316]? = some (.cells #[(.slice Ao30 t1312.length co30)] 26 (0, 0))) ∧ Aside0 (Below w.heap.size w wc))
  case first =>
   have H := HC12.out
   clear HC12
   replace H := ga H; obtain ⟨t1317, A33, H⟩ := H
   replace H := ga H; obtain ⟨t1320, A34, H⟩ := H
   by_cases c35 : t1320 = true
   ·subst c35
    have H1 : ((spec_DeltaOf.f k t1293 t1296).bind fun t1321 => ((laws_sameInts.f k t1301 t1321).bind fun t1324 => (if t1324 = true then (if t1304 = t1306 then (if t1305 = t1307 then (if t1308 = t1310 then (if t1309 = t1311 then ((impl_DeltaSet.f k t1312 t1315).bind fun t1325 => ((spec_DeltaSet.f k t1312 t1315).bind fun t1328 => ((laws_sameInts.f k t1325 t1328).bind fun t1331 => (laws_FnLengths.j0 k t1296 t1298 t1301 t1304 t1305 t1308 t1309 (!t1331) t1293)))) else (laws_FnLengths.j0 k t1296 t1298 t1301 t1304 t1305 t1308 t1309 true t1293)) else (laws_FnLengths.j0 k t1296 t1298 t1301 t1304 t1305 t1308 t1309 true t1293)) else (laws_FnLengths.j0 k t1296 t1298 t1301 t1304 t1305 t1308 t1309 true t1293)) else (laws_FnLengths.j0 k t1296 t1298 t1301 t1304 t1305 t1308 t1309 true t1293)) else (laws_FnLengths.j0 k t1296 t1298 t1301 t1304 t1305 t1308 t1309 true t1293)))) = some true := by rw [if_pos rfl] at H; exact H
    clear H
    have H := H1
    clear H1
    replace H := ga H; obtain ⟨t1321, A36, H⟩ := H
    replace H := ga H; obtain ⟨t1324, A37, H⟩ := H
    by_cases c38 : t1324 = true
    ·subst c38
     have H1 : (if t1304 = t1306 then (if t1305 = t1307 then (if t1308 = t1310 then (if t1309 = t1311 then ((impl_DeltaSet.f k t1312 t1315).bind fun t1325 => ((spec_DeltaSet.f k t1312 t1315).bind fun t1328 => ((laws_sameInts.f k t1325 t1328).bind fun t1331 => (laws_FnLengths.j0 k t1296 t1298 t1301 t1304 t1305 t1308 t1309 (!t1331) t1293)))) else (laws_FnLengths.j0 k t1296 t1298 t1301 t1304 t1305 t1308 t1309 true t1293)) else (laws_FnLengths.j0 k t1296 t1298 t1301 t1304 t1305 t1308 t1309 true t1293)) else (laws_FnLengths.j0 k t1296 t1298 t1301 t1304 t1305 t1308 t1309 true t1293)) else (laws_FnLengths.j0 k t1296 t1298 t1301 t1304 t1305 t1308 t1309 true t1293)) = some true := by rw [if_pos rfl] at H; exact H
     clear H
     have H := H1
     clear H1
     by_cases c39 : t1304 = t1306
     ·rw [if_pos c39] at H
      have c39b0 : (t1304 == t1306) = true := beq_iff_eq.mpr c39
      have c39b1 : (t1304 != t1306) = false := bne_eq_false_iff_eq.mpr c39
      clear c39
      (first | rw [c39b0] | (simp only [i64_w, i32_w]; rw [c39b0]) | skip)
      by_cases c40 : t1305 = t1307
      ·rw [if_pos c40] at H
       have c40b0 : (t1305 == t1307) = true := beq_iff_eq.mpr c40
       have c40b1 : (t1305 != t1307) = false := bne_eq_false_iff_eq.mpr c40
       clear c40
       by_cases c41 : t1308 = t1310
       ·rw [if_pos c41] at H
        have c41b0 : (t1308 == t1310) = true := beq_iff_eq.mpr c41
        have c41b1 : (t1308 != t1310) = false := bne_eq_false_iff_eq.mpr c41
        clear c41
        by_cases c42 : t1309 = t1311
        ·rw [if_pos c42] at H
         have c42b0 : (t1309 == t1311) = true := beq_iff_eq.mpr c42
         have c42b1 : (t1309 != t1311) = false := bne_eq_false_iff_eq.mpr c42
         clear c42
         replace H := ga H; obtain ⟨t1325, A43, H⟩ := H
         replace H := ga H; obtain ⟨t1328, A44, H⟩ := H
         replace H := ga H; obtain ⟨t1331, A45, H⟩ := H
         have H' := am H
         clear H
         try go_wp2
         have n0_ : Aside0 (Kd.Q (Kd.int .i64) 3 (w29.setCell ⟨gb1316, 0, none⟩ (.slice Ao30 t1312.length co30)) w.heap.size (fun k_ => some k_ ≠ (v1299 : Value).ownBlock ∧ some k_ ≠ (v1302 : Value).ownBlock ∧ some k_ ≠ (.slice Ao30 t1312.length co30 : Value).ownBlock) (.slice Ao15 t1293.length co15) t1293) := ⟨by (with_reducible repeat (first | apply Kd.Q_alloc | apply Kd.Q_drewN | apply Kd.Q_drew)); exact Kd.Q_mono (Kd.Q_far (p := ⟨gb1316, 0, none⟩) (Kd.Q_types HO1295.out BK1316.out (by decide)) (fun _ hk => hk.2) (.slice Ao30 t1312.length co30)) (fun _ hk => ⟨hk.1.1.1.2, ⟨hk.1.1.2, hk.1.2⟩⟩)⟩
         have n1_ : Aside0 (Kd.R (Kd.int .i64) 3 (w29.setCell ⟨gb1316, 0, none⟩ (.slice Ao30 t1312.length co30)) w.heap.size (fun k_ => some k_ ≠ (.slice Ao15 t1293.length co15 : Value).ownBlock ∧ some k_ ≠ (v1302 : Value).ownBlock ∧ some k_ ≠ (.slice Ao30 t1312.length co30 : Value).ownBlock) v1299 t1298) := ⟨by (with_reducible repeat (first | apply Kd.R_alloc | apply Kd.R_drewN | apply Kd.R_drew)); exact Kd.R_mono (Kd.R_far (p := ⟨gb1316, 0, none⟩) (Kd.R_types HO1300.out BK1316.out (by decide)) (fun _ hk => hk.2) (.slice Ao30 t1312.length co30)) (fun _ hk => ⟨hk.1.1.1.2, ⟨hk.1.1.2, hk.1.2⟩⟩)⟩
         have n2_ : Aside0 (Kd.R (Kd.int .i64) 3 (w29.setCell ⟨gb1316, 0, none⟩ (.slice Ao30 t1312.length co30)) w.heap.size (fun k_ => some k_ ≠ (.slice Ao15 t1293.length co15 : Value).ownBlock ∧ some k_ ≠ (v1299 : Value).ownBlock ∧ some k_ ≠ (.slice Ao30 t1312.length co30 : Value).ownBlock) v1302 t1301) := ⟨by (with_reducible repeat (first | apply Kd.R_alloc | apply Kd.R_drewN | apply Kd.R_drew)); exact Kd.R_mono (Kd.R_far (p := ⟨gb1316, 0, none⟩) (Kd.R_types HO1303.out BK1316.out (by decide)) (fun _ hk => hk.2) (.slice Ao30 t1312.length co30)) (fun _ hk => ⟨hk.1.1.1.2, ⟨hk.1.1.2, hk.1.2⟩⟩)⟩
         have n3_ : Aside0 (Kd.Q (Kd.int .i64) 3 (w29.setCell ⟨gb1316, 0, none⟩ (.slice Ao30 t1312.length co30)) w.heap.size (fun k_ => some k_ ≠ (.slice Ao15 t1293.length co15 : Value).ownBlock ∧ some k_ ≠ (v1299 : Value).ownBlock ∧ some k_ ≠ (v1302 : Value).ownBlock) (.slice Ao30 t1312.length co30) t1312) := ⟨by (with_reducible repeat (first | apply Kd.Q_alloc | apply Kd.Q_drewN | apply Kd.Q_drew)); exact Kd.Q_mono (Kd.Q_far (p := ⟨gb1316, 0, none⟩) (Kd.Q_types HO1314.out BK1316.out (by decide)) (fun _ hk => hk.2) (.slice Ao30 t1312.length co30)) (fun _ hk => ⟨hk.1.1.1.2, ⟨hk.1.1.2, hk.1.2⟩⟩)⟩
         have n4_ : Aside0 ((w29.setCell ⟨gb1316, 0, none⟩ (.slice Ao30 t1312.length co30)).heap[gb1297]? = some (.cells #[.slice Ao15 t1293.length co15] 26 (0, 0))) := ⟨bf BK1297.out⟩
         have n5_ : Aside0 ((w29.setCell ⟨gb1316, 0, none⟩ (.slice Ao30 t1312.length co30)).heap[gb1316]? = some (.cells #[.slice Ao30 t1312.length co30] 26 (0, 0))) := ⟨by (with_reducible repeat (first | refine blk_drewN ?_ _ | refine blk_drew ?_ | refine blk_alloc ?_ _)); refine blk_put (cs := #[.slice none 0 0]) ?_ 0 _ rfl; (with_reducible repeat (first | refine blk_drewN ?_ _ | refine blk_drew ?_ | refine blk_alloc ?_ _)); exact BK1316.out⟩
         have n6_ : Aside0 (Below w.heap.size w (w29.setCell ⟨gb1316, 0, none⟩ (.slice Ao30 t1312.length co30))) := ⟨bw⟩
         (try clear HO1295); (try clear HO1300); (try clear HO1303); (try clear HO1314); (try clear BK1297); (try clear BK1316); (try clear HB)
         generalize (w29.setCell ⟨gb1316, 0, none⟩ (.slice Ao30 t1312.length co30)) = w46 at n0_ n1_ n2_ n3_ n4_ n5_ n6_ ⊢
         have HO1295 := n0_
         have HO1300 := n1_
         have HO1303 := n2_
         have HO1314 := n3_
         have BK1297 := n4_
         have BK1316 := n5_
         have HB := n6_
         clear n0_ n1_ n2_ n3_ n4_ n5_ n6_
         replace HO1295 := am (Kd.Q_drew HO1295.out)
         replace HO1300 := am (Kd.R_drew HO1300.out)
         replace HO1303 := am (Kd.R_drew HO1303.out)
         replace HO1314 := am (Kd.Q_drew HO1314.out)
         replace BK1297 := am (blk_drew BK1297.out)
         replace BK1316 := am (blk_drew BK1316.out)
         replace HB := am (below_drew1 HB.out)
         refine start_ (n := 44) (S := fun w' => w'.cell? ⟨gb1297, 0, none⟩ = some (.slice Ao15 t1293.length co15) ∧ w'.cell? ⟨gb1316, 0, none⟩ = some (.slice Ao30 t1312.length co30)) (ds := []) (yz 44 0) (by kernel_rfl) rfl rfl ⟨(blk_cell BK1297.out 0).trans rfl, (blk_cell BK1316.out 0).trans rfl⟩ (fun hHeld => ?_); refine with_tabW laws_FnLengths.tab11 laws_FnLengths.bits11 (fun HT_ HW_ => ?_)
         generalize w46.drew = w47 at HO1295 HO1300 HO1303 HO1314 BK1297 BK1316 HB hHeld ⊢
         refine pa 0 (some 60) (yz 44 1) HT_ ?_
         refine pa 2 (some 62) (yz 44 5) HT_ ?_
         refine take_ (i := 1) (N := some 61) (v := ?_) (a' := ?_) (yz 44 7) rfl rfl (take_ofW HT_.out HW_.out (by kernel_rfl)) (fun _ _ _ h => h) (Or.inl ⟨by rfl, ?_⟩) hHeld ?_ ?_
         rotate_left
         ·rintro w' ⟨s0, s1⟩
          go_simp
          with_reducible rfl
         rotate_left
         ·simp only [Act.put, qa, qb, qc, i64_w, i32_w]
          rfl
         refine oa 3 (some 63) (yz 44 15) HT_ (fun K hK => ?_)
         refine gm Try.func104 #[.agg #[.slice Ao15 t1293.length co15], .int .i64 t1296] ?_
         with_reducible refine (spec_LengthsOf.calls k _ _ t1293 t1296 t1317 _ ?side1 ?side2 A33.out).mono ?_
         (case side1 => exact co (Kd.Q_reads' HO1295.out).2.2)
         (case side2 => exact (Kd.Q_reads' HO1295.out).2.1)
         rintro e w48 ⟨v1318, rfl, ho0, hb⟩
         refine ⟨_, rfl, ?_⟩
         have HO1319 := am (Kd.R_lower (Kd.R_new' (Kd.R_new' (Kd.R_new' (Kd.R_new' ho0 (Kd.Q_lt (qo HO1295.out))) (Kd.R_lt (ro HO1300.out))) (Kd.R_lt (ro HO1303.out))) (Kd.Q_lt (qo HO1314.out))) (below_size bw))
         replace HO1295 := am (Kd.Q_elder' (qo HO1295.out) (Kd.R_base ho0) hb)
         replace HO1300 := am (Kd.R_elder' (ro HO1300.out) (Kd.R_base ho0) hb)
         replace HO1303 := am (Kd.R_elder' (ro HO1303.out) (Kd.R_base ho0) hb)
         replace HO1314 := am (Kd.Q_elder' (qo HO1314.out) (Kd.R_base ho0) hb)
         replace BK1297 := kb BK1297 hb
         replace BK1316 := kb BK1316 hb
         replace HB := am (below_step bw hb)
         clear hb ho0
         obtain ⟨Ao49, co49, eo49⟩ := Kd.R_slice HO1300.out
         (first | subst eo49 | (injection eo49 with f1_ f2_ f3_; have f4_ := f1_.symm; have f5_ := f3_.symm; clear f1_ f2_ f3_; subst f4_; subst f5_))
         obtain ⟨Ao50, co50, eo50⟩ := Kd.R_slice HO1319.out
         (first | subst eo50 | (injection eo50 with f1_ f2_ f3_; have f4_ := f1_.symm; have f5_ := f3_.symm; clear f1_ f2_ f3_; subst f4_; subst f5_))
         refine hK.out _ _ ⟨(blk_cell BK1297.out 0).trans rfl, (blk_cell BK1316.out 0).trans rfl⟩ (fun hHeld => ?_)
         clear hK K
         refine norm_ (a' := ?_) ?_ ?_
         rotate_left
         ·show Act.put _ (some 63) _ = _
          simp only [Act.put, qa, qb, qc, i64_w, i32_w]
          rfl
         refine oa 4 (some 64) (yz 44 31) HT_ (fun K hK => ?_)
         refine gm Try.func20 #[.slice Ao49 t1298.length co49, .slice Ao50 t1317.length co50] ?_
         with_reducible refine (laws_sameInts.calls k _ _ t1298 _ _ t1317 true _ ?side1 ?side2 ?side3 ?side4 A34.out).mono ?_
         (case side1 => exact co (Kd.R_reads' HO1300.out).2.2)
         (case side2 => exact (Kd.R_reads' HO1300.out).2.1)
         (case side3 => exact co (Kd.R_reads' HO1319.out).2.2)
         (case side4 => exact (Kd.R_reads' HO1319.out).2.1)
         rintro e w' ⟨rfl, ⟨nd, rfl⟩⟩
         refine ⟨_, rfl, ?_⟩
         refine hK.out _ _ ⟨(blk_cell BK1297.out 0).trans rfl, (blk_cell BK1316.out 0).trans rfl⟩ (fun hHeld => ?_)
         clear hK K
         refine norm_ (a' := ?_) ?_ ?_
         rotate_left
         ·show Act.put _ (some 64) _ = _
          simp only [Act.put, qa, qb, qc, i64_w, i32_w]
          rfl
         refine pa 5 (some 65) (yz 44 63) HT_ ?_
         refine pa 6 (some 66) (yz 44 127) HT_ ?_
         refine pa 7 (some 67) (yz 44 255) HT_ ?_
         refine pa 9 (some 69) (yz 44 767) HT_ ?_
         refine take_ (i := 8) (N := some 68) (v := ?_) (a' := ?_) (yz 44 1023) rfl rfl (take_ofW HT_.out HW_.out (by kernel_rfl)) (fun _ _ _ h => h) (Or.inl ⟨by rfl, ?_⟩) hHeld ?_ ?_
         rotate_left
         ·rintro w' ⟨s0, s1⟩
          go_simp
          with_reducible rfl
         rotate_left
         ·simp only [Act.put, qa, qb, qc, i64_w, i32_w]
          rfl
         refine oa 10 (some 70) (yz 44 2047) HT_ (fun K hK => ?_)
         refine gm Try.func67 #[.agg #[.slice Ao15 t1293.length co15], .int .i64 t1296] ?_
         with_reducible refine (spec_DeltaOf.calls k _ _ t1293 t1296 t1321 _ ?side1 ?side2 A36.out).mono ?_
         (case side1 => exact co (Kd.Q_reads' HO1295.out).2.2)
         (case side2 => exact (Kd.Q_reads' HO1295.out).2.1)
         rintro e w51 ⟨v1322, rfl, ho0, hb⟩
         refine ⟨_, rfl, ?_⟩
         have HO1323 := am (Kd.R_lower (Kd.R_new' (Kd.R_new' (Kd.R_new' (Kd.R_new' (Kd.R_new' ho0 (Kd.Q_lt (qo HO1295.out))) (Kd.R_lt (ro HO1300.out))) (Kd.R_lt (ro HO1303.out))) (Kd.Q_lt (qo HO1314.out))) (Kd.R_lt (ro HO1319.out))) (below_size bw))
         replace HO1295 := am (Kd.Q_elder' (qo HO1295.out) (Kd.R_base ho0) hb)
         replace HO1300 := am (Kd.R_elder' (ro HO1300.out) (Kd.R_base ho0) hb)
         replace HO1303 := am (Kd.R_elder' (ro HO1303.out) (Kd.R_base ho0) hb)
         replace HO1314 := am (Kd.Q_elder' (qo HO1314.out) (Kd.R_base ho0) hb)
         replace HO1319 := am (Kd.R_elder' (ro HO1319.out) (Kd.R_base ho0) hb)
         replace BK1297 := kb BK1297 hb
         replace BK1316 := kb BK1316 hb
         replace HB := am (below_step bw hb)
         clear hb ho0
         obtain ⟨Ao52, co52, eo52⟩ := Kd.R_slice HO1303.out
         (first | subst eo52 | (injection eo52 with f1_ f2_ f3_; have f4_ := f1_.symm; have f5_ := f3_.symm; clear f1_ f2_ f3_; subst f4_; subst f5_))
         obtain ⟨Ao53, co53, eo53⟩ := Kd.R_slice HO1323.out
         (first | subst eo53 | (injection eo53 with f1_ f2_ f3_; have f4_ := f1_.symm; have f5_ := f3_.symm; clear f1_ f2_ f3_; subst f4_; subst f5_))
         refine hK.out _ _ ⟨(blk_cell BK1297.out 0).trans rfl, (blk_cell BK1316.out 0).trans rfl⟩ (fun hHeld => ?_)
         clear hK K
         refine norm_ (a' := ?_) ?_ ?_
         rotate_left
         ·show Act.put _ (some 70) _ = _
          simp only [Act.put, qa, qb, qc, i64_w, i32_w]
          rfl
         refine oa 11 (some 71) (yz 44 4095) HT_ (fun K hK => ?_)
         refine gm Try.func20 #[.slice Ao52 t1301.length co52, .slice Ao53 t1321.length co53] ?_
         with_reducible refine (laws_sameInts.calls k _ _ t1301 _ _ t1321 true _ ?side1 ?side2 ?side3 ?side4 A37.out).mono ?_
         (case side1 => exact co (Kd.R_reads' HO1303.out).2.2)
         (case side2 => exact (Kd.R_reads' HO1303.out).2.1)
         (case side3 => exact co (Kd.R_reads' HO1323.out).2.2)
         (case side4 => exact (Kd.R_reads' HO1323.out).2.1)
         rintro e w' ⟨rfl, ⟨nd, rfl⟩⟩
         refine ⟨_, rfl, ?_⟩
         refine hK.out _ _ ⟨(blk_cell BK1297.out 0).trans rfl, (blk_cell BK1316.out 0).trans rfl⟩ (fun hHeld => ?_)
         clear hK K
         refine norm_ (a' := ?_) ?_ ?_
         rotate_left
         ·show Act.put _ (some 71) _ = _
          simp only [Act.put, qa, qb, qc, i64_w, i32_w]
          rfl
         refine pa 12 (some 72) (yz 44 8191) HT_ ?_
         refine pa 13 (some 73) (yz 44 16383) HT_ ?_
         refine pa 14 (some 74) (yz 44 32767) HT_ ?_
         refine pa 15 (some 75) (yz 44 65535) HT_ ?_
         refine pa 16 (some 76) (yz 44 131071) HT_ ?_
         refine pa 17 (some 77) (yz 44 262143) HT_ ?_
         refine pa 18 (some 78) (yz 44 524287) HT_ ?_
         refine pa 19 (some 79) (yz 44 1048575) HT_ ?_
         refine pa 20 (some 80) (yz 44 2097151) HT_ ?_
         refine pa 21 (some 81) (yz 44 4194303) HT_ ?_
         refine pa 22 (some 82) (yz 44 8388607) HT_ ?_
         refine pa 23 (some 83) (yz 44 16777215) HT_ ?_
         refine pa 24 (some 84) (yz 44 33554431) HT_ ?_
         refine pa 25 (some 85) (yz 44 67108863) HT_ ?_
         refine pa 26 (some 86) (yz 44 134217727) HT_ ?_
         refine pa 27 (some 87) (yz 44 268435455) HT_ ?_
         refine pa 28 (some 88) (yz 44 536870911) HT_ ?_
         refine pa 29 (some 89) (yz 44 1073741823) HT_ ?_
         refine pa 30 (some 90) (yz 44 2147483647) HT_ ?_
         refine pa 31 (some 91) (yz 44 4294967295) HT_ ?_
         refine pa 32 (some 92) (yz 44 8589934591) HT_ ?_
         refine pa 33 (some 93) (yz 44 17179869183) HT_ ?_
         refine pa 34 (some 94) (yz 44 34359738367) HT_ ?_
         refine pa 36 (some 96) (yz 44 103079215103) HT_ ?_
         refine pa 39 (some 99) (yz 44 652835028991) HT_ ?_
         refine take_ (i := 35) (N := some 95) (v := ?_) (a' := ?_) (yz 44 687194767359) rfl rfl (take_ofW HT_.out HW_.out (by kernel_rfl)) (fun _ _ _ h => h) (Or.inl ⟨by rfl, ?_⟩) hHeld ?_ ?_
         rotate_left
         ·rintro w' ⟨s0, s1⟩
          go_simp
          with_reducible rfl
         rotate_left
         ·simp only [Act.put, qa, qb, qc, i64_w, i32_w]
          rfl
         refine take_ (i := 38) (N := some 98) (v := ?_) (a' := ?_) (yz 44 962072674303) rfl rfl (take_ofW HT_.out HW_.out (by kernel_rfl)) (fun _ _ _ h => h) (Or.inl ⟨by rfl, ?_⟩) hHeld ?_ ?_
         rotate_left
         ·rintro w' ⟨s0, s1⟩
          go_simp
          with_reducible rfl
         rotate_left
         ·simp only [Act.put, qa, qb, qc, i64_w, i32_w]
          rfl
         refine oa 37 (some 97) (yz 44 1099511627775) HT_ (fun K hK => ?_)
         refine gm Try.func105 #[.agg #[.slice Ao30 t1312.length co30], .int .i64 t1315] ?_
         with_reducible refine (impl_DeltaSet.calls k _ _ t1312 t1315 t1325 _ ?side1 ?side2 A43.out).mono ?_
         (case side1 => exact co (Kd.Q_reads' HO1314.out).2.2)
         (case side2 => exact (Kd.Q_reads' HO1314.out).2.1)
         rintro e w54 ⟨v1326, rfl, ho0, hb⟩
         refine ⟨_, rfl, ?_⟩
         have HO1327 := am (Kd.R_lower (Kd.R_new' (Kd.R_new' (Kd.R_new' (Kd.R_new' (Kd.R_new' (Kd.R_new' ho0 (Kd.Q_lt (qo HO1295.out))) (Kd.R_lt (ro HO1300.out))) (Kd.R_lt (ro HO1303.out))) (Kd.Q_lt (qo HO1314.out))) (Kd.R_lt (ro HO1319.out))) (Kd.R_lt (ro HO1323.out))) (below_size bw))
         replace HO1295 := am (Kd.Q_elder' (qo HO1295.out) (Kd.R_base ho0) hb)
         replace HO1300 := am (Kd.R_elder' (ro HO1300.out) (Kd.R_base ho0) hb)
         replace HO1303 := am (Kd.R_elder' (ro HO1303.out) (Kd.R_base ho0) hb)
         replace HO1314 := am (Kd.Q_elder' (qo HO1314.out) (Kd.R_base ho0) hb)
         replace HO1319 := am (Kd.R_elder' (ro HO1319.out) (Kd.R_base ho0) hb)
         replace HO1323 := am (Kd.R_elder' (ro HO1323.out) (Kd.R_base ho0) hb)
         replace BK1297 := kb BK1297 hb
         replace BK1316 := kb BK1316 hb
         replace HB := am (below_step bw hb)
         clear hb ho0
         refine hK.out _ _ ⟨(blk_cell BK1297.out 0).trans rfl, (blk_cell BK1316.out 0).trans rfl⟩ (fun hHeld => ?_)
         clear hK K
         refine norm_ (a' := ?_) ?_ ?_
         rotate_left
         ·show Act.put _ (some 97) _ = _
          simp only [Act.put, qa, qb, qc, i64_w, i32_w]
          rfl
         refine oa 40 (some 100) (yz 44 2199023255551) HT_ (fun K hK => ?_)
         refine gm Try.func106 #[.agg #[.slice Ao30 t1312.length co30], .int .i64 t1315] ?_
         with_reducible refine (spec_DeltaSet.calls k _ _ t1312 t1315 t1328 _ ?side1 ?side2 A44.out).mono ?_
         (case side1 => exact co (Kd.Q_reads' HO1314.out).2.2)
         (case side2 => exact (Kd.Q_reads' HO1314.out).2.1)
         rintro e w55 ⟨v1329, rfl, ho0, hb⟩
         refine ⟨_, rfl, ?_⟩
         have HO1330 := am (Kd.R_lower (Kd.R_new' (Kd.R_new' (Kd.R_new' (Kd.R_new' (Kd.R_new' (Kd.R_new' (Kd.R_new' ho0 (Kd.Q_lt (qo HO1295.out))) (Kd.R_lt (ro HO1300.out))) (Kd.R_lt (ro HO1303.out))) (Kd.Q_lt (qo HO1314.out))) (Kd.R_lt (ro HO1319.out))) (Kd.R_lt (ro HO1323.out))) (Kd.R_lt (ro HO1327.out))) (below_size bw))
         replace HO1295 := am (Kd.Q_elder' (qo HO1295.out) (Kd.R_base ho0) hb)
         replace HO1300 := am (Kd.R_elder' (ro HO1300.out) (Kd.R_base ho0) hb)
         replace HO1303 := am (Kd.R_elder' (ro HO1303.out) (Kd.R_base ho0) hb)
         replace HO1314 := am (Kd.Q_elder' (qo HO1314.out) (Kd.R_base ho0) hb)
         replace HO1319 := am (Kd.R_elder' (ro HO1319.out) (Kd.R_base ho0) hb)
         replace HO1323 := am (Kd.R_elder' (ro HO1323.out) (Kd.R_base ho0) hb)
         replace HO1327 := am (Kd.R_elder' (ro HO1327.out) (Kd.R_base ho0) hb)
         replace BK1297 := kb BK1297 hb
         replace BK1316 := kb BK1316 hb
         replace HB := am (below_step bw hb)
         clear hb ho0
         obtain ⟨Ao56, co56, eo56⟩ := Kd.R_slice HO1327.out
         (first | subst eo56 | (injection eo56 with f1_ f2_ f3_; have f4_ := f1_.symm; have f5_ := f3_.symm; clear f1_ f2_ f3_; subst f4_; subst f5_))
         obtain ⟨Ao57, co57, eo57⟩ := Kd.R_slice HO1330.out
         (first | subst eo57 | (injection eo57 with f1_ f2_ f3_; have f4_ := f1_.symm; have f5_ := f3_.symm; clear f1_ f2_ f3_; subst f4_; subst f5_))
         refine hK.out _ _ ⟨(blk_cell BK1297.out 0).trans rfl, (blk_cell BK1316.out 0).trans rfl⟩ (fun hHeld => ?_)
         clear hK K
         refine norm_ (a' := ?_) ?_ ?_
         rotate_left
         ·show Act.put _ (some 100) _ = _
          simp only [Act.put, qa, qb, qc, i64_w, i32_w]
          rfl
         refine oa 41 (some 101) (yz 44 4398046511103) HT_ (fun K hK => ?_)
         refine gm Try.func20 #[.slice Ao56 t1325.length co56, .slice Ao57 t1328.length co57] ?_
         with_reducible refine (laws_sameInts.calls k _ _ t1325 _ _ t1328 t1331 _ ?side1 ?side2 ?side3 ?side4 A45.out).mono ?_
         (case side1 => exact co (Kd.R_reads' HO1327.out).2.2)
         (case side2 => exact (Kd.R_reads' HO1327.out).2.1)
         (case side3 => exact co (Kd.R_reads' HO1330.out).2.2)
         (case side4 => exact (Kd.R_reads' HO1330.out).2.1)
         rintro e w' ⟨rfl, ⟨nd, rfl⟩⟩
         refine ⟨_, rfl, ?_⟩
         refine hK.out _ _ ⟨(blk_cell BK1297.out 0).trans rfl, (blk_cell BK1316.out 0).trans rfl⟩ (fun hHeld => ?_)
         clear hK K
         refine norm_ (a' := ?_) ?_ ?_
         rotate_left
         ·show Act.put _ (some 101) _ = _
          simp only [Act.put, qa, qb, qc, i64_w, i32_w]
          rfl
         refine pa 42 (some 102) (yz 44 8796093022207) HT_ ?_
         refine pa 43 (some 103) (yz 44 17592186044415) HT_ ?_
         refine done_ (done_of HT_.out (by kernel_rfl)) ?_
         try go_wp2
         go_meet
         case rel => exact ⟨_, (!t1331), rr, H', ⟨om⟩, ⟨by (with_reducible repeat (first | apply Kd.R_alloc | apply Kd.R_drewN | apply Kd.R_drew)); exact Kd.R_mono HO1300.out (fun _ hk => ⟨hk.1.1.1.1.2.1, ⟨hk.1.1.1.1.1, hk.1.1.1.1.2.2⟩⟩)⟩, ⟨by (with_reducible repeat (first | apply Kd.R_alloc | apply Kd.R_drewN | apply Kd.R_drew)); exact Kd.R_mono HO1303.out (fun _ hk => ⟨hk.1.1.1.1.2.1, ⟨hk.1.1.1.1.1, hk.1.1.1.1.2.2⟩⟩)⟩, ⟨by (with_reducible repeat (first | apply Kd.Q_alloc | apply Kd.Q_drewN | apply Kd.Q_drew)); exact Kd.Q_mono HO1295.out (fun _ hk => ⟨hk.1.1.1.1.1, ⟨hk.1.1.1.1.2.1, hk.1.1.1.1.2.2⟩⟩)⟩, ⟨by (with_reducible repeat (first | apply Kd.Q_alloc | apply Kd.Q_drewN | apply Kd.Q_drew)); exact Kd.Q_mono HO1314.out (fun _ hk => ⟨hk.1.1.1.1.2.1, ⟨hk.1.1.1.1.2.2, hk.1.1.1.1.1⟩⟩)⟩, ⟨bo BK1297.out⟩, ⟨bo BK1316.out⟩, ⟨bw⟩⟩
        ·rw [if_neg c42] at H
         exact absurd H (laws_FnLengths.j0_no)
       ·rw [if_neg c41] at H
        exact absurd H (laws_FnLengths.j0_no)
      ·rw [if_neg c40] at H
       exact absurd H (laws_FnLengths.j0_no)
     ·rw [if_neg c39] at H
      exact absurd H (laws_FnLengths.j0_no)
    ·replace c38 := Bool.eq_false_iff.mpr c38
     subst c38
     exact absurd H (laws_FnLengths.j0_no)
   ·replace c35 := Bool.eq_false_iff.mpr c35
    subst c35
    exact absurd H (laws_FnLengths.j0_no)
  case rest =>
   clear HC12
   try clear c3; try clear c35
   obtain ⟨kq, x103_11, rfl, HA, HJ11, HO_5, HO_6, HO_1298000, HO_1317000, BK1297, BK1316, HB⟩ := hcut
   cases kq with
   | zero => exact absurd HA.out (by simp [laws_FnLengths.j0])
   | succ kj11 =>
    have H := HA.out
    clear HA
    simp only [laws_FnLengths.j0] at H
    replace H := gb H; obtain ⟨rfl, H⟩ | ⟨rfl, H⟩ := H
    ·exact absurd (Option.some.inj H) (by decide)
    ·by_cases c104 : (t1298.length : Int) = 0
     ·rw [if_pos c104] at H
      have c104b0 : ((t1298.length : Int) == 0) = true := beq_iff_eq.mpr c104
      have c104b1 : ((t1298.length : Int) != 0) = false := bne_eq_false_iff_eq.mpr c104
      clear c104
      have HRE_ := Option.some.inj H
      obtain ⟨Ao105, co105, eo105⟩ := Kd.R_slice HO_5.out
      subst eo105
      obtain ⟨Ao106, co106, eo106⟩ := Kd.R_slice HO_6.out
      subst eo106
      go_wp2
      go_ret
      exact ⟨re, bw⟩
     ·rw [if_neg c104] at H
      have c104b0 : ((t1298.length : Int) == 0) = false := beq_eq_false_iff_ne.mpr c104
      have c104b1 : ((t1298.length : Int) != 0) = true := bne_iff_ne.mpr c104
      have c104b2 : ¬ (t1298 = []) := fun h_ => c104 (by rw [h_]; rfl)
      have H' := am H
      clear H
      obtain ⟨Ao107, co107, eo107⟩ := Kd.R_slice HO_5.out
      subst eo107
      go_wp2
      go_loopg [17, 18] kj11 (fun kq v17 v18 w' => ∃ (x17_2 : Int) (x18_2 : Int), v17 = .int .i64 x17_2 ∧ v18 = .int .i64 x18_2 ∧ Aside0 (laws_FnLengths.l0 kq t1296 t1301 t1304 t1305 t1308 t1309 x17_2 x18_2 t1293 = some true) ∧ Aside0 (kq ≤ kj11) ∧ Aside0 (Kd.R (Kd.int .i64) 3 w' w.heap.size (fun k_ => some k_ ≠ ((.slice Ao15 t1293.length co15) : Value).ownBlock ∧ some k_ ≠ ((.slice Ao30 t1312.length co30) : Value).ownBlock) v1302 t1301) ∧ Aside0 (Kd.Q (Kd.int .i64) 3 w' w.heap.size (fun k_ => some k_ ≠ (v1302 : Value).ownBlock ∧ some k_ ≠ ((.slice Ao30 t1312.length co30) : Value).ownBlock) (.slice Ao15 t1293.length co15) t1293) ∧ Aside0 (Kd.Q (Kd.int .i64) 3 w' w.heap.size (fun k_ => some k_ ≠ (v1302 : Value).ownBlock ∧ some k_ ≠ ((.slice Ao15 t1293.length co15) : Value).ownBlock) (.slice Ao30 t1312.length co30) t1312) ∧ Aside0 (w'.heap[gb1297]? = some (.cells #[(.slice Ao15 t1293.length co15)] 26 (0, 0))) ∧ Aside0 (w'.heap[gb1316]? = some (.cells #[(.slice Ao30 t1312.length co30)] 26 (0, 0))) ∧ Aside0 (Below w.heap.size w w'))
      case atStart => exact ⟨(0), (1), rr, rr, H', ⟨Nat.le_refl _⟩, ⟨by (with_reducible repeat (first | apply Kd.R_alloc | apply Kd.R_drewN | apply Kd.R_drew)); exact Kd.R_mono HO_6.out (fun _ hk => by first | exact ⟨hk.2.1, hk.2.2⟩ | simp_all)⟩, ⟨by (with_reducible repeat (first | apply Kd.Q_alloc | apply Kd.Q_drewN | apply Kd.Q_drew)); exact Kd.Q_mono HO_1298000.out (fun _ hk => by first | exact ⟨hk.2.1, hk.2.2⟩ | simp_all)⟩, ⟨by (with_reducible repeat (first | apply Kd.Q_alloc | apply Kd.Q_drewN | apply Kd.Q_drew)); exact Kd.Q_mono HO_1317000.out (fun _ hk => by first | exact ⟨hk.2.1, hk.2.2⟩ | simp_all)⟩, ⟨bo BK1297.out⟩, ⟨bo BK1316.out⟩, ⟨bw⟩⟩
      case round =>
       clear H'
       try clear c3; try clear c35; try clear c104; try clear c104b0; try clear c104b1; try clear c104b2
       obtain ⟨x17_2, x18_2, rfl, rfl, HA, HK2, HO_6, HO_1298000, HO_1317000, BK1297, BK1316, HB⟩ := hrel
       cases gk with
       | zero => exact absurd HA.out (by simp [laws_FnLengths.l0])
       | succ k2 =>
        have H := HA.out
        clear HA
        simp only [laws_FnLengths.l0] at H
        replace H := gi H; obtain ⟨c108b0, H⟩ | ⟨c108b0, H⟩ := H
        ·replace H := gd H; obtain ⟨c109b0, H⟩ := H
         obtain ⟨ji110, hji110⟩ : ∃ j_ : Int, (wrap64 (x18_2 - 1)) = j_ := ⟨_, rfl⟩
         replace H : (if 0 ≤ (ji110) then (if (ji110) < (t1293.length : Int) then ((spec_GcdOf.f k2 x17_2 (wrap64 ((rd t1293 x18_2) - (rd t1293 (ji110))))).bind fun t1334 => (laws_FnLengths.l0 k2 t1296 t1301 t1304 t1305 t1308 t1309 t1334 (wrap64 (x18_2 + 1)) t1293)) else (none)) else (none)) = some true := by first | (rw [hji110] at H; exact H) | (simp only [hji110] at H ⊢; exact H)
         have hji110w : (IntKind.i64.wrap (x18_2 - 1)) = ji110 := (i64_w _).trans hji110
         replace H := gd H; obtain ⟨c111b0, H⟩ := H
         replace H := gd H; obtain ⟨c112b0, H⟩ := H
         replace H := ga H; obtain ⟨t1334, A113, H⟩ := H
         have H' := am H
         clear H
         have hnb114 := NB1297_1316.out
         have hnc114 := NB1316_1297.out
         have hcz115_0 := bc BK1297 0 (.slice Ao15 t1293.length co15)
         have hfz115_0 := blk_frozen BK1297.out 0
         try go_wp2
         replace HO_6 := am (Kd.R_drew HO_6.out)
         replace HO_1298000 := am (Kd.Q_drew HO_1298000.out)
         replace HO_1317000 := am (Kd.Q_drew HO_1317000.out)
         replace BK1297 := am (blk_drew BK1297.out)
         replace BK1316 := am (blk_drew BK1316.out)
         replace HB := am (below_drew1 HB.out)
         obtain ⟨⟨ad1332, e1332, hx1332_0⟩, p1332, q1332⟩ := pq (Kd.at_int (Kd.Q_reads' HO_1298000.out).2.2 x18_2)
         cases e1332
         obtain ⟨⟨ad1333, e1333, hx1333_0⟩, p1333, q1333⟩ := pq (Kd.at_int (Kd.Q_reads' HO_1298000.out).2.2 (ji110))
         obtain rfl : ad1332 = ad1333 := (by injection e1333)
         refine start_ (n := 15) (S := fun w' => w'.cell? ⟨gb1297, 0, none⟩ = some (.slice (some ad1332) t1293.length co15) ∧ w'.cell? (ad1332.add (x18_2).toNat) = some (.int .i64 (rd t1293 x18_2)) ∧ w'.cell? (ad1332.add ((ji110)).toNat) = some (.int .i64 (rd t1293 (ji110)))) (ds := []) (yz 15 0) (by kernel_rfl) rfl rfl ⟨(blk_cell BK1297.out 0).trans rfl, hx1332_0, hx1333_0⟩ (fun hHeld => ?_); refine with_tabW laws_FnLengths.tab19 laws_FnLengths.bits19 (fun HT_ HW_ => ?_)
         generalize wr.drew = w116 at HO_6 HO_1298000 HO_1317000 BK1297 BK1316 HB hx1332_0 hx1333_0 hHeld ⊢
         refine pa 0 (some 117) (yz 15 1) HT_ ?_
         refine pa 1 (some 118) (yz 15 3) HT_ ?_
         refine pa 3 (some 120) (yz 15 11) HT_ ?_
         refine pa 6 (some 123) (yz 15 75) HT_ ?_
         refine pa 8 (some 125) (yz 15 331) HT_ ?_
         refine pa 9 (some 126) (yz 15 843) HT_ ?_
         refine take_ (i := 2) (N := some 119) (v := ?_) (a' := ?_) (yz 15 847) rfl rfl (take_ofW HT_.out HW_.out (by kernel_rfl)) (fun _ _ _ h => h) (Or.inl ⟨by rfl, ?_⟩) hHeld ?_ ?_
         rotate_left
         ·rintro w' ⟨s0, s1, s2⟩
          go_simp
          with_reducible rfl
         rotate_left
         ·simp only [Act.put, qa, qb, qc, i64_w, i32_w]
          rfl
         refine pa 4 (some 121) (yz 15 863) HT_ ?_
         refine take_ (i := 5) (N := some 122) (v := ?_) (a' := ?_) (yz 15 895) rfl rfl (take_ofW HT_.out HW_.out (by kernel_rfl)) (fun _ _ _ h => h) (Or.inl ⟨by rfl, ?_⟩) hHeld ?_ ?_
         rotate_left
         ·rintro w' ⟨s0, s1, s2⟩
          go_simp
          with_reducible rfl
         rotate_left
         ·simp only [Act.put, qa, qb, qc, i64_w, i32_w]
          rfl
         refine take_ (i := 7) (N := some 124) (v := ?_) (a' := ?_) (yz 15 1023) rfl rfl (take_ofW HT_.out HW_.out (by kernel_rfl)) (fun _ _ _ h => h) (Or.inl ⟨by rfl, ?_⟩) hHeld ?_ ?_
         rotate_left
         ·rintro w' ⟨s0, s1, s2⟩
          go_simp
          with_reducible rfl
         rotate_left
         ·simp only [Act.put, qa, qb, qc, i64_w, i32_w]
          rfl
         refine pa 10 (some 127) (yz 15 2047) HT_ ?_
         refine take_ (i := 11) (N := some 128) (v := ?_) (a' := ?_) (yz 15 4095) rfl rfl (take_ofW HT_.out HW_.out (by kernel_rfl)) (fun _ _ _ h => h) (Or.inl ⟨by rfl, ?_⟩) hHeld ?_ ?_
         rotate_left
         ·rintro w' ⟨s0, s1, s2⟩
          go_simp
          with_reducible rfl
         rotate_left
         ·simp only [Act.put, qa, qb, qc, i64_w, i32_w]
          rfl
         refine pa 12 (some 129) (yz 15 8191) HT_ ?_
         refine oa 13 (some 130) (yz 15 16383) HT_ (fun K hK => ?_)
         refine goes_ Try.func107 (by kernel_rfl) rfl #[.int .i64 x17_2, .int .i64 (wrap64 ((rd t1293 x18_2) - (rd t1293 (ji110))))] (by rfl) rfl rfl (by (try simp only [List.map_toArray, List.map_cons, List.map_nil]); first | done | (simp only [hji110]; rfl) | rfl | (simp only [List.length_drop, List.length_take]; rfl)) ?_
         with_reducible refine (spec_GcdOf.calls k2 x17_2 (wrap64 ((rd t1293 x18_2) - (rd t1293 (ji110)))) t1334 _ A113.out).mono ?_
         rintro e w' ⟨rfl, ⟨nd, rfl⟩⟩
         refine ⟨_, rfl, ?_⟩
         refine hK.out _ _ ⟨(blk_cell BK1297.out 0).trans rfl, hHeld.2.1, hHeld.2.2⟩ (fun hHeld => ?_)
         clear hK K
         refine norm_ (a' := ?_) ?_ ?_
         rotate_left
         ·show Act.put _ (some 130) _ = _
          simp only [Act.put, qa, qb, qc, i64_w, i32_w]
          rfl
         refine pa 14 (some 17) (yz 15 32767) HT_ ?_
         refine done_ (done_of HT_.out (by kernel_rfl)) ?_
         try go_wp2
         go_roundg k2
         case measure => have := HJ11.out; have := HK2.out; omega
         case rel => exact ⟨(t1334), (wrap64 (x18_2 + 1)), rr, rr, H', ⟨by have := HJ11.out; have := HK2.out; omega⟩, ⟨ro HO_6.out⟩, ⟨by (with_reducible repeat (first | apply Kd.Q_alloc | apply Kd.Q_drewN | apply Kd.Q_drew)); exact HO_1298000.out⟩, ⟨by (with_reducible repeat (first | apply Kd.Q_alloc | apply Kd.Q_drewN | apply Kd.Q_drew)); exact HO_1317000.out⟩, ⟨bo BK1297.out⟩, ⟨bo BK1316.out⟩, ⟨bw⟩⟩
        ·have H' := am H
         clear H
         have hnb117 := NB1297_1316.out
         have hnc117 := NB1316_1297.out
         have hcz118_0 := bc BK1297 0 (.slice Ao15 t1293.length co15)
         have hfz118_0 := blk_frozen BK1297.out 0
         go_wp2
         go_loopg [19] k2 (fun kq v19 w' => ∃ (x19_3 : Int), v19 = .int .i64 x19_3 ∧ Aside0 (laws_FnLengths.l1 kq t1296 t1301 t1304 t1305 t1308 t1309 x17_2 x19_3 = some true) ∧ Aside0 (kq ≤ k2) ∧ Aside0 (Kd.R (Kd.int .i64) 3 w' w.heap.size (fun k_ => some k_ ≠ ((.slice Ao15 t1293.length co15) : Value).ownBlock ∧ some k_ ≠ ((.slice Ao30 t1312.length co30) : Value).ownBlock) v1302 t1301) ∧ Aside0 (Kd.Q (Kd.int .i64) 3 w' w.heap.size (fun k_ => some k_ ≠ (v1302 : Value).ownBlock ∧ some k_ ≠ ((.slice Ao30 t1312.length co30) : Value).ownBlock) (.slice Ao15 t1293.length co15) t1293) ∧ Aside0 (Kd.Q (Kd.int .i64) 3 w' w.heap.size (fun k_ => some k_ ≠ (v1302 : Value).ownBlock ∧ some k_ ≠ ((.slice Ao15 t1293.length co15) : Value).ownBlock) (.slice Ao30 t1312.length co30) t1312) ∧ Aside0 (w'.heap[gb1297]? = some (.cells #[(.slice Ao15 t1293.length co15)] 26 (0, 0))) ∧ Aside0 (w'.heap[gb1316]? = some (.cells #[(.slice Ao30 t1312.length co30)] 26 (0, 0))) ∧ Aside0 (Below w.heap.size w w'))
         case atStart => exact ⟨(0), rr, H', ⟨Nat.le_refl _⟩, ⟨ro HO_6.out⟩, ⟨by (with_reducible repeat (first | apply Kd.Q_alloc | apply Kd.Q_drewN | apply Kd.Q_drew)); exact HO_1298000.out⟩, ⟨by (with_reducible repeat (first | apply Kd.Q_alloc | apply Kd.Q_drewN | apply Kd.Q_drew)); exact HO_1317000.out⟩, ⟨bo BK1297.out⟩, ⟨bo BK1316.out⟩, ⟨bw⟩⟩
         case round =>
          clear H'
          try clear c3; try clear c35; try clear c104; try clear c104b0; try clear c104b1; try clear c104b2; try clear c108b0; try clear c109b0; try clear c111b0; try clear c112b0; try clear hcz115_0; try clear hcz118_0; try clear hfz115_0; try clear hfz118_0; try clear hx1332_0; try clear hx1333_0; try clear p1332; try clear p1333; try clear q1332; try clear q1333
          obtain ⟨x19_3, rfl, HA, HK3, HO_6, HO_1298000, HO_1317000, BK1297, BK1316, HB⟩ := hrel
          cases gk with
          | zero => exact absurd HA.out (by simp [laws_FnLengths.l1])
          | succ k3 =>
           have H := HA.out
           clear HA
           simp only [laws_FnLengths.l1] at H
           replace H := gi H; obtain ⟨c119b0, H⟩ | ⟨c119b0, H⟩ := H
           ·by_cases c120 : x17_2 = 0
            ·rw [if_pos c120] at H
             have c120b0 : (x17_2 == 0) = true := beq_iff_eq.mpr c120
             have c120b1 : (x17_2 != 0) = false := bne_eq_false_iff_eq.mpr c120
             clear c120
             have HRE_ := Option.some.inj H
             obtain ⟨Ao121, co121, eo121⟩ := Kd.R_slice HO_6.out
             subst eo121
             go_wp2
             go_ret
             exact ⟨re, bw⟩
            ·rw [if_neg c120] at H
             have c120b0 : (x17_2 == 0) = false := beq_eq_false_iff_ne.mpr c120
             have c120b1 : (x17_2 != 0) = true := bne_iff_ne.mpr c120
             replace H := gd H; obtain ⟨c122b0, H⟩ := H
             by_cases c123 : (Int.tmod (rd t1301 x19_3) x17_2) = 0
             ·rw [if_pos c123] at H
              have c123b0 : ((Int.tmod (rd t1301 x19_3) x17_2) == 0) = true := beq_iff_eq.mpr c123
              have c123b1 : ((Int.tmod (rd t1301 x19_3) x17_2) != 0) = false := bne_eq_false_iff_eq.mpr c123
              clear c123
              have H' := am H
              clear H
              obtain ⟨Ao124, co124, eo124⟩ := Kd.R_slice HO_6.out
              subst eo124
              obtain ⟨⟨ad1335, e1335, hx1335_0⟩, p1335, q1335⟩ := pq (Kd.at_int (Kd.R_reads' HO_6.out).2.2 x19_3)
              cases e1335
              go_wp2
              go_roundg k3
              case measure => have := HJ11.out; have := HK2.out; have := HK3.out; omega
              case rel => exact ⟨(wrap64 (x19_3 + 1)), rr, H', ⟨by have := HJ11.out; have := HK2.out; have := HK3.out; omega⟩, ⟨ro HO_6.out⟩, ⟨by (with_reducible repeat (first | apply Kd.Q_alloc | apply Kd.Q_drewN | apply Kd.Q_drew)); exact HO_1298000.out⟩, ⟨by (with_reducible repeat (first | apply Kd.Q_alloc | apply Kd.Q_drewN | apply Kd.Q_drew)); exact HO_1317000.out⟩, ⟨bo BK1297.out⟩, ⟨bo BK1316.out⟩, ⟨bw⟩⟩
             ·rw [if_neg c123] at H
              have c123b0 : ((Int.tmod (rd t1301 x19_3) x17_2) == 0) = false := beq_eq_false_iff_ne.mpr c123
              have c123b1 : ((Int.tmod (rd t1301 x19_3) x17_2) != 0) = true := bne_iff_ne.mpr c123
              have HRE_ := Option.some.inj H
              obtain ⟨Ao125, co125, eo125⟩ := Kd.R_slice HO_6.out
              subst eo125
              obtain ⟨⟨ad1335, e1335, hx1335_0⟩, p1335, q1335⟩ := pq (Kd.at_int (Kd.R_reads' HO_6.out).2.2 x19_3)
              cases e1335
              go_wp2
              go_ret
              exact ⟨re, bw⟩
           ·replace H := gi H; obtain ⟨c126b0, H⟩ | ⟨c126b0, H⟩ := H
            ·have HRE_ := Option.some.inj H
             obtain ⟨Ao127, co127, eo127⟩ := Kd.R_slice HO_6.out
             subst eo127
             go_wp2
             go_ret
             exact ⟨re, bw⟩
            ·have HRE_ := Option.some.inj H
             obtain ⟨Ao128, co128, eo128⟩ := Kd.R_slice HO_6.out
             subst eo128
             go_wp2
             go_ret
             exact ⟨re, bw⟩

/-- THE ONE PURE STATEMENT of laws_FnLengths: yours. -/
def laws_FnLengths.Pure : Prop := ∀ (l0 : List Int), l0.length ≤ maxLen → l0.length * 1 ≤ 140737488351232 → (∀ x ∈ l0, (Lit.int .u8 x).wf = true) → ∃ k, laws_FnLengths.f k l0 = some true
end Go.Proofs.Ytkfplkdchkmgbaa.C
