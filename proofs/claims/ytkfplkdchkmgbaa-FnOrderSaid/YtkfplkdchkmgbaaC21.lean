/- Contracts of functions of the program: spec_Gaps, impl_extreme, impl_MinimalIn, spec_l10All, spec_l10Top, spec_MinimalIn. -/
import Derived.Test.YtkfplkdchkmgbaaC0
import Derived.Test.YtkfplkdchkmgbaaC1
import Derived.Test.YtkfplkdchkmgbaaC2
import Derived.Test.YtkfplkdchkmgbaaC3
import Derived.Test.YtkfplkdchkmgbaaC6
import Derived.Test.YtkfplkdchkmgbaaC7
import Derived.Test.YtkfplkdchkmgbaaC9
import Derived.Test.YtkfplkdchkmgbaaC10
import Derived.Test.YtkfplkdchkmgbaaC14
import Derived.Test.YtkfplkdchkmgbaaC16
namespace Go.Proofs.Ytkfplkdchkmgbaa.C
open Go.RowKit Go.Proofs.YtkfplkdchkmgbaaW.PrintWords Go.Proofs.YtkfplkdchkmgbaaW.PrintLast Go.Proofs.YtkfplkdchkmgbaaW.PrintMore
attribute [local go_sem] max2_int min2_int max_two min_two max_three min_three max_four min_four
set_option linter.unusedVariables false
set_option linter.unusedSimpArgs false

/-! ### spec_Gaps: function 94 -/
def spec_Gaps.f (k : Nat) (l0_0 : List Int) : Option (List Int) := (spec_IsSemigroup.f k l0_0).bind fun t1342 => (if t1342 = true then ((spec_l4Gaps.f k l0_0).bind fun t1343 => (some t1343)) else (some (([] : List Int))))
set_option maxHeartbeats 8000000 in
set_option maxRecDepth 100000 in
theorem spec_Gaps.calls (k : Nat) (A0_0 : Option Addr) (c0_0 : Nat) (l0_0 : List Int) (r : List Int) (w : World) (hr0_0 : Kd.C (Kd.int .i64) w A0_0 l0_0.length l0_0) (hc0_0 : l0_0.length ≤ c0_0) (h : spec_Gaps.f k l0_0 = some r) :
  Calls Try.prog 94 #[.agg #[.slice A0_0 l0_0.length c0_0]] w fun e w' => ∃ v0_ : Value, e = .returned (v0_) ∧ Kd.R (Kd.int .i64) 3 w' w.heap.size (fun _ => True) v0_ r ∧ Below w.heap.size w w' := by
 have hu26 := Try.underlying26
 have HR0_0 := am hr0_0
 have HC0_0 := am hc0_0
 clear hr0_0 hc0_0
 have HB := am (Below.refl w.heap.size w)
 have H : ((spec_IsSemigroup.f k l0_0).bind fun t1342 => (if t1342 = true then ((spec_l4Gaps.f k l0_0).bind fun t1343 => (some t1343)) else (some (([] : List Int))))) = some r := h
 clear h
 replace H := ga H; obtain ⟨t1342, A2, H⟩ := H
 replace H := gb H; obtain ⟨rfl, H⟩ | ⟨rfl, H⟩ := H
 ·replace H := ga H; obtain ⟨t1343, A4, H⟩ := H
  obtain rfl := Option.some.inj H
  go_enter Try.func94, Try.ntmps94
  go_wp2_with (first | ((with_reducible refine gate_dst (N := 1) rfl ?_); refine bx 1 #[.slice A0_0 l0_0.length c0_0] 26 ?_; intro gb1341 hg w5 hbox hb; have BK1341 := am (hbox); have GW1341 := am (gs hg : w.heap.size ≤ gb1341); have GE1341 := GW1341; replace HB := am (below_step bw hb); clear hb hbox hg; have hcz6_0 := bc BK1341 0 (.slice A0_0 l0_0.length c0_0); have hfz6_0 := blk_frozen BK1341.out 0) | ((with_reducible refine gate_callee (f := 23) rfl ?_); refine gl (some 4) Try.func23 #[.agg #[.slice A0_0 l0_0.length c0_0]] ?_; (with_reducible refine (spec_IsSemigroup.calls k _ _ l0_0 true _ ?side1 ?side2 A2.out).mono ?_); (case side1 => exact co (Kd.C_below HR0_0.out HB.out)); (case side2 => exact HC0_0.out); rintro e w7 ⟨rfl, hb⟩; refine ⟨_, rfl, ?_⟩; replace BK1341 := kb BK1341 hb; replace HB := am (below_step bw hb); clear hb; have hcz8_0 := bc BK1341 0 (.slice A0_0 l0_0.length c0_0); have hfz8_0 := blk_frozen BK1341.out 0) | ((with_reducible refine gate_callee (f := 149) rfl ?_); refine gl (some 8) Try.func149 #[.agg #[.slice A0_0 l0_0.length c0_0]] ?_; (with_reducible refine (spec_l4Gaps.calls k _ _ l0_0 t1343 _ ?side1 ?side2 A4.out).mono ?_); (case side1 => exact co (Kd.C_below HR0_0.out HB.out)); (case side2 => exact HC0_0.out); rintro e w9 ⟨v1344, rfl, ho0, hb⟩; refine ⟨_, rfl, ?_⟩; have HO1345 := am (Kd.R_lower ho0 (below_size bw)); replace BK1341 := kb BK1341 hb; replace HB := am (below_step bw hb); clear hb ho0))
  go_ret
  exact ⟨_, re, ro HO1345.out, bw⟩
 ·obtain ⟨y1346, hy1346⟩ : ∃ y_ : List Int, y_ = (([] : List Int)) := ⟨_, rfl⟩
  replace H : (some y1346) = some r := by first | (rw [hy1346]; with_reducible exact H) | (have H2_ := (Option.bind_some _ _).symm.trans H; rw [hy1346]; with_reducible exact H2_) | (have H2_ := (Option.bind_some _ _).symm.trans H; with_reducible exact H2_) | with_reducible exact H | (rw [hy1346]; exact H) | exact H
  have Ny1346 := am hy1346
  clear hy1346
  obtain rfl := Option.some.inj H
  go_enter Try.func94, Try.ntmps94
  go_wp2_with (first | ((with_reducible refine gate_dst (N := 1) rfl ?_); refine bx 1 #[.slice A0_0 l0_0.length c0_0] 26 ?_; intro gb1341 hg w10 hbox hb; have BK1341 := am (hbox); have GW1341 := am (gs hg : w.heap.size ≤ gb1341); have GE1341 := GW1341; replace HB := am (below_step bw hb); clear hb hbox hg; have hcz11_0 := bc BK1341 0 (.slice A0_0 l0_0.length c0_0); have hfz11_0 := blk_frozen BK1341.out 0) | ((with_reducible refine gate_callee (f := 23) rfl ?_); refine gl (some 4) Try.func23 #[.agg #[.slice A0_0 l0_0.length c0_0]] ?_; (with_reducible refine (spec_IsSemigroup.calls k _ _ l0_0 false _ ?side1 ?side2 A2.out).mono ?_); (case side1 => exact co (Kd.C_below HR0_0.out HB.out)); (case side2 => exact HC0_0.out); rintro e w12 ⟨rfl, hb⟩; refine ⟨_, rfl, ?_⟩; replace BK1341 := kb BK1341 hb; replace HB := am (below_step bw hb); clear hb) | ((with_reducible refine gate_dst (N := 6) rfl ?_); refine Kd.R_lit (Kd.int .i64) _ 3 ?hg (N := 6) ?hd (xs := ([] : List Int)) (inner := []) (ok := fun _ => True) (okp := fun _ => True) ?hr ?hp (fun _ hk => hk) trivial (Below.refl _ _) (Nat.le_refl _) (by simp) ?_; (case hd => rfl); (case hg => rfl); (case hr => first | (go_simp; done) | (go_simp; rfl)); (case hp => exact (Reps.none _ _)); intro v1347 w13 ho14 hb hg_ hnew_; clear hg_ hnew_; (first | rw [← Ny1346.out] at ho14 | (simp only [Int.reduceToNat] at ho14; rw [← Ny1346.out] at ho14)); have HO1348 := am (Kd.R_lower ho14 (below_size bw)); replace BK1341 := kb BK1341 hb; replace HB := am (below_step bw hb); clear hb ho14))
  go_ret
  exact ⟨_, re, ro HO1348.out, bw⟩


/-! ### impl_extreme: function 208 -/
mutual
def impl_extreme.j0 : Nat → List Int → (Int → Int → Option Bool) → Bool → Option (List Int)
 | 0, _, _, _ => none
 | k + 1, x1, x2, x21 => if x21 = true then (some ([] : List Int)) else ((impl_SortList.f x1).bind fun t1415 => (impl_extreme.l0 k x2 t1415 (([] : List Int)) t1415 (t1415.length : Int) 0))
def impl_extreme.l0 : Nat → (Int → Int → Option Bool) → List Int → List Int → List Int → Int → Int → Option (List Int)
 | 0, _, _, _, _, _, _ => none
 | k + 1, x2, x7, x8, x25, x26, x27 => if x27 < x26 then (if 0 ≤ x27 then (if x27 < (x25.length : Int) then (impl_extreme.l1 k x2 x7 x8 (rd x25 x27) true x25 x26 x27 x7 (x7.length : Int) 0) else (none)) else (none)) else (some x8)
def impl_extreme.l1 : Nat → (Int → Int → Option Bool) → List Int → List Int → Int → Bool → List Int → Int → Int → List Int → Int → Int → Option (List Int)
 | 0, _, _, _, _, _, _, _, _, _, _, _ => none
 | k + 1, x2, x7, x8, x10, x11, x25, x26, x27, x31, x32, x33 => if x33 < x32 then (if 0 ≤ x33 then (if x33 < (x31.length : Int) then (if x11 = true then (if x10 = (rd x31 x33) then (impl_extreme.l1 k x2 x7 x8 x10 true x25 x26 x27 x31 x32 (wrap64 (x33 + 1))) else ((apF2.f x2 x10 (rd x31 x33)).bind fun t1423 => (impl_extreme.l1 k x2 x7 x8 x10 (!t1423) x25 x26 x27 x31 x32 (wrap64 (x33 + 1))))) else (impl_extreme.l1 k x2 x7 x8 x10 false x25 x26 x27 x31 x32 (wrap64 (x33 + 1)))) else (none)) else (none)) else (if x11 = true then (if x8.length < 17592186044416 then (impl_extreme.l0 k x2 x7 (x8 ++ [x10]) x25 x26 (wrap64 (x27 + 1))) else (none)) else (impl_extreme.l0 k x2 x7 x8 x25 x26 (wrap64 (x27 + 1))))
end
def impl_extreme.f (k : Nat) (l0_0 : List Int) (l1 : List Int) (a2 : (Int → Int → Option Bool)) : Option (List Int) := (impl_IsSemigroup.f k l0_0).bind fun t1413 => (if t1413 = true then ((impl_allWithin.f k l1 (-1000000) 1000000).bind fun t1414 => (impl_extreme.j0 k l1 a2 (!t1414))) else (impl_extreme.j0 k l1 a2 true))
set_option maxHeartbeats 8000000 in
set_option maxRecDepth 100000 in
theorem impl_extreme.calls (k : Nat) (A0_0 : Option Addr) (c0_0 : Nat) (l0_0 : List Int) (A1 : Option Addr) (c1 : Nat) (l1 : List Int) (a2 : (Int → Int → Option Bool)) (F_a2 : Value) (r : List Int) (w : World) (hr0_0 : Kd.C (Kd.int .i64) w A0_0 l0_0.length l0_0) (hc0_0 : l0_0.length ≤ c0_0) (hr1 : Kd.C (Kd.int .i64) w A1 l1.length l1) (hc1 : l1.length ≤ c1) (hF_a2 : FnR2 Try.prog w F_a2 a2) (h : impl_extreme.f k l0_0 l1 a2 = some r) :
  Calls Try.prog 208 #[.agg #[.slice A0_0 l0_0.length c0_0], .slice A1 l1.length c1, F_a2] w fun e w' => ∃ v0_ : Value, e = .returned (v0_) ∧ Kd.R (Kd.int .i64) 3 w' w.heap.size (fun _ => True) v0_ r ∧ Below w.heap.size w w' := by
 have hu26 := Try.underlying26
 have HR0_0 := am hr0_0
 have HC0_0 := am hc0_0
 clear hr0_0 hc0_0
 have HR1 := am hr1
 have HC1 := am hc1
 clear hr1 hc1
 have HB := am (Below.refl w.heap.size w)
 obtain ⟨gF_a2, lF_a2, rfl, eF_a2, hF_a2⟩ := hF_a2
 have H : ((impl_IsSemigroup.f k l0_0).bind fun t1413 => (if t1413 = true then ((impl_allWithin.f k l1 (-1000000) 1000000).bind fun t1414 => (impl_extreme.j0 k l1 a2 (!t1414))) else (impl_extreme.j0 k l1 a2 true))) = some r := h
 clear h
 have HC4 := am H
 clear H
 go_enter Try.func208, Try.ntmps208
 go_upto_region 1 with (first | ((with_reducible refine gate_dst (N := 3) rfl ?_); refine bx 3 #[.slice A0_0 l0_0.length c0_0] 26 ?_; intro gb1412 hg w5 hbox hb; have BK1412 := am (hbox); have GW1412 := am (gs hg : w.heap.size ≤ gb1412); have GE1412 := GW1412; replace HB := am (below_step bw hb); clear hb hbox hg))
 (try simp only [Act.put, List.setIfInBounds_toArray, List.set_cons_zero, List.set_cons_succ])
 go_cut [21] (fun v21 wc => ∃ (kq : Nat) (x21_3 : Bool), v21 = .bool x21_3 ∧ Aside0 (impl_extreme.j0 kq l1 a2 x21_3 = some r) ∧ Aside0 (kq ≤ k) ∧ Aside0 (wc.heap[gb1412]? = some (.cells #[(.slice A0_0 l0_0.length c0_0)] 26 (0, 0))) ∧ Aside0 (Below w.heap.size w wc))
 case first =>
  have H := HC4.out
  clear HC4
  replace H := ga H; obtain ⟨t1413, A6, H⟩ := H
  replace H := gb H; obtain ⟨rfl, H⟩ | ⟨rfl, H⟩ := H
  ·replace H := ga H; obtain ⟨t1414, A8, H⟩ := H
   have H' := am H
   clear H
   have hcz9_0 := bc BK1412 0 (.slice A0_0 l0_0.length c0_0)
   have hfz9_0 := blk_frozen BK1412.out 0
   go_wp2_with (first | ((with_reducible refine gate_callee (f := 151) rfl ?_); refine gl (some 15) Try.func151 #[.agg #[.slice A0_0 l0_0.length c0_0]] ?_; (with_reducible refine (impl_IsSemigroup.calls k _ _ l0_0 true _ ?side1 ?side2 A6.out).mono ?_); (case side1 => exact co (Kd.C_below HR0_0.out HB.out)); (case side2 => exact HC0_0.out); rintro e w10 ⟨rfl, hb⟩; refine ⟨_, rfl, ?_⟩; replace BK1412 := kb BK1412 hb; replace HB := am (below_step bw hb); clear hb) | (go_at_call 135; (with_reducible refine (impl_allWithin.calls k _ _ l1 (-1000000) 1000000 t1414 _ ?side1 ?side2 A8.out).mono ?_); (case side1 => exact co (Kd.C_below HR1.out HB.out)); (case side2 => exact HC1.out); rintro e w' ⟨rfl, ⟨nd, rfl⟩⟩))
   go_meet
   case rel => exact ⟨_, (!t1414), rr, H', ⟨om⟩, ⟨bo BK1412.out⟩, ⟨bw⟩⟩
  ·have H' := am H
   clear H
   have hcz11_0 := bc BK1412 0 (.slice A0_0 l0_0.length c0_0)
   have hfz11_0 := blk_frozen BK1412.out 0
   go_wp2_with (first | ((with_reducible refine gate_callee (f := 151) rfl ?_); refine gl (some 15) Try.func151 #[.agg #[.slice A0_0 l0_0.length c0_0]] ?_; (with_reducible refine (impl_IsSemigroup.calls k _ _ l0_0 false _ ?side1 ?side2 A6.out).mono ?_); (case side1 => exact co (Kd.C_below HR0_0.out HB.out)); (case side2 => exact HC0_0.out); rintro e w12 ⟨rfl, hb⟩; refine ⟨_, rfl, ?_⟩; replace BK1412 := kb BK1412 hb; replace HB := am (below_step bw hb); clear hb))
   go_meet
   case rel => exact ⟨_, (true), rr, H', ⟨om⟩, ⟨bo BK1412.out⟩, ⟨bw⟩⟩
 case rest =>
  clear HC4
  try clear c1; try clear hcz11_0; try clear hcz9_0; try clear hfz11_0; try clear hfz9_0
  obtain ⟨kq, x21_3, rfl, HA, HJ3, BK1412, HB⟩ := hcut
  cases kq with
  | zero => exact absurd HA.out (by simp [impl_extreme.j0])
  | succ kj3 =>
   have H := HA.out
   clear HA
   simp only [impl_extreme.j0] at H
   replace H := gb H; obtain ⟨rfl, H⟩ | ⟨rfl, H⟩ := H
   ·obtain rfl := Option.some.inj H
    go_wp2
    go_ret
    exact ⟨_, re, by first | exact Kd.R_nil _ _ _ _ _ | exact Kd.N_nil _ _ _ _ _ | exact Kd.V_nil _ _ _ _ _ | exact Kd.Q_nil _ _ _ _ _ | exact Kd.S_nil _ _ _ _ _, bw⟩
   ·replace H := ga H; obtain ⟨t1415, A14, H⟩ := H
    obtain ⟨y1418, hy1418⟩ : ∃ y_ : List Int, y_ = (([] : List Int)) := ⟨_, rfl⟩
    replace H : (impl_extreme.l0 kj3 a2 t1415 y1418 t1415 (t1415.length : Int) 0) = some r := by first | (rw [hy1418]; with_reducible exact H) | (have H2_ := (Option.bind_some _ _).symm.trans H; rw [hy1418]; with_reducible exact H2_) | (have H2_ := (Option.bind_some _ _).symm.trans H; with_reducible exact H2_) | with_reducible exact H | (rw [hy1418]; exact H) | exact H
    have Ny1418 := am hy1418
    clear hy1418
    have H' := am H
    clear H
    go_wp2_with (first | ((with_reducible refine gate_callee (f := 89) rfl ?_); refine gl (some 23) Try.func89 #[.slice A1 l1.length c1] ?_; (with_reducible refine (impl_SortList.calls _ _ l1 t1415 _ ?side1 ?side2 A14.out).mono ?_); (case side1 => exact co (Kd.C_below HR1.out HB.out)); (case side2 => exact HC1.out); rintro e w15 ⟨v1416, rfl, ho0, hb⟩; refine ⟨_, rfl, ?_⟩; have HO1417 := am (Kd.R_lower ho0 (below_size bw)); replace BK1412 := kb BK1412 hb; replace HB := am (below_step bw hb); clear hb ho0) | ((with_reducible refine gate_dst (N := 24) rfl ?_); refine Kd.R_lit (Kd.int .i64) _ 3 ?hg (N := 24) ?hd (xs := ([] : List Int)) (inner := []) (ok := fun _ => True) (okp := fun _ => True) ?hr ?hp (fun _ hk => hk) trivial (Below.refl _ _) (Nat.le_refl _) (by simp) ?_; (case hd => rfl); (case hg => rfl); (case hr => first | (go_simp; done) | (go_simp; rfl)); (case hp => exact (Reps.none _ _)); intro v1419 w16 ho17 hb hg_ hnew_; clear hg_ hnew_; (first | rw [← Ny1418.out] at ho17 | (simp only [Int.reduceToNat] at ho17; rw [← Ny1418.out] at ho17)); have HO1420 := am (Kd.R_lower (Kd.R_new' ho17 (Kd.R_lt (ro HO1417.out))) (below_size bw)); replace HO1417 := am (Kd.R_elder' (ro HO1417.out) (Kd.R_base ho17) hb); replace BK1412 := kb BK1412 hb; replace HB := am (below_step bw hb); clear hb ho17; obtain ⟨Ao18, co18, eo18⟩ := Kd.R_slice HO1417.out; subst eo18))
    go_loopg [8, 27] kj3 (fun kq v8 v27 w' => ∃ (x8_2 : List Int) (x27_2 : Int), v27 = .int .i64 x27_2 ∧ Aside0 (impl_extreme.l0 kq a2 t1415 x8_2 t1415 (t1415.length : Int) x27_2 = some r) ∧ Aside0 (kq ≤ kj3) ∧ Aside0 (Kd.R (Kd.int .i64) 3 w' w.heap.size (fun k_ => some k_ ≠ (v8 : Value).ownBlock) (.slice Ao18 t1415.length co18) t1415) ∧ Aside0 (Kd.R (Kd.int .i64) 3 w' w.heap.size (fun k_ => some k_ ≠ ((.slice Ao18 t1415.length co18) : Value).ownBlock ∧ some k_ ≠ ((.slice Ao18 t1415.length co18) : Value).ownBlock) v8 x8_2) ∧ Aside0 (Kd.R (Kd.int .i64) 3 w' w.heap.size (fun k_ => some k_ ≠ (v8 : Value).ownBlock) (.slice Ao18 t1415.length co18) t1415) ∧ Aside0 (w'.heap[gb1412]? = some (.cells #[(.slice A0_0 l0_0.length c0_0)] 26 (0, 0))) ∧ Aside0 (Below w.heap.size w w'))
    case atStart => exact ⟨(y1418), (0), rr, H', ⟨Nat.le_refl _⟩, ⟨by (with_reducible repeat (first | apply Kd.R_alloc | apply Kd.R_drewN | apply Kd.R_drew)); exact Kd.R_mono HO1417.out (fun _ hk => hk.2)⟩, ⟨by (with_reducible repeat (first | apply Kd.R_alloc | apply Kd.R_drewN | apply Kd.R_drew)); exact Kd.R_mono HO1420.out (fun _ hk => by first | exact ⟨hk.2, hk.2⟩ | simp_all)⟩, ⟨by (with_reducible repeat (first | apply Kd.R_alloc | apply Kd.R_drewN | apply Kd.R_drew)); exact Kd.R_mono HO1417.out (fun _ hk => hk.2)⟩, ⟨bo BK1412.out⟩, ⟨bw⟩⟩
    case round =>
     clear H'
     try clear c1; try clear hcz11_0; try clear hcz9_0; try clear hfz11_0; try clear hfz9_0
     obtain ⟨x8_2, x27_2, rfl, HA, HK2, HO_7, HO_8, HO_25, BK1412, HB⟩ := hrel
     cases gk with
     | zero => exact absurd HA.out (by simp [impl_extreme.l0])
     | succ k2 =>
      have H := HA.out
      clear HA
      simp only [impl_extreme.l0] at H
      replace H := gi H; obtain ⟨c19b0, H⟩ | ⟨c19b0, H⟩ := H
      ·replace H := gd H; obtain ⟨c20b0, H⟩ := H
       replace H := gd H; obtain ⟨c21b0, H⟩ := H
       have H' := am H
       clear H
       obtain ⟨⟨ad1421, e1421, hx1421_0⟩, p1421, q1421⟩ := pq (Kd.at_int (Kd.R_reads' HO_25.out).2.2 x27_2)
       cases e1421
       go_wp2
       go_loopg [11, 33] k2 (fun kq v11 v33 w' => ∃ (x11_3 : Bool) (x33_3 : Int), v11 = .bool x11_3 ∧ v33 = .int .i64 x33_3 ∧ Aside0 (impl_extreme.l1 kq a2 t1415 x8_2 (rd t1415 x27_2) x11_3 t1415 (t1415.length : Int) x27_2 t1415 (t1415.length : Int) x33_3 = some r) ∧ Aside0 (kq ≤ k2) ∧ Aside0 (Kd.R (Kd.int .i64) 3 w' w.heap.size (fun k_ => some k_ ≠ (u8 : Value).ownBlock) (.slice (some ad1421) t1415.length co18) t1415) ∧ Aside0 (Kd.R (Kd.int .i64) 3 w' w.heap.size (fun k_ => some k_ ≠ ((.slice (some ad1421) t1415.length co18) : Value).ownBlock ∧ some k_ ≠ ((.slice (some ad1421) t1415.length co18) : Value).ownBlock ∧ some k_ ≠ ((.slice (some ad1421) t1415.length co18) : Value).ownBlock) u8 x8_2) ∧ Aside0 (Kd.R (Kd.int .i64) 3 w' w.heap.size (fun k_ => some k_ ≠ (u8 : Value).ownBlock) (.slice (some ad1421) t1415.length co18) t1415) ∧ Aside0 (Kd.R (Kd.int .i64) 3 w' w.heap.size (fun k_ => some k_ ≠ (u8 : Value).ownBlock) (.slice (some ad1421) t1415.length co18) t1415) ∧ Aside0 (w'.heap[gb1412]? = some (.cells #[(.slice A0_0 l0_0.length c0_0)] 26 (0, 0))) ∧ Aside0 (Below w.heap.size w w'))
       case atStart => exact ⟨(true), (0), rr, rr, H', ⟨Nat.le_refl _⟩, ⟨ro HO_7.out⟩, ⟨by (with_reducible repeat (first | apply Kd.R_alloc | apply Kd.R_drewN | apply Kd.R_drew)); exact Kd.R_mono HO_8.out (fun _ hk => ⟨hk.1, ⟨hk.2, hk.1⟩⟩)⟩, ⟨ro HO_25.out⟩, ⟨ro HO_7.out⟩, ⟨bo BK1412.out⟩, ⟨bw⟩⟩
       case round =>
        clear H'
        try clear c1; try clear c19b0; try clear c20b0; try clear c21b0; try clear hcz11_0; try clear hcz9_0; try clear hfz11_0; try clear hfz9_0; try clear hx1421_0; try clear p1421; try clear q1421
        obtain ⟨x11_3, x33_3, rfl, rfl, HA, HK3, HO_7, HO_8, HO_25, HO_31, BK1412, HB⟩ := hrel
        cases gk with
        | zero => exact absurd HA.out (by simp [impl_extreme.l1])
        | succ k3 =>
         have H := HA.out
         clear HA
         simp only [impl_extreme.l1] at H
         replace H := gi H; obtain ⟨c22b0, H⟩ | ⟨c22b0, H⟩ := H
         ·replace H := gd H; obtain ⟨c23b0, H⟩ := H
          replace H := gd H; obtain ⟨c24b0, H⟩ := H
          replace H := gb H; obtain ⟨rfl, H⟩ | ⟨rfl, H⟩ := H
          ·by_cases c26 : (rd t1415 x27_2) = (rd t1415 x33_3)
           ·rw [if_pos c26] at H
            have c26b0 : ((rd t1415 x27_2) == (rd t1415 x33_3)) = true := beq_iff_eq.mpr c26
            have c26b1 : ((rd t1415 x27_2) != (rd t1415 x33_3)) = false := bne_eq_false_iff_eq.mpr c26
            clear c26
            have H' := am H
            clear H
            obtain ⟨⟨ad1422, e1422, hx1422_0⟩, p1422, q1422⟩ := pq (Kd.at_int (Kd.R_reads' HO_31.out).2.2 x33_3)
            obtain rfl : ad1421 = ad1422 := (by injection e1422)
            go_wp2
            go_roundg k3
            case measure => have := HJ3.out; have := HK2.out; have := HK3.out; omega
            case rel => exact ⟨(true), (wrap64 (x33_3 + 1)), rr, rr, H', ⟨by have := HJ3.out; have := HK2.out; have := HK3.out; omega⟩, ⟨ro HO_7.out⟩, ⟨ro HO_8.out⟩, ⟨ro HO_25.out⟩, ⟨ro HO_31.out⟩, ⟨bo BK1412.out⟩, ⟨bw⟩⟩
           ·rw [if_neg c26] at H
            have c26b0 : ((rd t1415 x27_2) == (rd t1415 x33_3)) = false := beq_eq_false_iff_ne.mpr c26
            have c26b1 : ((rd t1415 x27_2) != (rd t1415 x33_3)) = true := bne_iff_ne.mpr c26
            replace H := ga H; obtain ⟨t1423, A27, H⟩ := H
            have H' := am H
            clear H
            obtain ⟨⟨ad1422, e1422, hx1422_0⟩, p1422, q1422⟩ := pq (Kd.at_int (Kd.R_reads' HO_31.out).2.2 x33_3)
            obtain rfl : ad1421 = ad1422 := (by injection e1422)
            go_wp2_with (first | (go_at_fn gF_a2; (with_reducible refine (hF_a2 _ bw (rd t1415 x27_2) (rd t1415 x33_3) t1423 A27.out).mono ?_); rintro e w' ⟨rfl, ⟨nd, rfl⟩⟩))
            go_roundg k3
            case measure => have := HJ3.out; have := HK2.out; have := HK3.out; omega
            case rel => exact ⟨(!t1423), (wrap64 (x33_3 + 1)), rr, rr, H', ⟨by have := HJ3.out; have := HK2.out; have := HK3.out; omega⟩, ⟨ro HO_7.out⟩, ⟨ro HO_8.out⟩, ⟨ro HO_25.out⟩, ⟨ro HO_31.out⟩, ⟨bo BK1412.out⟩, ⟨bw⟩⟩
          ·have H' := am H
           clear H
           obtain ⟨⟨ad1422, e1422, hx1422_0⟩, p1422, q1422⟩ := pq (Kd.at_int (Kd.R_reads' HO_31.out).2.2 x33_3)
           obtain rfl : ad1421 = ad1422 := (by injection e1422)
           go_wp2
           go_roundg k3
           case measure => have := HJ3.out; have := HK2.out; have := HK3.out; omega
           case rel => exact ⟨(false), (wrap64 (x33_3 + 1)), rr, rr, H', ⟨by have := HJ3.out; have := HK2.out; have := HK3.out; omega⟩, ⟨ro HO_7.out⟩, ⟨ro HO_8.out⟩, ⟨ro HO_25.out⟩, ⟨ro HO_31.out⟩, ⟨bo BK1412.out⟩, ⟨bw⟩⟩
         ·replace H := gb H; obtain ⟨rfl, H⟩ | ⟨rfl, H⟩ := H
          ·by_cases c29 : x8_2.length < 17592186044416
           rotate_left
           ·rw [if_neg c29] at H
            exact absurd H (by simp)
           rw [if_pos c29] at H
           have LMc29 := am c29
           clear c29
           obtain ⟨y1424, hy1424⟩ : ∃ y_ : List Int, y_ = (x8_2 ++ [(rd t1415 x27_2)]) := ⟨_, rfl⟩
           replace H : (impl_extreme.l0 k3 a2 t1415 y1424 t1415 (t1415.length : Int) (wrap64 (x27_2 + 1))) = some r := by first | (rw [hy1424]; with_reducible exact H) | (have H2_ := (Option.bind_some _ _).symm.trans H; rw [hy1424]; with_reducible exact H2_) | (have H2_ := (Option.bind_some _ _).symm.trans H; with_reducible exact H2_) | with_reducible exact H | (rw [hy1424]; exact H) | exact H
           have Ny1424 := am hy1424
           clear hy1424
           have H' := am H
           clear H
           go_wp2_with (first | ((with_reducible refine gate_builtin (b := .append) (xs := #[.tmp 52, .tmp 54]) rfl ?_); at_builtin; refine Kd.R_append (Kd.int .i64) (w0 := w) w.heap.size rfl (.tmp 52) (.tmp 54) 24 3 (.int .i64 0) 8 rfl Try.underlying24 info3 rfl (by decide) (by omega) u8 x8_2 (rd t1415 x27_2) [.int .i64 (rd t1415 x27_2)] (fun k_ => some k_ ≠ (.slice (some ad1421) t1415.length co18 : Value).ownBlock ∧ some k_ ≠ (.slice (some ad1421) t1415.length co18 : Value).ownBlock ∧ some k_ ≠ (.slice (some ad1421) t1415.length co18 : Value).ownBlock) (fun _ => False) rfl rfl ?aP (fun _ hk => hk.elim) ?aF ?aO ?aB ?aS ?aL ?_; (case aP => exact rfl); (case aB => exact bw); (case aF => exact (fun k_ hk => ⟨Kd.fresh' (Kd.R_lt (ro HO_7.out)) k_ hk, Kd.fresh' (Kd.R_lt (ro HO_25.out)) k_ hk, Kd.fresh' (Kd.R_lt (ro HO_31.out)) k_ hk⟩)); (case aO => exact (ro HO_8.out)); (case aS => exact (below_size bw)); (case aL => have := LMc29.out; omega); intro v1425 w30 ho hb hg hat; rw [← Ny1424.out] at ho; replace HO_7 := am (Kd.R_after (ok := (fun _ => True)) (by (with_reducible repeat (first | apply Kd.R_alloc | apply Kd.R_drewN | apply Kd.R_drew)); exact Kd.R_mono HO_7.out (fun _ hk => ⟨trivial, by first | exact hk | exact (by intro a n m c x h; cases a <;> exact h : ∀ (a : Option Addr) (n m c x : Nat), some x ≠ (Value.slice a n c).ownBlock → some x ≠ (Value.slice a m c).ownBlock) _ _ _ _ _ hk⟩)) hg hat); replace HO_25 := am (Kd.R_after (ok := (fun _ => True)) (by (with_reducible repeat (first | apply Kd.R_alloc | apply Kd.R_drewN | apply Kd.R_drew)); exact Kd.R_mono HO_25.out (fun _ hk => ⟨trivial, by first | exact hk | exact (by intro a n m c x h; cases a <;> exact h : ∀ (a : Option Addr) (n m c x : Nat), some x ≠ (Value.slice a n c).ownBlock → some x ≠ (Value.slice a m c).ownBlock) _ _ _ _ _ hk⟩)) hg hat); replace HO_31 := am (Kd.R_after (ok := (fun _ => True)) (by (with_reducible repeat (first | apply Kd.R_alloc | apply Kd.R_drewN | apply Kd.R_drew)); exact Kd.R_mono HO_31.out (fun _ hk => ⟨trivial, by first | exact hk | exact (by intro a n m c x h; cases a <;> exact h : ∀ (a : Option Addr) (n m c x : Nat), some x ≠ (Value.slice a n c).ownBlock → some x ≠ (Value.slice a m c).ownBlock) _ _ _ _ _ hk⟩)) hg hat); replace BK1412 := am (blk_grown (g := gb1412) (o := .cells #[.slice A0_0 l0_0.length c0_0] 26 (0, 0)) (bo BK1412.out) hg (Kd.R_ne HO_8.out BK1412.out (by decide))); replace HB := am (hb); have HO1426 := am (ho); clear HO_8 ho hb hg hat))
           go_roundg k3
           case measure => have := HJ3.out; have := HK2.out; have := HK3.out; omega
           case rel => exact ⟨(y1424), (wrap64 (x27_2 + 1)), rr, H', ⟨by have := HJ3.out; have := HK2.out; have := HK3.out; omega⟩, ⟨by (with_reducible repeat (first | apply Kd.R_alloc | apply Kd.R_drewN | apply Kd.R_drew)); exact Kd.R_mono HO_7.out (fun _ hk => hk.2)⟩, ⟨by (with_reducible repeat (first | apply Kd.R_alloc | apply Kd.R_drewN | apply Kd.R_drew)); exact Kd.R_mono HO1426.out (fun _ hk => by first | exact ⟨hk.1, hk.2.1⟩ | simp_all)⟩, ⟨by (with_reducible repeat (first | apply Kd.R_alloc | apply Kd.R_drewN | apply Kd.R_drew)); exact Kd.R_mono HO_25.out (fun _ hk => hk.2)⟩, ⟨bo BK1412.out⟩, ⟨bw⟩⟩
          ·have H' := am H
           clear H
           go_wp2
           go_roundg k3
           case measure => have := HJ3.out; have := HK2.out; have := HK3.out; omega
           case rel => exact ⟨(x8_2), (wrap64 (x27_2 + 1)), rr, H', ⟨by have := HJ3.out; have := HK2.out; have := HK3.out; omega⟩, ⟨ro HO_7.out⟩, ⟨by (with_reducible repeat (first | apply Kd.R_alloc | apply Kd.R_drewN | apply Kd.R_drew)); exact Kd.R_mono HO_8.out (fun _ hk => by first | exact ⟨hk.1, hk.2.1⟩ | simp_all)⟩, ⟨ro HO_25.out⟩, ⟨bo BK1412.out⟩, ⟨bw⟩⟩
      ·obtain rfl := Option.some.inj H
       go_wp2
       go_ret
       exact ⟨_, re, by (with_reducible repeat (first | apply Kd.R_alloc | apply Kd.R_drewN | apply Kd.R_drew)); exact Kd.R_mono HO_8.out (fun _ hk => trivial), bw⟩


/-! ### impl_MinimalIn: function 122 -/
def impl_MinimalIn.p (p : Int → Option Bool) (x y : Int) : Option Bool := p (wrap64 (x - y))
def impl_MinimalIn.f (k : Nat) (l0_0 l1 : List Int) : Option (List Int) := (impl_reach.f k l0_0).bind fun p => impl_extreme.f k l0_0 l1 (impl_MinimalIn.p p)
set_option maxHeartbeats 8000000 in
theorem impl_MinimalIn.c1 (w : World) (g : Nat) (F : Value) (p : Int → Option Bool) (hbox : w.heap[g]? = some (.cells #[F] 106 (0, 0))) (hF : FnR1 Try.prog w F p) : FnR2 Try.prog w (.func (.func 210) #[] #[.pointer (some ⟨g, 0, none⟩)]) (impl_MinimalIn.p p) :=
 ⟨210, _, rfl, (fun args w => enters_ Try.func210 (by kernel_rfl) rfl args w), fun W hb x y b h => by
  obtain ⟨gF, lF, rfl, eF, hF⟩ := hF
  have hcz : W.cell? ⟨g, 0, none⟩ = some (.func (.func gF) #[] lF) := (blk_cell (blk_below hbox hb) 0).trans rfl
  have HB := Aside0.mk hb
  have h : p (wrap64 (x - y)) = some b := h
  clear hbox hb
  show Calls Try.prog 210 #[.int .i64 x, .int .i64 y, .pointer (some ⟨g, 0, none⟩)] W _
  go_enter Try.func210, Try.ntmps210
  go_wp2_with (first | (go_at_fn gF; (with_reducible refine (hF _ bw (wrap64 (x - y)) b h).mono ?_); rintro e w' ⟨rfl, ⟨nd, rfl⟩⟩))
  go_ret
  exact ⟨re, dw⟩⟩
set_option maxHeartbeats 8000000 in
set_option maxRecDepth 100000 in
theorem impl_MinimalIn.calls (k : Nat) (A0_0 : Option Addr) (c0_0 : Nat) (l0_0 : List Int) (A1 : Option Addr) (c1 : Nat) (l1 : List Int) (r : List Int) (w : World) (hr0_0 : Kd.C (Kd.int .i64) w A0_0 l0_0.length l0_0) (hc0_0 : l0_0.length ≤ c0_0) (hr1 : Kd.C (Kd.int .i64) w A1 l1.length l1) (hc1 : l1.length ≤ c1) (h : impl_MinimalIn.f k l0_0 l1 = some r) :
  Calls Try.prog 122 #[.agg #[.slice A0_0 l0_0.length c0_0], .slice A1 l1.length c1] w fun e w' => ∃ v0_ : Value, e = .returned v0_ ∧ Kd.R (Kd.int .i64) 3 w' w.heap.size (fun _ => True) v0_ r ∧ Below w.heap.size w w' := by
 have hu27 := Try.underlying26
 have HR0_0 := Aside0.mk hr0_0
 have HC0_0 := Aside0.mk hc0_0
 have HR1 := Aside0.mk hr1
 have HC1 := Aside0.mk hc1
 clear hr0_0 hc0_0 hr1 hc1
 have HB := Aside0.mk (Below.refl w.heap.size w)
 have H : ((impl_reach.f k l0_0).bind fun p => impl_extreme.f k l0_0 l1 (impl_MinimalIn.p p)) = some r := h
 clear h
 replace H := ga H; obtain ⟨t1, A1_, H⟩ := H
 have A2_ := Aside0.mk H
 clear H
 go_enter Try.func122, Try.ntmps122
 go_wp2_with (first | ((with_reducible refine gate_dst (N := 2) rfl ?_); refine bx 2 #[.slice A0_0 l0_0.length c0_0] 26 ?_; intro gb1 hg w1 hbox hb; have BK1 := Aside0.mk hbox; replace HB := Aside0.mk (below_step bw hb); clear hb hbox hg; have hcz1 := bc BK1 0 (.slice A0_0 l0_0.length c0_0); have hfz1 := blk_frozen BK1.out 0) | ((with_reducible refine gate_callee (f := 152) rfl ?_); refine gl (some 7) Try.func152 #[.agg #[.slice A0_0 l0_0.length c0_0]] ?_; (with_reducible refine (impl_reach.calls k _ _ l0_0 t1 _ ?side1 ?side2 A1_.out).mono ?_); (case side1 => exact co (Kd.C_below HR0_0.out HB.out)); (case side2 => exact HC0_0.out); rintro e w2 ⟨F_t1, rfl, hF_t1, hb⟩; refine ⟨_, rfl, ?_⟩; clear hcz1 hfz1; replace BK1 := Aside0.mk (blk_below (g := gb1) (o := .cells #[.slice A0_0 l0_0.length c0_0] 26 (0, 0)) (bo BK1.out) hb); have HW_ := Aside0.mk (below_step bw hb : Below w.heap.size w w2); replace HR0_0 := Aside0.mk (Kd.C_below HR0_0.out HW_.out); replace HR1 := Aside0.mk (Kd.C_below HR1.out HW_.out); clear HB hb; have HB := Aside0.mk (Below.refl w2.heap.size w2); obtain ⟨gF, lF, eF_⟩ : ∃ g lb, F_t1 = .func (.func g) #[] lb := (by obtain ⟨g, lb, h, _⟩ := hF_t1; exact ⟨g, lb, h⟩); subst eF_; have HF_ := Aside0.mk hF_t1; clear hF_t1; obtain ⟨w, rfl⟩ : ∃ x_, x_ = w2 := ⟨_, rfl⟩; have hcz1 := bc BK1 0 (.slice A0_0 l0_0.length c0_0); have hfz1 := blk_frozen BK1.out 0) | ((with_reducible refine gate_dst (N := 5) rfl ?_); refine bx 5 #[.nilFunc] 106 ?_; intro gb2 hg w3 hbox hb; have GE2 := Aside0.mk (gs hg : w.heap.size ≤ gb2); have NB12 := Aside0.mk ((by rw [hg]; exact Nat.ne_of_lt (blk_lt (g := gb1) (o := .cells #[.slice A0_0 l0_0.length c0_0] 26 (0, 0)) (bo BK1.out)) : gb1 ≠ gb2)); clear hcz1 hfz1; replace BK1 := Aside0.mk (blk_below (g := gb1) (o := .cells #[.slice A0_0 l0_0.length c0_0] 26 (0, 0)) (bo BK1.out) hb); have BK2 := Aside0.mk hbox; replace HB := Aside0.mk (below_step bw hb); clear hb hbox hg; have hnb1 := NB12.out; have hnc1 := NB12.out.symm; have hcz1 := bc BK1 0 (.slice A0_0 l0_0.length c0_0); have hfz1 := blk_frozen BK1.out 0; have hcz2 := bc BK2 0 .nilFunc; have hfz2 := blk_frozen BK2.out 0) | ((with_reducible refine gate_callee (f := 208) rfl ?_); refine gl (some 11) Try.func208 #[.agg #[.slice A0_0 l0_0.length c0_0], .slice A1 l1.length c1, .func (.func 210) #[] #[.pointer (some ⟨gb2, 0, none⟩)]] ?_; (with_reducible refine (impl_extreme.calls k _ _ l0_0 _ _ l1 (impl_MinimalIn.p t1) (.func (.func 210) #[] #[.pointer (some ⟨gb2, 0, none⟩)]) r _ ?side1 ?side2 ?side3 ?side4 ?side5 A2_.out).mono ?_); (case side1 => exact Kd.C_below HR0_0.out bw); (case side2 => exact HC0_0.out); (case side3 => exact Kd.C_below HR1.out bw); (case side4 => exact HC1.out); (case side5 => exact impl_MinimalIn.c1 _ gb2 (.func (.func gF) #[] lF) t1 (by (with_reducible repeat (first | refine blk_drewN ?_ _ | refine blk_drew ?_ | refine blk_alloc ?_ _)); exact blk_put (cs := #[.nilFunc]) (bo BK2.out) 0 _ rfl) (FnR1.below HF_.out bw)); rintro e w4 ⟨v, rfl, ho0, hb⟩; refine ⟨_, rfl, ?_⟩; have HO := Aside0.mk (Kd.R_lower ho0 (below_size bw)); replace HB := Aside0.mk (below_step bw hb); clear hb ho0))
 go_ret
 exact ⟨_, rfl, Kd.R_lower (ro HO.out) (below_size HW_.out), below_step HW_.out bw⟩


/-! ### spec_l10All: function 232 -/
def spec_l10All.l0 : Nat → List Int → Int → Option (Bool)
 | 0, _, _ => none
 | k + 1, x0, x3 => if x3 < (x0.length : Int) then (if 0 ≤ x3 then ((spec_l2Small.f (rd x0 x3)).bind fun t1529 => (if t1529 = true then (spec_l10All.l0 k x0 (wrap64 (x3 + 1))) else (some false))) else (none)) else (some true)
def spec_l10All.f (k : Nat) (l0 : List Int) : Option (Bool) := spec_l10All.l0 k l0 0
set_option maxHeartbeats 8000000 in
set_option maxRecDepth 100000 in
theorem spec_l10All.calls (k : Nat) (A0 : Option Addr) (c0 : Nat) (l0 : List Int) (r : Bool) (w : World) (hr0 : Kd.C (Kd.int .i64) w A0 l0.length l0) (hc0 : l0.length ≤ c0) (h : spec_l10All.f k l0 = some r) :
  Calls Try.prog 232 #[.slice A0 l0.length c0] w fun e w' => e = .returned (.bool r) ∧ Drawn0 w w' := by
 have HR0 := am hr0
 have HC0 := am hc0
 clear hr0 hc0
 have H : (spec_l10All.l0 k l0 0) = some r := h
 clear h
 have H' := am H
 clear H
 go_enter Try.func232, Try.ntmps232
 go_wp2
 go_loopg [3] k (fun kq v3 w' => ∃ (x3_1 : Int), v3 = .int .i64 x3_1 ∧ Aside0 (spec_l10All.l0 kq l0 x3_1 = some r) ∧ Aside0 (kq ≤ k) ∧ Drawn0 w w')
 case atStart => exact ⟨(0), rr, H', ⟨Nat.le_refl _⟩, dw⟩
 case round =>
  clear H'
  obtain ⟨x3_1, rfl, HA, HK1, ⟨m1, rfl⟩⟩ := hrel
  cases gk with
  | zero => exact absurd HA.out (by simp [spec_l10All.l0])
  | succ k1 =>
   have H := HA.out
   clear HA
   simp only [spec_l10All.l0] at H
   replace H := gi H; obtain ⟨c2b0, H⟩ | ⟨c2b0, H⟩ := H
   ·replace H := gd H; obtain ⟨c3b0, H⟩ := H
    replace H := ga H; obtain ⟨t1529, A4, H⟩ := H
    replace H := gb H; obtain ⟨rfl, H⟩ | ⟨rfl, H⟩ := H
    ·have H' := am H
     clear H
     obtain ⟨⟨ad1528, e1528, hx1528_0⟩, p1528, q1528⟩ := pq (Kd.at_int HR0.out x3_1)
     cases e1528
     go_wp2_with (first | ((with_reducible refine gate_callee (f := 205) rfl ?_); refine gl (some 14) Try.func205 #[.int .i64 (rd l0 x3_1)] ?_; (with_reducible refine (spec_l2Small.calls (rd l0 x3_1) true _ A4.out).mono ?_); rintro e w' ⟨rfl, ⟨nd, rfl⟩⟩; refine ⟨_, rfl, ?_⟩))
     go_roundg k1
     case measure => have := HK1.out; omega
     case rel => exact ⟨(wrap64 (x3_1 + 1)), rr, H', ⟨by have := HK1.out; omega⟩, dw⟩
    ·obtain rfl := Option.some.inj H
     obtain ⟨⟨ad1528, e1528, hx1528_0⟩, p1528, q1528⟩ := pq (Kd.at_int HR0.out x3_1)
     cases e1528
     go_wp2_with (first | ((with_reducible refine gate_callee (f := 205) rfl ?_); refine gl (some 14) Try.func205 #[.int .i64 (rd l0 x3_1)] ?_; (with_reducible refine (spec_l2Small.calls (rd l0 x3_1) false _ A4.out).mono ?_); rintro e w' ⟨rfl, ⟨nd, rfl⟩⟩; refine ⟨_, rfl, ?_⟩))
     go_ret
     exact ⟨rr, dw⟩
   ·obtain rfl := Option.some.inj H
    go_wp2
    go_ret
    exact ⟨rr, dw⟩


/-! ### spec_l10Top: function 212 -/
mutual
def spec_l10Top.j0 : Nat → List Int → Bool → List Int → Bool → List Int → Option (List Int)
 | 0, _, _, _, _, _ => none
 | k + 1, x1, x2, x7, x21, x1531000 => if x21 = true then (some x7) else (spec_l10Top.l0 k x1 x2 x7 0 x1531000)
def spec_l10Top.l0 : Nat → List Int → Bool → List Int → Int → List Int → Option (List Int)
 | 0, _, _, _, _, _ => none
 | k + 1, x1, x2, x7, x8, x1531000 => if x8 < (x1.length : Int) then (spec_l10Top.l1 k x1 x2 x7 x8 true 0 x1531000) else ((spec_SortList.f k x7).bind fun t1536 => (some t1536))
def spec_l10Top.l1 : Nat → List Int → Bool → List Int → Int → Bool → Int → List Int → Option (List Int)
 | 0, _, _, _, _, _, _, _ => none
 | k + 1, x1, x2, x7, x8, x9, x10, x1531000 => if x10 < (x1.length : Int) then (if 0 ≤ x8 then (if x8 < (x1.length : Int) then (if 0 ≤ x10 then (if x9 = true then (if (rd x1 x8) = (rd x1 x10) then (spec_l10Top.l1 k x1 x2 x7 x8 true (wrap64 (x10 + 1)) x1531000) else (if x2 = true then ((spec_l3Has.f k x1531000 (wrap64 ((rd x1 x8) - (rd x1 x10)))).bind fun t1541 => (spec_l10Top.l1 k x1 x2 x7 x8 (!t1541) (wrap64 (x10 + 1)) x1531000)) else ((spec_l3Has.f k x1531000 (wrap64 ((rd x1 x10) - (rd x1 x8)))).bind fun t1542 => (if t1542 = true then (spec_l10Top.l1 k x1 x2 x7 x8 false (wrap64 (x10 + 1)) x1531000) else (spec_l10Top.l1 k x1 x2 x7 x8 true (wrap64 (x10 + 1)) x1531000))))) else (spec_l10Top.l1 k x1 x2 x7 x8 false (wrap64 (x10 + 1)) x1531000)) else (none)) else (none)) else (none)) else (if x9 = true then (if 0 ≤ x8 then (if x8 < (x1.length : Int) then (if x7.length < 17592186044416 then (spec_l10Top.l0 k x1 x2 (x7 ++ [rd x1 x8]) (wrap64 (x8 + 1)) x1531000) else (none)) else (none)) else (none)) else (spec_l10Top.l0 k x1 x2 x7 (wrap64 (x8 + 1)) x1531000))
end
def spec_l10Top.f (k : Nat) (l0_0 : List Int) (l1 : List Int) (a2 : Bool) : Option (List Int) := (some (([] : List Int) : List Int)).bind fun y1531 => ((spec_IsSemigroup.f k l0_0).bind fun t1534 => (if t1534 = true then ((spec_l10All.f k l1).bind fun t1535 => (spec_l10Top.j0 k l1 a2 y1531 (!t1535) l0_0)) else (spec_l10Top.j0 k l1 a2 y1531 true l0_0)))
set_option maxHeartbeats 8000000 in
set_option maxRecDepth 100000 in
theorem spec_l10Top.calls (k : Nat) (A0_0 : Option Addr) (c0_0 : Nat) (l0_0 : List Int) (A1 : Option Addr) (c1 : Nat) (l1 : List Int) (a2 : Bool) (r : List Int) (w : World) (hr0_0 : Kd.C (Kd.int .i64) w A0_0 l0_0.length l0_0) (hc0_0 : l0_0.length ≤ c0_0) (hr1 : Kd.C (Kd.int .i64) w A1 l1.length l1) (hc1 : l1.length ≤ c1) (h : spec_l10Top.f k l0_0 l1 a2 = some r) :
  Calls Try.prog 212 #[.agg #[.slice A0_0 l0_0.length c0_0], .slice A1 l1.length c1, .bool a2] w fun e w' => ∃ v0_ : Value, e = .returned (v0_) ∧ Kd.R (Kd.int .i64) 3 w' w.heap.size (fun _ => True) v0_ r ∧ Below w.heap.size w w' := by
 have hu26 := Try.underlying26
 have HR0_0 := am hr0_0
 have HC0_0 := am hc0_0
 clear hr0_0 hc0_0
 have HR1 := am hr1
 have HC1 := am hc1
 clear hr1 hc1
 have HB := am (Below.refl w.heap.size w)
 have H : ((some (([] : List Int) : List Int)).bind fun y1531 => ((spec_IsSemigroup.f k l0_0).bind fun t1534 => (if t1534 = true then ((spec_l10All.f k l1).bind fun t1535 => (spec_l10Top.j0 k l1 a2 y1531 (!t1535) l0_0)) else (spec_l10Top.j0 k l1 a2 y1531 true l0_0)))) = some r := h
 clear h
 obtain ⟨y1531, hy1531⟩ : ∃ y_ : List Int, y_ = (([] : List Int)) := ⟨_, rfl⟩
 replace H : ((spec_IsSemigroup.f k l0_0).bind fun t1534 => (if t1534 = true then ((spec_l10All.f k l1).bind fun t1535 => (spec_l10Top.j0 k l1 a2 y1531 (!t1535) l0_0)) else (spec_l10Top.j0 k l1 a2 y1531 true l0_0))) = some r := by first | (rw [hy1531]; with_reducible exact H) | (have H2_ := (Option.bind_some _ _).symm.trans H; rw [hy1531]; with_reducible exact H2_) | (have H2_ := (Option.bind_some _ _).symm.trans H; with_reducible exact H2_) | with_reducible exact H | (rw [hy1531]; exact H) | exact H
 have Ny1531 := am hy1531
 clear hy1531
 have HC4 := am H
 clear H
 go_enter Try.func212, Try.ntmps212
 go_upto_region 2 with (first | ((with_reducible refine gate_dst (N := 3) rfl ?_); refine bx 3 #[.slice A0_0 l0_0.length c0_0] 26 ?_; intro gb1530 hg w5 hbox hb; have BK1530 := am (hbox); have GW1530 := am (gs hg : w.heap.size ≤ gb1530); have GE1530 := GW1530; replace HB := am (below_step bw hb); clear hb hbox hg) | ((with_reducible refine gate_dst (N := 13) rfl ?_); refine Kd.R_lit (Kd.int .i64) _ 3 ?hg (N := 13) ?hd (xs := ([] : List Int)) (inner := []) (ok := fun _ => True) (okp := fun _ => True) ?hr ?hp (fun _ hk => hk) trivial (Below.refl _ _) (Nat.le_refl _) (by simp) ?_; (case hd => rfl); (case hg => rfl); (case hr => first | (go_simp; done) | (go_simp; rfl)); (case hp => exact (Reps.none _ _)); intro v1532 w6 ho7 hb hg_ hnew_; clear hg_ hnew_; (first | rw [← Ny1531.out] at ho7 | (simp only [Int.reduceToNat] at ho7; rw [← Ny1531.out] at ho7)); have HO1533 := am (Kd.R_lower ho7 (below_size bw)); replace BK1530 := kb BK1530 hb; replace HB := am (below_step bw hb); clear hb ho7))
 (try simp only [Act.put, List.setIfInBounds_toArray, List.set_cons_zero, List.set_cons_succ])
 go_cut [21] (fun v21 wc => ∃ (kq : Nat) (x21_3 : Bool), v21 = .bool x21_3 ∧ Aside0 (spec_l10Top.j0 kq l1 a2 y1531 x21_3 l0_0 = some r) ∧ Aside0 (kq ≤ k) ∧ Aside0 (Kd.R (Kd.int .i64) 3 wc w.heap.size (fun _ => True) v1532 y1531) ∧ Aside0 (wc.heap[gb1530]? = some (.cells #[(.slice A0_0 l0_0.length c0_0)] 26 (0, 0))) ∧ Aside0 (Below w.heap.size w wc))
 case first =>
  have H := HC4.out
  clear HC4
  replace H := ga H; obtain ⟨t1534, A8, H⟩ := H
  replace H := gb H; obtain ⟨rfl, H⟩ | ⟨rfl, H⟩ := H
  ·replace H := ga H; obtain ⟨t1535, A10, H⟩ := H
   have H' := am H
   clear H
   have hcz11_0 := bc BK1530 0 (.slice A0_0 l0_0.length c0_0)
   have hfz11_0 := blk_frozen BK1530.out 0
   go_wp2_with (first | ((with_reducible refine gate_callee (f := 23) rfl ?_); refine gl (some 15) Try.func23 #[.agg #[.slice A0_0 l0_0.length c0_0]] ?_; (with_reducible refine (spec_IsSemigroup.calls k _ _ l0_0 true _ ?side1 ?side2 A8.out).mono ?_); (case side1 => exact co (Kd.C_below HR0_0.out HB.out)); (case side2 => exact HC0_0.out); rintro e w12 ⟨rfl, hb⟩; refine ⟨_, rfl, ?_⟩; replace HO1533 := am (Kd.R_below (ro HO1533.out) hb); replace BK1530 := kb BK1530 hb; replace HB := am (below_step bw hb); clear hb) | (go_at_call 232; (with_reducible refine (spec_l10All.calls k _ _ l1 t1535 _ ?side1 ?side2 A10.out).mono ?_); (case side1 => exact co (Kd.C_below HR1.out HB.out)); (case side2 => exact HC1.out); rintro e w' ⟨rfl, ⟨nd, rfl⟩⟩))
   go_meet
   case rel => exact ⟨_, (!t1535), rr, H', ⟨om⟩, ⟨ro HO1533.out⟩, ⟨bo BK1530.out⟩, ⟨bw⟩⟩
  ·have H' := am H
   clear H
   have hcz13_0 := bc BK1530 0 (.slice A0_0 l0_0.length c0_0)
   have hfz13_0 := blk_frozen BK1530.out 0
   go_wp2_with (first | ((with_reducible refine gate_callee (f := 23) rfl ?_); refine gl (some 15) Try.func23 #[.agg #[.slice A0_0 l0_0.length c0_0]] ?_; (with_reducible refine (spec_IsSemigroup.calls k _ _ l0_0 false _ ?side1 ?side2 A8.out).mono ?_); (case side1 => exact co (Kd.C_below HR0_0.out HB.out)); (case side2 => exact HC0_0.out); rintro e w14 ⟨rfl, hb⟩; refine ⟨_, rfl, ?_⟩; replace HO1533 := am (Kd.R_below (ro HO1533.out) hb); replace BK1530 := kb BK1530 hb; replace HB := am (below_step bw hb); clear hb))
   go_meet
   case rel => exact ⟨_, (true), rr, H', ⟨om⟩, ⟨ro HO1533.out⟩, ⟨bo BK1530.out⟩, ⟨bw⟩⟩
 case rest =>
  clear HC4
  try clear c1; try clear hcz11_0; try clear hcz13_0; try clear hfz11_0; try clear hfz13_0
  obtain ⟨kq, x21_3, rfl, HA, HJ3, HO_7, BK1530, HB⟩ := hcut
  cases kq with
  | zero => exact absurd HA.out (by simp [spec_l10Top.j0])
  | succ kj3 =>
   have H := HA.out
   clear HA
   simp only [spec_l10Top.j0] at H
   replace H := gb H; obtain ⟨rfl, H⟩ | ⟨rfl, H⟩ := H
   ·obtain rfl := Option.some.inj H
    go_wp2
    go_ret
    exact ⟨_, re, ro HO_7.out, bw⟩
   ·have H' := am H
    clear H
    go_wp2
    go_loopg [7, 8] kj3 (fun kq v7 v8 w' => ∃ (x7_2 : List Int) (x8_2 : Int), v8 = .int .i64 x8_2 ∧ Aside0 (spec_l10Top.l0 kq l1 a2 x7_2 x8_2 l0_0 = some r) ∧ Aside0 (kq ≤ kj3) ∧ Aside0 (Kd.R (Kd.int .i64) 3 w' w.heap.size (fun _ => True) v7 x7_2) ∧ Aside0 (w'.heap[gb1530]? = some (.cells #[(.slice A0_0 l0_0.length c0_0)] 26 (0, 0))) ∧ Aside0 (Below w.heap.size w w'))
    case atStart => exact ⟨(y1531), (0), rr, H', ⟨Nat.le_refl _⟩, ⟨ro HO_7.out⟩, ⟨bo BK1530.out⟩, ⟨bw⟩⟩
    case round =>
     clear H'
     try clear c1; try clear hcz11_0; try clear hcz13_0; try clear hfz11_0; try clear hfz13_0
     obtain ⟨x7_2, x8_2, rfl, HA, HK2, HO_7, BK1530, HB⟩ := hrel
     cases gk with
     | zero => exact absurd HA.out (by simp [spec_l10Top.l0])
     | succ k2 =>
      have H := HA.out
      clear HA
      simp only [spec_l10Top.l0] at H
      replace H := gi H; obtain ⟨c16b0, H⟩ | ⟨c16b0, H⟩ := H
      ·have H' := am H
       clear H
       go_wp2
       go_loopg [9, 10] k2 (fun kq v9 v10 w' => ∃ (x9_3 : Bool) (x10_3 : Int), v9 = .bool x9_3 ∧ v10 = .int .i64 x10_3 ∧ Aside0 (spec_l10Top.l1 kq l1 a2 x7_2 x8_2 x9_3 x10_3 l0_0 = some r) ∧ Aside0 (kq ≤ k2) ∧ Aside0 (Kd.R (Kd.int .i64) 3 w' w.heap.size (fun _ => True) u7 x7_2) ∧ Aside0 (w'.heap[gb1530]? = some (.cells #[(.slice A0_0 l0_0.length c0_0)] 26 (0, 0))) ∧ Aside0 (Below w.heap.size w w'))
       case atStart => exact ⟨(true), (0), rr, rr, H', ⟨Nat.le_refl _⟩, ⟨ro HO_7.out⟩, ⟨bo BK1530.out⟩, ⟨bw⟩⟩
       case round =>
        clear H'
        try clear c1; try clear c16b0; try clear hcz11_0; try clear hcz13_0; try clear hfz11_0; try clear hfz13_0
        obtain ⟨x9_3, x10_3, rfl, rfl, HA, HK3, HO_7, BK1530, HB⟩ := hrel
        cases gk with
        | zero => exact absurd HA.out (by simp [spec_l10Top.l1])
        | succ k3 =>
         have H := HA.out
         clear HA
         simp only [spec_l10Top.l1] at H
         replace H := gi H; obtain ⟨c17b0, H⟩ | ⟨c17b0, H⟩ := H
         ·replace H := gd H; obtain ⟨c18b0, H⟩ := H
          replace H := gd H; obtain ⟨c19b0, H⟩ := H
          replace H := gd H; obtain ⟨c20b0, H⟩ := H
          replace H := gb H; obtain ⟨rfl, H⟩ | ⟨rfl, H⟩ := H
          ·by_cases c22 : (rd l1 x8_2) = (rd l1 x10_3)
           ·rw [if_pos c22] at H
            have c22b0 : ((rd l1 x8_2) == (rd l1 x10_3)) = true := beq_iff_eq.mpr c22
            have c22b1 : ((rd l1 x8_2) != (rd l1 x10_3)) = false := bne_eq_false_iff_eq.mpr c22
            clear c22
            have H' := am H
            clear H
            obtain ⟨⟨ad1539, e1539, hx1539_0⟩, p1539, q1539⟩ := pq (Kd.at_int HR1.out x8_2)
            cases e1539
            replace hx1539_0 := (HB.out.cell (World.block_lt_of_cell? w _ hx1539_0)).trans hx1539_0
            obtain ⟨⟨ad1540, e1540, hx1540_0⟩, p1540, q1540⟩ := pq (Kd.at_int HR1.out x10_3)
            obtain rfl : ad1539 = ad1540 := (by injection e1540)
            replace hx1540_0 := (HB.out.cell (World.block_lt_of_cell? w _ hx1540_0)).trans hx1540_0
            go_wp2
            go_roundg k3
            case measure => have := HJ3.out; have := HK2.out; have := HK3.out; omega
            case rel => exact ⟨(true), (wrap64 (x10_3 + 1)), rr, rr, H', ⟨by have := HJ3.out; have := HK2.out; have := HK3.out; omega⟩, ⟨ro HO_7.out⟩, ⟨bo BK1530.out⟩, ⟨bw⟩⟩
           ·rw [if_neg c22] at H
            have c22b0 : ((rd l1 x8_2) == (rd l1 x10_3)) = false := beq_eq_false_iff_ne.mpr c22
            have c22b1 : ((rd l1 x8_2) != (rd l1 x10_3)) = true := bne_iff_ne.mpr c22
            replace H := gb H; obtain ⟨rfl, H⟩ | ⟨rfl, H⟩ := H
            ·replace H := ga H; obtain ⟨t1541, A24, H⟩ := H
             have H' := am H
             clear H
             obtain ⟨⟨ad1539, e1539, hx1539_0⟩, p1539, q1539⟩ := pq (Kd.at_int HR1.out x8_2)
             cases e1539
             replace hx1539_0 := (HB.out.cell (World.block_lt_of_cell? w _ hx1539_0)).trans hx1539_0
             obtain ⟨⟨ad1540, e1540, hx1540_0⟩, p1540, q1540⟩ := pq (Kd.at_int HR1.out x10_3)
             obtain rfl : ad1539 = ad1540 := (by injection e1540)
             replace hx1540_0 := (HB.out.cell (World.block_lt_of_cell? w _ hx1540_0)).trans hx1540_0
             have hcz25_0 := bc BK1530 0 (.slice A0_0 l0_0.length c0_0)
             have hfz25_0 := blk_frozen BK1530.out 0
             go_wp2_with (first | (go_at_call 154; (with_reducible refine (spec_l3Has.calls k3 _ _ l0_0 (wrap64 ((rd l1 x8_2) - (rd l1 x10_3))) t1541 _ ?side1 ?side2 A24.out).mono ?_); (case side1 => exact co (Kd.C_below HR0_0.out HB.out)); (case side2 => exact HC0_0.out); rintro e w26 ⟨rfl, hb⟩; replace HO_7 := am (Kd.R_below (ro HO_7.out) hb); replace BK1530 := kb BK1530 hb; replace HB := am (below_step bw hb); clear hb))
             go_roundg k3
             case measure => have := HJ3.out; have := HK2.out; have := HK3.out; omega
             case rel => exact ⟨(!t1541), (wrap64 (x10_3 + 1)), rr, rr, H', ⟨by have := HJ3.out; have := HK2.out; have := HK3.out; omega⟩, ⟨ro HO_7.out⟩, ⟨bo BK1530.out⟩, ⟨bw⟩⟩
            ·replace H := ga H; obtain ⟨t1542, A27, H⟩ := H
             replace H := gb H; obtain ⟨rfl, H⟩ | ⟨rfl, H⟩ := H
             ·have H' := am H
              clear H
              obtain ⟨⟨ad1539, e1539, hx1539_0⟩, p1539, q1539⟩ := pq (Kd.at_int HR1.out x8_2)
              cases e1539
              replace hx1539_0 := (HB.out.cell (World.block_lt_of_cell? w _ hx1539_0)).trans hx1539_0
              obtain ⟨⟨ad1540, e1540, hx1540_0⟩, p1540, q1540⟩ := pq (Kd.at_int HR1.out x10_3)
              obtain rfl : ad1539 = ad1540 := (by injection e1540)
              replace hx1540_0 := (HB.out.cell (World.block_lt_of_cell? w _ hx1540_0)).trans hx1540_0
              have hcz29_0 := bc BK1530 0 (.slice A0_0 l0_0.length c0_0)
              have hfz29_0 := blk_frozen BK1530.out 0
              go_wp2_with (first | (go_at_call 154; (with_reducible refine (spec_l3Has.calls k3 _ _ l0_0 (wrap64 ((rd l1 x10_3) - (rd l1 x8_2))) true _ ?side1 ?side2 A27.out).mono ?_); (case side1 => exact co (Kd.C_below HR0_0.out HB.out)); (case side2 => exact HC0_0.out); rintro e w30 ⟨rfl, hb⟩; replace HO_7 := am (Kd.R_below (ro HO_7.out) hb); replace BK1530 := kb BK1530 hb; replace HB := am (below_step bw hb); clear hb))
              go_roundg k3
              case measure => have := HJ3.out; have := HK2.out; have := HK3.out; omega
              case rel => exact ⟨(false), (wrap64 (x10_3 + 1)), rr, rr, H', ⟨by have := HJ3.out; have := HK2.out; have := HK3.out; omega⟩, ⟨ro HO_7.out⟩, ⟨bo BK1530.out⟩, ⟨bw⟩⟩
             ·have H' := am H
              clear H
              obtain ⟨⟨ad1539, e1539, hx1539_0⟩, p1539, q1539⟩ := pq (Kd.at_int HR1.out x8_2)
              cases e1539
              replace hx1539_0 := (HB.out.cell (World.block_lt_of_cell? w _ hx1539_0)).trans hx1539_0
              obtain ⟨⟨ad1540, e1540, hx1540_0⟩, p1540, q1540⟩ := pq (Kd.at_int HR1.out x10_3)
              obtain rfl : ad1539 = ad1540 := (by injection e1540)
              replace hx1540_0 := (HB.out.cell (World.block_lt_of_cell? w _ hx1540_0)).trans hx1540_0
              have hcz31_0 := bc BK1530 0 (.slice A0_0 l0_0.length c0_0)
              have hfz31_0 := blk_frozen BK1530.out 0
              go_wp2_with (first | (go_at_call 154; (with_reducible refine (spec_l3Has.calls k3 _ _ l0_0 (wrap64 ((rd l1 x10_3) - (rd l1 x8_2))) false _ ?side1 ?side2 A27.out).mono ?_); (case side1 => exact co (Kd.C_below HR0_0.out HB.out)); (case side2 => exact HC0_0.out); rintro e w32 ⟨rfl, hb⟩; replace HO_7 := am (Kd.R_below (ro HO_7.out) hb); replace BK1530 := kb BK1530 hb; replace HB := am (below_step bw hb); clear hb))
              go_roundg k3
              case measure => have := HJ3.out; have := HK2.out; have := HK3.out; omega
              case rel => exact ⟨(true), (wrap64 (x10_3 + 1)), rr, rr, H', ⟨by have := HJ3.out; have := HK2.out; have := HK3.out; omega⟩, ⟨ro HO_7.out⟩, ⟨bo BK1530.out⟩, ⟨bw⟩⟩
          ·have H' := am H
           clear H
           obtain ⟨⟨ad1539, e1539, hx1539_0⟩, p1539, q1539⟩ := pq (Kd.at_int HR1.out x8_2)
           cases e1539
           replace hx1539_0 := (HB.out.cell (World.block_lt_of_cell? w _ hx1539_0)).trans hx1539_0
           obtain ⟨⟨ad1540, e1540, hx1540_0⟩, p1540, q1540⟩ := pq (Kd.at_int HR1.out x10_3)
           obtain rfl : ad1539 = ad1540 := (by injection e1540)
           replace hx1540_0 := (HB.out.cell (World.block_lt_of_cell? w _ hx1540_0)).trans hx1540_0
           go_wp2
           go_roundg k3
           case measure => have := HJ3.out; have := HK2.out; have := HK3.out; omega
           case rel => exact ⟨(false), (wrap64 (x10_3 + 1)), rr, rr, H', ⟨by have := HJ3.out; have := HK2.out; have := HK3.out; omega⟩, ⟨ro HO_7.out⟩, ⟨bo BK1530.out⟩, ⟨bw⟩⟩
         ·replace H := gb H; obtain ⟨rfl, H⟩ | ⟨rfl, H⟩ := H
          ·replace H := gd H; obtain ⟨c34b0, H⟩ := H
           replace H := gd H; obtain ⟨c35b0, H⟩ := H
           by_cases c36 : x7_2.length < 17592186044416
           rotate_left
           ·rw [if_neg c36] at H
            exact absurd H (by simp)
           rw [if_pos c36] at H
           have LMc36 := am c36
           clear c36
           obtain ⟨y1544, hy1544⟩ : ∃ y_ : List Int, y_ = (x7_2 ++ [rd l1 x8_2]) := ⟨_, rfl⟩
           replace H : (spec_l10Top.l0 k3 l1 a2 y1544 (wrap64 (x8_2 + 1)) l0_0) = some r := by first | (rw [hy1544]; with_reducible exact H) | (have H2_ := (Option.bind_some _ _).symm.trans H; rw [hy1544]; with_reducible exact H2_) | (have H2_ := (Option.bind_some _ _).symm.trans H; with_reducible exact H2_) | with_reducible exact H | (rw [hy1544]; exact H) | exact H
           have Ny1544 := am hy1544
           clear hy1544
           have H' := am H
           clear H
           obtain ⟨⟨ad1543, e1543, hx1543_0⟩, p1543, q1543⟩ := pq (Kd.at_int HR1.out x8_2)
           cases e1543
           replace hx1543_0 := (HB.out.cell (World.block_lt_of_cell? w _ hx1543_0)).trans hx1543_0
           go_wp2_with (first | ((with_reducible refine gate_builtin (b := .append) (xs := #[.tmp 73, .tmp 78]) rfl ?_); at_builtin; refine Kd.R_append (Kd.int .i64) (w0 := w) w.heap.size rfl (.tmp 73) (.tmp 78) 24 3 (.int .i64 0) 8 rfl Try.underlying24 info3 rfl (by decide) (by omega) u7 x7_2 (rd l1 x8_2) [.int .i64 (rd l1 x8_2)] (fun _ => True) (fun _ => False) rfl rfl ?aP (fun _ hk => hk.elim) ?aF ?aO ?aB ?aS ?aL ?_; (case aP => exact rfl); (case aB => exact bw); (case aF => exact (fun _ _ => trivial)); (case aO => exact (ro HO_7.out)); (case aS => exact (below_size bw)); (case aL => have := LMc36.out; omega); intro v1545 w37 ho hb hg hat; rw [← Ny1544.out] at ho; replace BK1530 := am (blk_grown (g := gb1530) (o := .cells #[.slice A0_0 l0_0.length c0_0] 26 (0, 0)) (bo BK1530.out) hg (Kd.R_ne HO_7.out BK1530.out (by decide))); replace HB := am (hb); have HO1546 := am (ho); clear HO_7 ho hb hg hat))
           go_roundg k3
           case measure => have := HJ3.out; have := HK2.out; have := HK3.out; omega
           case rel => exact ⟨(y1544), (wrap64 (x8_2 + 1)), rr, H', ⟨by have := HJ3.out; have := HK2.out; have := HK3.out; omega⟩, ⟨ro HO1546.out⟩, ⟨bo BK1530.out⟩, ⟨bw⟩⟩
          ·have H' := am H
           clear H
           go_wp2
           go_roundg k3
           case measure => have := HJ3.out; have := HK2.out; have := HK3.out; omega
           case rel => exact ⟨(x7_2), (wrap64 (x8_2 + 1)), rr, H', ⟨by have := HJ3.out; have := HK2.out; have := HK3.out; omega⟩, ⟨ro HO_7.out⟩, ⟨bo BK1530.out⟩, ⟨bw⟩⟩
      ·replace H := ga H; obtain ⟨t1536, A38, H⟩ := H
       obtain rfl := Option.some.inj H
       obtain ⟨Ao39, co39, eo39⟩ := Kd.R_slice HO_7.out
       subst eo39
       go_wp2_with (first | ((with_reducible refine gate_callee (f := 93) rfl ?_); refine gl (some 81) Try.func93 #[.slice Ao39 x7_2.length co39] ?_; (with_reducible refine (spec_SortList.calls k2 _ _ x7_2 t1536 _ ?side1 ?side2 A38.out).mono ?_); (case side1 => exact co (Kd.R_reads' HO_7.out).2.2); (case side2 => exact (Kd.R_reads' HO_7.out).2.1); rintro e w40 ⟨v1537, rfl, ho0, hb⟩; refine ⟨_, rfl, ?_⟩; have HO1538 := am (Kd.R_lower (Kd.R_new' ho0 (Kd.R_lt (ro HO_7.out))) (below_size bw)); replace HO_7 := am (Kd.R_elder' (ro HO_7.out) (Kd.R_base ho0) hb); replace BK1530 := kb BK1530 hb; replace HB := am (below_step bw hb); clear hb ho0))
       go_ret
       exact ⟨_, re, by (with_reducible repeat (first | apply Kd.R_alloc | apply Kd.R_drewN | apply Kd.R_drew)); exact Kd.R_mono HO1538.out (fun _ hk => trivial), bw⟩


/-! ### spec_MinimalIn: function 126 -/
def spec_MinimalIn.f (k : Nat) (l0_0 : List Int) (l1 : List Int) : Option (List Int) := (spec_l10Top.f k l0_0 l1 true).bind fun t1584 => (some t1584)
set_option maxHeartbeats 8000000 in
set_option maxRecDepth 100000 in
theorem spec_MinimalIn.calls (k : Nat) (A0_0 : Option Addr) (c0_0 : Nat) (l0_0 : List Int) (A1 : Option Addr) (c1 : Nat) (l1 : List Int) (r : List Int) (w : World) (hr0_0 : Kd.C (Kd.int .i64) w A0_0 l0_0.length l0_0) (hc0_0 : l0_0.length ≤ c0_0) (hr1 : Kd.C (Kd.int .i64) w A1 l1.length l1) (hc1 : l1.length ≤ c1) (h : spec_MinimalIn.f k l0_0 l1 = some r) :
  Calls Try.prog 126 #[.agg #[.slice A0_0 l0_0.length c0_0], .slice A1 l1.length c1] w fun e w' => ∃ v0_ : Value, e = .returned (v0_) ∧ Kd.R (Kd.int .i64) 3 w' w.heap.size (fun _ => True) v0_ r ∧ Below w.heap.size w w' := by
 have hu26 := Try.underlying26
 have HR0_0 := am hr0_0
 have HC0_0 := am hc0_0
 clear hr0_0 hc0_0
 have HR1 := am hr1
 have HC1 := am hc1
 clear hr1 hc1
 have HB := am (Below.refl w.heap.size w)
 have H : ((spec_l10Top.f k l0_0 l1 true).bind fun t1584 => (some t1584)) = some r := h
 clear h
 replace H := ga H; obtain ⟨t1584, A3, H⟩ := H
 obtain rfl := Option.some.inj H
 go_enter Try.func126, Try.ntmps126
 go_wp2_with (first | ((with_reducible refine gate_dst (N := 2) rfl ?_); refine bx 2 #[.slice A0_0 l0_0.length c0_0] 26 ?_; intro gb1583 hg w4 hbox hb; have BK1583 := am (hbox); have GW1583 := am (gs hg : w.heap.size ≤ gb1583); have GE1583 := GW1583; replace HB := am (below_step bw hb); clear hb hbox hg; have hcz5_0 := bc BK1583 0 (.slice A0_0 l0_0.length c0_0); have hfz5_0 := blk_frozen BK1583.out 0) | ((with_reducible refine gate_callee (f := 212) rfl ?_); refine gl (some 7) Try.func212 #[.agg #[.slice A0_0 l0_0.length c0_0], .slice A1 l1.length c1, .bool true] ?_; (with_reducible refine (spec_l10Top.calls k _ _ l0_0 _ _ l1 true t1584 _ ?side1 ?side2 ?side3 ?side4 A3.out).mono ?_); (case side1 => exact co (Kd.C_below HR0_0.out HB.out)); (case side2 => exact HC0_0.out); (case side3 => exact co (Kd.C_below HR1.out HB.out)); (case side4 => exact HC1.out); rintro e w6 ⟨v1585, rfl, ho0, hb⟩; refine ⟨_, rfl, ?_⟩; have HO1586 := am (Kd.R_lower ho0 (below_size bw)); replace BK1583 := kb BK1583 hb; replace HB := am (below_step bw hb); clear hb ho0))
 go_ret
 exact ⟨_, re, ro HO1586.out, bw⟩

end Go.Proofs.Ytkfplkdchkmgbaa.C
