/- Contracts of functions of the program: spec_PseudoFrobenius. -/
import Derived.Test.YtkfplkdchkmgbaaC0
import Derived.Test.YtkfplkdchkmgbaaC12
import Derived.Test.YtkfplkdchkmgbaaC21
namespace Go.Proofs.Ytkfplkdchkmgbaa.C
open Go.RowKit Go.Proofs.YtkfplkdchkmgbaaW.PrintWords Go.Proofs.YtkfplkdchkmgbaaW.PrintLast Go.Proofs.YtkfplkdchkmgbaaW.PrintMore
attribute [local go_sem] max2_int min2_int max_two min_two max_three min_three max_four min_four
set_option linter.unusedVariables false
set_option linter.unusedSimpArgs false

/-! ### spec_PseudoFrobenius: function 129 -/
mutual
def spec_PseudoFrobenius.l0 : Nat → List Int → List Int → Int → List Int → Option (List Int)
 | 0, _, _, _, _ => none
 | k + 1, x3, x4, x5, x1599000 => if x5 < (x4.length : Int) then (spec_PseudoFrobenius.l1 k x3 x4 x5 true 0 x1599000) else (some x3)
def spec_PseudoFrobenius.l1 : Nat → List Int → List Int → Int → Bool → Int → List Int → Option (List Int)
 | 0, _, _, _, _, _, _ => none
 | k + 1, x3, x4, x5, x6, x7, x1599000 => if x7 < (x1599000.length : Int) then (if x6 = true then (if 0 ≤ x5 then (if x5 < (x4.length : Int) then (if 0 ≤ x7 then ((spec_HasNumber.f k x4 (wrap64 ((rd x4 x5) + (rd x1599000 x7)))).bind fun t1607 => (spec_PseudoFrobenius.l1 k x3 x4 x5 (!t1607) (wrap64 (x7 + 1)) x1599000)) else (none)) else (none)) else (none)) else (spec_PseudoFrobenius.l1 k x3 x4 x5 false (wrap64 (x7 + 1)) x1599000)) else (if x6 = true then (if 0 ≤ x5 then (if x5 < (x4.length : Int) then (if x3.length < 17592186044416 then (spec_PseudoFrobenius.l0 k (x3 ++ [rd x4 x5]) x4 (wrap64 (x5 + 1)) x1599000) else (none)) else (none)) else (none)) else (spec_PseudoFrobenius.l0 k x3 x4 (wrap64 (x5 + 1)) x1599000))
end
def spec_PseudoFrobenius.f (k : Nat) (l0_0 : List Int) : Option (List Int) := (spec_Gaps.f k l0_0).bind fun t1602 => (spec_PseudoFrobenius.l0 k (([] : List Int)) t1602 0 l0_0)
set_option maxHeartbeats 8000000 in
set_option maxRecDepth 100000 in
theorem spec_PseudoFrobenius.calls (k : Nat) (A0_0 : Option Addr) (c0_0 : Nat) (l0_0 : List Int) (r : List Int) (w : World) (hr0_0 : Kd.C (Kd.int .i64) w A0_0 l0_0.length l0_0) (hc0_0 : l0_0.length ≤ c0_0) (h : spec_PseudoFrobenius.f k l0_0 = some r) :
  Calls Try.prog 129 #[.agg #[.slice A0_0 l0_0.length c0_0]] w fun e w' => ∃ v0_ : Value, e = .returned (v0_) ∧ Kd.R (Kd.int .i64) 3 w' w.heap.size (fun _ => True) v0_ r ∧ Below w.heap.size w w' := by
 have hu26 := Try.underlying26
 have HR0_0 := am hr0_0
 have HC0_0 := am hc0_0
 clear hr0_0 hc0_0
 have HB := am (Below.refl w.heap.size w)
 have H : ((spec_Gaps.f k l0_0).bind fun t1602 => (spec_PseudoFrobenius.l0 k (([] : List Int)) t1602 0 l0_0)) = some r := h
 clear h
 obtain ⟨y1599, hy1599⟩ : ∃ y_ : List Int, y_ = (([] : List Int)) := ⟨_, rfl⟩
 replace H : ((spec_Gaps.f k l0_0).bind fun t1602 => (spec_PseudoFrobenius.l0 k y1599 t1602 0 l0_0)) = some r := by first | (rw [hy1599]; with_reducible exact H) | (have H2_ := (Option.bind_some _ _).symm.trans H; rw [hy1599]; with_reducible exact H2_) | (have H2_ := (Option.bind_some _ _).symm.trans H; with_reducible exact H2_) | with_reducible exact H | (rw [hy1599]; exact H) | exact H
 have Ny1599 := am hy1599
 clear hy1599
 replace H := ga H; obtain ⟨t1602, A2, H⟩ := H
 have H' := am H
 clear H
 go_enter Try.func129, Try.ntmps129
 go_wp2_with (first | ((with_reducible refine gate_dst (N := 1) rfl ?_); refine bx 1 #[.slice A0_0 l0_0.length c0_0] 26 ?_; intro gb1598 hg w3 hbox hb; have BK1598 := am (hbox); have GW1598 := am (gs hg : w.heap.size ≤ gb1598); have GE1598 := GW1598; replace HB := am (below_step bw hb); clear hb hbox hg) | ((with_reducible refine gate_dst (N := 8) rfl ?_); refine Kd.R_lit (Kd.int .i64) _ 3 ?hg (N := 8) ?hd (xs := ([] : List Int)) (inner := []) (ok := fun _ => True) (okp := fun _ => True) ?hr ?hp (fun _ hk => hk) trivial (Below.refl _ _) (Nat.le_refl _) (by simp) ?_; (case hd => rfl); (case hg => rfl); (case hr => first | (go_simp; done) | (go_simp; rfl)); (case hp => exact (Reps.none _ _)); intro v1600 w4 ho5 hb hg_ hnew_; clear hg_ hnew_; (first | rw [← Ny1599.out] at ho5 | (simp only [Int.reduceToNat] at ho5; rw [← Ny1599.out] at ho5)); have HO1601 := am (Kd.R_lower ho5 (below_size bw)); replace BK1598 := kb BK1598 hb; replace HB := am (below_step bw hb); clear hb ho5; have hcz6_0 := bc BK1598 0 (.slice A0_0 l0_0.length c0_0); have hfz6_0 := blk_frozen BK1598.out 0) | (go_at_call 94; (with_reducible refine (spec_Gaps.calls k _ _ l0_0 t1602 _ ?side1 ?side2 A2.out).mono ?_); (case side1 => exact co (Kd.C_below HR0_0.out HB.out)); (case side2 => exact HC0_0.out); rintro e w7 ⟨v1603, rfl, ho0, hb⟩; have HO1604 := am (Kd.R_lower (Kd.R_new' ho0 (Kd.R_lt (ro HO1601.out))) (below_size bw)); replace HO1601 := am (Kd.R_elder' (ro HO1601.out) (Kd.R_base ho0) hb); replace BK1598 := kb BK1598 hb; replace HB := am (below_step bw hb); clear hb ho0))
 repeat (go_quiet (first | ((with_reducible refine gate_dst (N := 1) rfl ?_); refine bx 1 #[.slice A0_0 l0_0.length c0_0] 26 ?_; intro gb1598 hg w3 hbox hb; have n0_ := am (below_step bw hb); have n1_ := am (hbox); have n2_ := am (gs hg : w.heap.size ≤ gb1598); have n3_ := am (gs hg : w.heap.size ≤ gb1598); clear HB; have HB := n0_; have BK1598 := n1_; have GW1598 := n2_; have GE1598 := n3_; clear n0_ n1_ n2_ n3_; clear hb hbox hg) | ((with_reducible refine gate_dst (N := 8) rfl ?_); refine Kd.R_lit (Kd.int .i64) _ 3 ?hg (N := 8) ?hd (xs := ([] : List Int)) (inner := []) (ok := fun _ => True) (okp := fun _ => True) ?hr ?hp (fun _ hk => hk) trivial (Below.refl _ _) (Nat.le_refl _) (by simp) ?_; (case hd => rfl); (case hg => rfl); (case hr => first | (go_simp; done) | (go_simp; rfl)); (case hp => exact (Reps.none _ _)); intro v1600 w4 ho5 hb hg_ hnew_; clear hg_ hnew_; (first | rw [← Ny1599.out] at ho5 | (simp only [Int.reduceToNat] at ho5; rw [← Ny1599.out] at ho5)); have n0_ := am (Kd.R_lower ho5 (below_size bw)); have n1_ := am (blk_below (g := gb1598) (o := .cells #[.slice A0_0 l0_0.length c0_0] 26 (0, 0)) (bo BK1598.out) hb); have n2_ := am (below_step bw hb); clear BK1598; clear HB; have HO1601 := n0_; have BK1598 := n1_; have HB := n2_; clear n0_ n1_ n2_; clear hb ho5; have hcz6_0 := bc BK1598 0 (.slice A0_0 l0_0.length c0_0); have hfz6_0 := blk_frozen BK1598.out 0) | (go_at_call 94; (with_reducible refine (spec_Gaps.calls k _ _ l0_0 t1602 _ ?side1 ?side2 A2.out).mono ?_); (case side1 => exact co (Kd.C_below HR0_0.out HB.out)); (case side2 => exact HC0_0.out); rintro e w7 ⟨v1603, rfl, ho0, hb⟩; have n0_ := am (Kd.R_elder' (ro HO1601.out) (Kd.R_base ho0) hb); have n1_ := am (Kd.R_lower (Kd.R_new' ho0 (Kd.R_lt (ro HO1601.out))) (below_size bw)); have n2_ := am (blk_below (g := gb1598) (o := .cells #[.slice A0_0 l0_0.length c0_0] 26 (0, 0)) (bo BK1598.out) hb); have n3_ := am (below_step bw hb); clear HO1601; clear BK1598; clear HB; have HO1601 := n0_; have HO1604 := n1_; have BK1598 := n2_; have HB := n3_; clear n0_ n1_ n2_ n3_; (try clear hb); (try clear hb2); (try clear hk); (try clear hi); (try clear ho0))); try go_wp2_with (first | ((with_reducible refine gate_dst (N := 1) rfl ?_); refine bx 1 #[.slice A0_0 l0_0.length c0_0] 26 ?_; intro gb1598 hg w3 hbox hb; have n0_ := am (below_step bw hb); have n1_ := am (hbox); have n2_ := am (gs hg : w.heap.size ≤ gb1598); have n3_ := am (gs hg : w.heap.size ≤ gb1598); clear HB; have HB := n0_; have BK1598 := n1_; have GW1598 := n2_; have GE1598 := n3_; clear n0_ n1_ n2_ n3_; clear hb hbox hg) | ((with_reducible refine gate_dst (N := 8) rfl ?_); refine Kd.R_lit (Kd.int .i64) _ 3 ?hg (N := 8) ?hd (xs := ([] : List Int)) (inner := []) (ok := fun _ => True) (okp := fun _ => True) ?hr ?hp (fun _ hk => hk) trivial (Below.refl _ _) (Nat.le_refl _) (by simp) ?_; (case hd => rfl); (case hg => rfl); (case hr => first | (go_simp; done) | (go_simp; rfl)); (case hp => exact (Reps.none _ _)); intro v1600 w4 ho5 hb hg_ hnew_; clear hg_ hnew_; (first | rw [← Ny1599.out] at ho5 | (simp only [Int.reduceToNat] at ho5; rw [← Ny1599.out] at ho5)); have n0_ := am (Kd.R_lower ho5 (below_size bw)); have n1_ := am (blk_below (g := gb1598) (o := .cells #[.slice A0_0 l0_0.length c0_0] 26 (0, 0)) (bo BK1598.out) hb); have n2_ := am (below_step bw hb); clear BK1598; clear HB; have HO1601 := n0_; have BK1598 := n1_; have HB := n2_; clear n0_ n1_ n2_; clear hb ho5; have hcz6_0 := bc BK1598 0 (.slice A0_0 l0_0.length c0_0); have hfz6_0 := blk_frozen BK1598.out 0) | (go_at_call 94; (with_reducible refine (spec_Gaps.calls k _ _ l0_0 t1602 _ ?side1 ?side2 A2.out).mono ?_); (case side1 => exact co (Kd.C_below HR0_0.out HB.out)); (case side2 => exact HC0_0.out); rintro e w7 ⟨v1603, rfl, ho0, hb⟩; have n0_ := am (Kd.R_elder' (ro HO1601.out) (Kd.R_base ho0) hb); have n1_ := am (Kd.R_lower (Kd.R_new' ho0 (Kd.R_lt (ro HO1601.out))) (below_size bw)); have n2_ := am (blk_below (g := gb1598) (o := .cells #[.slice A0_0 l0_0.length c0_0] 26 (0, 0)) (bo BK1598.out) hb); have n3_ := am (below_step bw hb); clear HO1601; clear BK1598; clear HB; have HO1601 := n0_; have HO1604 := n1_; have BK1598 := n2_; have HB := n3_; clear n0_ n1_ n2_ n3_; (try clear hb); (try clear hb2); (try clear hk); (try clear hi); (try clear ho0))))
 go_loopg [3, 5] k (fun kq v3 v5 w' => ∃ (x3_1 : List Int) (x5_1 : Int), v5 = .int .i64 x5_1 ∧ Aside0 (spec_PseudoFrobenius.l0 kq x3_1 t1602 x5_1 l0_0 = some r) ∧ Aside0 (kq ≤ k) ∧ Aside0 (Kd.R (Kd.int .i64) 3 w' w.heap.size (fun k_ => some k_ ≠ (v1603 : Value).ownBlock) v3 x3_1) ∧ Aside0 (Kd.R (Kd.int .i64) 3 w' w.heap.size (fun k_ => some k_ ≠ (v3 : Value).ownBlock) v1603 t1602) ∧ Aside0 (w'.heap[gb1598]? = some (.cells #[(.slice A0_0 l0_0.length c0_0)] 26 (0, 0))) ∧ Aside0 (Below w.heap.size w w'))
 case atStart => exact ⟨(y1599), (0), rr, H', ⟨Nat.le_refl _⟩, ⟨by (with_reducible repeat (first | apply Kd.R_alloc | apply Kd.R_drewN | apply Kd.R_drew)); exact Kd.R_mono HO1601.out (fun _ hk => hk.2)⟩, ⟨by (with_reducible repeat (first | apply Kd.R_alloc | apply Kd.R_drewN | apply Kd.R_drew)); exact Kd.R_mono HO1604.out (fun _ hk => hk.2)⟩, ⟨bo BK1598.out⟩, ⟨bw⟩⟩
 case round =>
  clear H'
  try clear hcz6_0; try clear hfz6_0
  obtain ⟨x3_1, x5_1, rfl, HA, HK1, HO_3, HO_4, BK1598, HB⟩ := hrel
  cases gk with
  | zero => exact absurd HA.out (by simp [spec_PseudoFrobenius.l0])
  | succ k1 =>
   have H := HA.out
   clear HA
   simp only [spec_PseudoFrobenius.l0] at H
   replace H := gi H; obtain ⟨c8b0, H⟩ | ⟨c8b0, H⟩ := H
   ·have H' := am H
    clear H
    obtain ⟨Ao9, co9, eo9⟩ := Kd.R_slice HO_4.out
    subst eo9
    go_wp2
    repeat (go_quiet (fail); try go_wp2)
    go_loopg [6, 7] k1 (fun kq v6 v7 w' => ∃ (x6_2 : Bool) (x7_2 : Int), v6 = .bool x6_2 ∧ v7 = .int .i64 x7_2 ∧ Aside0 (spec_PseudoFrobenius.l1 kq x3_1 t1602 x5_1 x6_2 x7_2 l0_0 = some r) ∧ Aside0 (kq ≤ k1) ∧ Aside0 (Kd.R (Kd.int .i64) 3 w' w.heap.size (fun k_ => some k_ ≠ ((.slice Ao9 t1602.length co9) : Value).ownBlock) u3 x3_1) ∧ Aside0 (Kd.R (Kd.int .i64) 3 w' w.heap.size (fun k_ => some k_ ≠ (u3 : Value).ownBlock) (.slice Ao9 t1602.length co9) t1602) ∧ Aside0 (w'.heap[gb1598]? = some (.cells #[(.slice A0_0 l0_0.length c0_0)] 26 (0, 0))) ∧ Aside0 (Below w.heap.size w w'))
    case atStart => exact ⟨(true), (0), rr, rr, H', ⟨Nat.le_refl _⟩, ⟨ro HO_3.out⟩, ⟨ro HO_4.out⟩, ⟨bo BK1598.out⟩, ⟨bw⟩⟩
    case round =>
     clear H'
     try clear c8b0; try clear hcz6_0; try clear hfz6_0
     obtain ⟨x6_2, x7_2, rfl, rfl, HA, HK2, HO_3, HO_4, BK1598, HB⟩ := hrel
     cases gk with
     | zero => exact absurd HA.out (by simp [spec_PseudoFrobenius.l1])
     | succ k2 =>
      have H := HA.out
      clear HA
      simp only [spec_PseudoFrobenius.l1] at H
      replace H := gi H; obtain ⟨c10b0, H⟩ | ⟨c10b0, H⟩ := H
      ·replace H := gb H; obtain ⟨rfl, H⟩ | ⟨rfl, H⟩ := H
       ·replace H := gd H; obtain ⟨c12b0, H⟩ := H
        replace H := gd H; obtain ⟨c13b0, H⟩ := H
        replace H := gd H; obtain ⟨c14b0, H⟩ := H
        replace H := ga H; obtain ⟨t1607, A15, H⟩ := H
        have H' := am H
        clear H
        have hcz16_0 := bc BK1598 0 (.slice A0_0 l0_0.length c0_0)
        have hfz16_0 := blk_frozen BK1598.out 0
        obtain ⟨⟨ad1605, e1605, hx1605_0⟩, p1605, q1605⟩ := pq (Kd.at_int (Kd.R_reads' HO_4.out).2.2 x5_1)
        cases e1605
        obtain ⟨⟨ad1606, e1606, hx1606_0⟩, p1606, q1606⟩ := pq (Kd.at_int HR0_0.out x7_2)
        cases e1606
        replace hx1606_0 := (HB.out.cell (World.block_lt_of_cell? w _ hx1606_0)).trans hx1606_0
        go_wp2_with (first | (go_at_call 117; (with_reducible refine (spec_HasNumber.calls k2 _ _ t1602 (wrap64 ((rd t1602 x5_1) + (rd l0_0 x7_2))) t1607 _ ?side1 ?side2 A15.out).mono ?_); (case side1 => exact co (Kd.R_reads' HO_4.out).2.2); (case side2 => exact (Kd.R_reads' HO_4.out).2.1); rintro e w' ⟨rfl, ⟨nd, rfl⟩⟩; (try first | exact ⟨rfl, _, World.drewN_drewN _ _ _⟩ | exact ⟨rfl, _, Eq.trans (World.drewN_drewN _ _ _) (congrArg (World.drewN _) (Nat.add_assoc _ _ _))⟩)))
        repeat (go_quiet (first | (go_at_call 117; (with_reducible refine (spec_HasNumber.calls k2 _ _ t1602 (wrap64 ((rd t1602 x5_1) + (rd l0_0 x7_2))) t1607 _ ?side1 ?side2 A15.out).mono ?_); (case side1 => exact co (Kd.R_reads' HO_4.out).2.2); (case side2 => exact (Kd.R_reads' HO_4.out).2.1); rintro e w' ⟨rfl, ⟨nd, rfl⟩⟩; (try first | exact ⟨rfl, _, World.drewN_drewN _ _ _⟩ | exact ⟨rfl, _, Eq.trans (World.drewN_drewN _ _ _) (congrArg (World.drewN _) (Nat.add_assoc _ _ _))⟩))); try go_wp2_with (first | (go_at_call 117; (with_reducible refine (spec_HasNumber.calls k2 _ _ t1602 (wrap64 ((rd t1602 x5_1) + (rd l0_0 x7_2))) t1607 _ ?side1 ?side2 A15.out).mono ?_); (case side1 => exact co (Kd.R_reads' HO_4.out).2.2); (case side2 => exact (Kd.R_reads' HO_4.out).2.1); rintro e w' ⟨rfl, ⟨nd, rfl⟩⟩; (try first | exact ⟨rfl, _, World.drewN_drewN _ _ _⟩ | exact ⟨rfl, _, Eq.trans (World.drewN_drewN _ _ _) (congrArg (World.drewN _) (Nat.add_assoc _ _ _))⟩))))
        go_roundg k2
        case measure => have := HK1.out; have := HK2.out; omega
        case rel => exact ⟨(!t1607), (wrap64 (x7_2 + 1)), rr, rr, H', ⟨by have := HK1.out; have := HK2.out; omega⟩, ⟨ro HO_3.out⟩, ⟨ro HO_4.out⟩, ⟨bo BK1598.out⟩, ⟨bw⟩⟩
       ·have H' := am H
        clear H
        have hcz17_0 := bc BK1598 0 (.slice A0_0 l0_0.length c0_0)
        have hfz17_0 := blk_frozen BK1598.out 0
        go_wp2
        repeat (go_quiet (fail); try go_wp2)
        go_roundg k2
        case measure => have := HK1.out; have := HK2.out; omega
        case rel => exact ⟨(false), (wrap64 (x7_2 + 1)), rr, rr, H', ⟨by have := HK1.out; have := HK2.out; omega⟩, ⟨ro HO_3.out⟩, ⟨ro HO_4.out⟩, ⟨bo BK1598.out⟩, ⟨bw⟩⟩
      ·replace H := gb H; obtain ⟨rfl, H⟩ | ⟨rfl, H⟩ := H
       ·replace H := gd H; obtain ⟨c19b0, H⟩ := H
        replace H := gd H; obtain ⟨c20b0, H⟩ := H
        by_cases c21 : x3_1.length < 17592186044416
        rotate_left
        ·rw [if_neg c21] at H
         exact absurd H (by simp)
        rw [if_pos c21] at H
        have LMc21 := am c21
        clear c21
        obtain ⟨y1609, hy1609⟩ : ∃ y_ : List Int, y_ = (x3_1 ++ [rd t1602 x5_1]) := ⟨_, rfl⟩
        replace H : (spec_PseudoFrobenius.l0 k2 y1609 t1602 (wrap64 (x5_1 + 1)) l0_0) = some r := by first | (rw [hy1609]; with_reducible exact H) | (have H2_ := (Option.bind_some _ _).symm.trans H; rw [hy1609]; with_reducible exact H2_) | (have H2_ := (Option.bind_some _ _).symm.trans H; with_reducible exact H2_) | with_reducible exact H | (rw [hy1609]; exact H) | exact H
        have Ny1609 := am hy1609
        clear hy1609
        have H' := am H
        clear H
        have hcz22_0 := bc BK1598 0 (.slice A0_0 l0_0.length c0_0)
        have hfz22_0 := blk_frozen BK1598.out 0
        obtain ⟨⟨ad1608, e1608, hx1608_0⟩, p1608, q1608⟩ := pq (Kd.at_int (Kd.R_reads' HO_4.out).2.2 x5_1)
        cases e1608
        go_wp2_with (first | ((with_reducible refine gate_builtin (b := .append) (xs := #[.tmp 41, .tmp 46]) rfl ?_); at_builtin; refine Kd.R_append (Kd.int .i64) (w0 := w) w.heap.size rfl (.tmp 41) (.tmp 46) 24 3 (.int .i64 0) 8 rfl Try.underlying24 info3 rfl (by decide) (by omega) u3 x3_1 (rd t1602 x5_1) [.int .i64 (rd t1602 x5_1)] (fun k_ => some k_ ≠ (.slice (some ad1608) t1602.length co9 : Value).ownBlock) (fun _ => False) rfl rfl ?aP (fun _ hk => hk.elim) ?aF ?aO ?aB ?aS ?aL ?_; (case aP => exact rfl); (case aB => exact bw); (case aF => exact (fun k_ hk => Kd.fresh' (Kd.R_lt (ro HO_4.out)) k_ hk)); (case aO => exact (ro HO_3.out)); (case aS => exact (below_size bw)); (case aL => have := LMc21.out; omega); intro v1610 w23 ho hb hg hat; rw [← Ny1609.out] at ho; replace HO_4 := am (Kd.R_after (ok := (fun _ => True)) (by (with_reducible repeat (first | apply Kd.R_alloc | apply Kd.R_drewN | apply Kd.R_drew)); exact Kd.R_mono HO_4.out (fun _ hk => ⟨trivial, by first | exact hk | exact (by intro a n m c x h; cases a <;> exact h : ∀ (a : Option Addr) (n m c x : Nat), some x ≠ (Value.slice a n c).ownBlock → some x ≠ (Value.slice a m c).ownBlock) _ _ _ _ _ hk⟩)) hg hat); replace BK1598 := am (blk_grown (g := gb1598) (o := .cells #[.slice A0_0 l0_0.length c0_0] 26 (0, 0)) (bo BK1598.out) hg (Kd.R_ne HO_3.out BK1598.out (by decide))); replace HB := am (hb); have HO1611 := am (ho); clear HO_3 ho hb hg hat))
        repeat (go_quiet (first | ((with_reducible refine gate_builtin (b := .append) (xs := #[.tmp 41, .tmp 46]) rfl ?_); at_builtin; refine Kd.R_append (Kd.int .i64) (w0 := w) w.heap.size rfl (.tmp 41) (.tmp 46) 24 3 (.int .i64 0) 8 rfl Try.underlying24 info3 rfl (by decide) (by omega) u3 x3_1 (rd t1602 x5_1) [.int .i64 (rd t1602 x5_1)] (fun k_ => some k_ ≠ (.slice (some ad1608) t1602.length co9 : Value).ownBlock) (fun _ => False) rfl rfl ?aP (fun _ hk => hk.elim) ?aF ?aO ?aB ?aS ?aL ?_; (case aP => exact rfl); (case aB => exact bw); (case aF => exact (fun k_ hk => Kd.fresh' (Kd.R_lt (ro HO_4.out)) k_ hk)); (case aO => exact (ro HO_3.out)); (case aS => exact (below_size bw)); (case aL => have := LMc21.out; omega); intro v1610 w23 ho hb hg hat; rw [← Ny1609.out] at ho; have n0_ := am (Kd.R_after (ok := (fun _ => True)) (by (with_reducible repeat (first | apply Kd.R_alloc | apply Kd.R_drewN | apply Kd.R_drew)); exact Kd.R_mono HO_4.out (fun _ hk => ⟨trivial, by first | exact hk | exact (by intro a n m c x h; cases a <;> exact h : ∀ (a : Option Addr) (n m c x : Nat), some x ≠ (Value.slice a n c).ownBlock → some x ≠ (Value.slice a m c).ownBlock) _ _ _ _ _ hk⟩)) hg hat); have n1_ := am (blk_grown (g := gb1598) (o := .cells #[.slice A0_0 l0_0.length c0_0] 26 (0, 0)) (bo BK1598.out) hg (Kd.R_ne HO_3.out BK1598.out (by decide))); have n2_ := am (hb); have n3_ := am (ho); clear HO_4; clear BK1598; clear HB; clear HO_3; have HO_4 := n0_; have BK1598 := n1_; have HB := n2_; have HO1611 := n3_; clear n0_ n1_ n2_ n3_; clear ho hb hg hat)); try go_wp2_with (first | ((with_reducible refine gate_builtin (b := .append) (xs := #[.tmp 41, .tmp 46]) rfl ?_); at_builtin; refine Kd.R_append (Kd.int .i64) (w0 := w) w.heap.size rfl (.tmp 41) (.tmp 46) 24 3 (.int .i64 0) 8 rfl Try.underlying24 info3 rfl (by decide) (by omega) u3 x3_1 (rd t1602 x5_1) [.int .i64 (rd t1602 x5_1)] (fun k_ => some k_ ≠ (.slice (some ad1608) t1602.length co9 : Value).ownBlock) (fun _ => False) rfl rfl ?aP (fun _ hk => hk.elim) ?aF ?aO ?aB ?aS ?aL ?_; (case aP => exact rfl); (case aB => exact bw); (case aF => exact (fun k_ hk => Kd.fresh' (Kd.R_lt (ro HO_4.out)) k_ hk)); (case aO => exact (ro HO_3.out)); (case aS => exact (below_size bw)); (case aL => have := LMc21.out; omega); intro v1610 w23 ho hb hg hat; rw [← Ny1609.out] at ho; have n0_ := am (Kd.R_after (ok := (fun _ => True)) (by (with_reducible repeat (first | apply Kd.R_alloc | apply Kd.R_drewN | apply Kd.R_drew)); exact Kd.R_mono HO_4.out (fun _ hk => ⟨trivial, by first | exact hk | exact (by intro a n m c x h; cases a <;> exact h : ∀ (a : Option Addr) (n m c x : Nat), some x ≠ (Value.slice a n c).ownBlock → some x ≠ (Value.slice a m c).ownBlock) _ _ _ _ _ hk⟩)) hg hat); have n1_ := am (blk_grown (g := gb1598) (o := .cells #[.slice A0_0 l0_0.length c0_0] 26 (0, 0)) (bo BK1598.out) hg (Kd.R_ne HO_3.out BK1598.out (by decide))); have n2_ := am (hb); have n3_ := am (ho); clear HO_4; clear BK1598; clear HB; clear HO_3; have HO_4 := n0_; have BK1598 := n1_; have HB := n2_; have HO1611 := n3_; clear n0_ n1_ n2_ n3_; clear ho hb hg hat)))
        go_roundg k2
        case measure => have := HK1.out; have := HK2.out; omega
        case rel => exact ⟨(y1609), (wrap64 (x5_1 + 1)), rr, H', ⟨by have := HK1.out; have := HK2.out; omega⟩, ⟨ro HO1611.out⟩, ⟨by (with_reducible repeat (first | apply Kd.R_alloc | apply Kd.R_drewN | apply Kd.R_drew)); exact Kd.R_mono HO_4.out (fun _ hk => hk.2)⟩, ⟨bo BK1598.out⟩, ⟨bw⟩⟩
       ·have H' := am H
        clear H
        have hcz24_0 := bc BK1598 0 (.slice A0_0 l0_0.length c0_0)
        have hfz24_0 := blk_frozen BK1598.out 0
        go_wp2
        repeat (go_quiet (fail); try go_wp2)
        go_roundg k2
        case measure => have := HK1.out; have := HK2.out; omega
        case rel => exact ⟨(x3_1), (wrap64 (x5_1 + 1)), rr, H', ⟨by have := HK1.out; have := HK2.out; omega⟩, ⟨ro HO_3.out⟩, ⟨ro HO_4.out⟩, ⟨bo BK1598.out⟩, ⟨bw⟩⟩
   ·obtain rfl := Option.some.inj H
    obtain ⟨Ao25, co25, eo25⟩ := Kd.R_slice HO_4.out
    subst eo25
    go_wp2
    repeat (go_quiet (fail); try go_wp2)
    go_ret
    exact ⟨_, re, by (with_reducible repeat (first | apply Kd.R_alloc | apply Kd.R_drewN | apply Kd.R_drew)); exact Kd.R_mono HO_3.out (fun _ hk => trivial), bw⟩

end Go.Proofs.Ytkfplkdchkmgbaa.C
