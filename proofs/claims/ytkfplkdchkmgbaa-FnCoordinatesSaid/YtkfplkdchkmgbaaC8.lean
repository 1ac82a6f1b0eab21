/- Contracts of functions of the program: impl_CoordinatesOf, spec_MultiplicityOf, spec_l6Apery, spec_CoordinatesOf, spec_l7List, spec_DrawFromCoordinates, slices_Sort_int_int, slices_Compact_int_int, impl_SortList, slices_Equal_int_int, impl_Gaps, impl_gapList. -/
import Derived.Test.YtkfplkdchkmgbaaC0
import Derived.Test.YtkfplkdchkmgbaaC1
import Derived.Test.YtkfplkdchkmgbaaC2
import Derived.Test.YtkfplkdchkmgbaaC3
import Derived.Test.YtkfplkdchkmgbaaC5
import Derived.Test.YtkfplkdchkmgbaaC6
import Derived.Test.YtkfplkdchkmgbaaC7
namespace Go.Proofs.Ytkfplkdchkmgbaa.C
open Go.RowKit Go.Proofs.YtkfplkdchkmgbaaW.PrintWords Go.Proofs.YtkfplkdchkmgbaaW.PrintLast Go.Proofs.YtkfplkdchkmgbaaW.PrintMore
attribute [local go_sem] max2_int min2_int max_two min_two max_three min_three max_four min_four
set_option linter.unusedVariables false
set_option linter.unusedSimpArgs false

/-! ### impl_CoordinatesOf: function 14 -/
def impl_CoordinatesOf.l0 : Nat → Int → List Int → List Int → Int → Int → Option (List Int)
 | 0, _, _, _, _, _ => none
 | k + 1, x3, x4, x15, x16, x17 => if x17 < x16 then (if 0 ≤ x17 then (if x17 < (x15.length : Int) then (if x3 = 0 then (none) else (if x4.length < 17592186044416 then (impl_CoordinatesOf.l0 k x3 (x4 ++ [wrap64 (Int.tdiv (rd x15 x17) x3)]) x15 x16 (wrap64 (x17 + 1))) else (none))) else (none)) else (none)) else (some x4)
def impl_CoordinatesOf.f (k : Nat) (l0_0 : List Int) : Option (List Int) := (impl_MultiplicityOf.f k l0_0).bind fun t438 => (if t438 = 0 then (some ([] : List Int)) else ((impl_AperySet.f k l0_0 t438).bind fun t442 => (if 1 ≤ (t442.length : Int) then ((some (t442.drop 1 : List Int)).bind fun y445 => (impl_CoordinatesOf.l0 k t438 (([] : List Int)) y445 (y445.length : Int) 0)) else (none))))
set_option maxHeartbeats 8000000 in
set_option maxRecDepth 100000 in
theorem impl_CoordinatesOf.calls (k : Nat) (A0_0 : Option Addr) (c0_0 : Nat) (l0_0 : List Int) (r : List Int) (w : World) (hr0_0 : Kd.C (Kd.int .i64) w A0_0 l0_0.length l0_0) (hc0_0 : l0_0.length ≤ c0_0) (h : impl_CoordinatesOf.f k l0_0 = some r) :
  Calls Try.prog 14 #[.agg #[.slice A0_0 l0_0.length c0_0]] w fun e w' => ∃ v0_ : Value, e = .returned (v0_) ∧ Kd.R (Kd.int .i64) 3 w' w.heap.size (fun _ => True) v0_ r ∧ Below w.heap.size w w' := by
 have hu26 := Try.underlying26
 have HR0_0 := am hr0_0
 have HC0_0 := am hc0_0
 clear hr0_0 hc0_0
 have HB := am (Below.refl w.heap.size w)
 have H : ((impl_MultiplicityOf.f k l0_0).bind fun t438 => (if t438 = 0 then (some ([] : List Int)) else ((impl_AperySet.f k l0_0 t438).bind fun t442 => (if 1 ≤ (t442.length : Int) then ((some (t442.drop 1 : List Int)).bind fun y445 => (impl_CoordinatesOf.l0 k t438 (([] : List Int)) y445 (y445.length : Int) 0)) else (none))))) = some r := h
 clear h
 replace H := ga H; obtain ⟨t438, A2, H⟩ := H
 by_cases c3 : t438 = 0
 ·rw [if_pos c3] at H
  have c3b0 : (t438 == 0) = true := beq_iff_eq.mpr c3
  have c3b1 : (t438 != 0) = false := bne_eq_false_iff_eq.mpr c3
  clear c3
  obtain rfl := Option.some.inj H
  go_enter Try.func14, Try.ntmps14
  go_wp2_with (first | ((with_reducible refine gate_dst (N := 1) rfl ?_); refine bx 1 #[.slice A0_0 l0_0.length c0_0] 26 ?_; intro gb437 hg w4 hbox hb; have BK437 := am (hbox); have GW437 := am (gs hg : w.heap.size ≤ gb437); have GE437 := GW437; replace HB := am (below_step bw hb); clear hb hbox hg; have hcz5_0 := bc BK437 0 (.slice A0_0 l0_0.length c0_0); have hfz5_0 := blk_frozen BK437.out 0) | ((with_reducible refine gate_callee (f := 132) rfl ?_); refine gl (some 8) Try.func132 #[.agg #[.slice A0_0 l0_0.length c0_0]] ?_; (with_reducible refine (impl_MultiplicityOf.calls k _ _ l0_0 t438 _ ?side1 ?side2 A2.out).mono ?_); (case side1 => exact co (Kd.C_below HR0_0.out HB.out)); (case side2 => exact HC0_0.out); rintro e w6 ⟨rfl, hb⟩; refine ⟨_, rfl, ?_⟩; replace BK437 := kb BK437 hb; replace HB := am (below_step bw hb); clear hb))
  go_ret
  exact ⟨_, re, by first | exact Kd.R_nil _ _ _ _ _ | exact Kd.N_nil _ _ _ _ _ | exact Kd.V_nil _ _ _ _ _ | exact Kd.Q_nil _ _ _ _ _ | exact Kd.S_nil _ _ _ _ _, bw⟩
 rw [if_neg c3] at H
 have c3b0 : (t438 == 0) = false := beq_eq_false_iff_ne.mpr c3
 have c3b1 : (t438 != 0) = true := bne_iff_ne.mpr c3
 obtain ⟨y439, hy439⟩ : ∃ y_ : List Int, y_ = (([] : List Int)) := ⟨_, rfl⟩
 replace H : ((impl_AperySet.f k l0_0 t438).bind fun t442 => (if 1 ≤ (t442.length : Int) then ((some (t442.drop 1 : List Int)).bind fun y445 => (impl_CoordinatesOf.l0 k t438 y439 y445 (y445.length : Int) 0)) else (none))) = some r := by first | (rw [hy439]; with_reducible first | exact H | exact bs H) | (with_reducible first | exact bs H | exact H) | (rw [hy439]; exact H) | exact H
 have Ny439 := am hy439
 clear hy439
 replace H := ga H; obtain ⟨t442, A7, H⟩ := H
 replace H := gp H; obtain ⟨c8, H⟩ := H
 have c8b0 := eq_true c8
 have c8b1 : decide (1 ≤ (t442.length : Int)) = true := decide_eq_true c8
 clear c8
 obtain ⟨y445, hy445⟩ : ∃ y_ : List Int, y_ = (t442.drop 1) := ⟨_, rfl⟩
 replace H : (impl_CoordinatesOf.l0 k t438 y439 y445 (y445.length : Int) 0) = some r := by first | (rw [hy445]; with_reducible first | exact H | exact bs H) | (with_reducible first | exact bs H | exact H) | (rw [hy445]; exact H) | exact H
 have Ny445 := am hy445
 clear hy445
 have H' := am H
 clear H
 go_enter Try.func14, Try.ntmps14
 go_wp2_with (first | ((with_reducible refine gate_dst (N := 1) rfl ?_); refine bx 1 #[.slice A0_0 l0_0.length c0_0] 26 ?_; intro gb437 hg w9 hbox hb; have BK437 := am (hbox); have GW437 := am (gs hg : w.heap.size ≤ gb437); have GE437 := GW437; replace HB := am (below_step bw hb); clear hb hbox hg; have hcz10_0 := bc BK437 0 (.slice A0_0 l0_0.length c0_0); have hfz10_0 := blk_frozen BK437.out 0) | ((with_reducible refine gate_callee (f := 132) rfl ?_); refine gl (some 8) Try.func132 #[.agg #[.slice A0_0 l0_0.length c0_0]] ?_; (with_reducible refine (impl_MultiplicityOf.calls k _ _ l0_0 t438 _ ?side1 ?side2 A2.out).mono ?_); (case side1 => exact co (Kd.C_below HR0_0.out HB.out)); (case side2 => exact HC0_0.out); rintro e w11 ⟨rfl, hb⟩; refine ⟨_, rfl, ?_⟩; replace BK437 := kb BK437 hb; replace HB := am (below_step bw hb); clear hb) | ((with_reducible refine gate_dst (N := 11) rfl ?_); refine Kd.R_lit (Kd.int .i64) _ 3 ?hg (N := 11) ?hd (xs := ([] : List Int)) (inner := []) (ok := fun _ => True) (okp := fun _ => True) ?hr ?hp (fun _ hk => hk) trivial (Below.refl _ _) (Nat.le_refl _) (by simp) ?_; (case hd => rfl); (case hg => rfl); (case hr => first | (go_simp; done) | (go_simp; rfl)); (case hp => exact (Reps.none _ _)); intro v440 w12 ho13 hb hg_ hnew_; clear hg_ hnew_; (first | rw [← Ny439.out] at ho13 | (simp only [Int.reduceToNat] at ho13; rw [← Ny439.out] at ho13)); have HO441 := am (Kd.R_lower ho13 (below_size bw)); replace BK437 := kb BK437 hb; replace HB := am (below_step bw hb); clear hb ho13; have hcz14_0 := bc BK437 0 (.slice A0_0 l0_0.length c0_0); have hfz14_0 := blk_frozen BK437.out 0) | ((with_reducible refine gate_callee (f := 133) rfl ?_); refine gl (some 14) Try.func133 #[.agg #[.slice A0_0 l0_0.length c0_0], .int .i64 t438] ?_; (with_reducible refine (impl_AperySet.calls k _ _ l0_0 t438 t442 _ ?side1 ?side2 A7.out).mono ?_); (case side1 => exact co (Kd.C_below HR0_0.out HB.out)); (case side2 => exact HC0_0.out); rintro e w15 ⟨v443, rfl, ho0, hb⟩; refine ⟨_, rfl, ?_⟩; have HO444 := am (Kd.R_lower (Kd.R_new' ho0 (Kd.R_lt (ro HO441.out))) (below_size bw)); replace HO441 := am (Kd.R_elder' (ro HO441.out) (Kd.R_base ho0) hb); replace BK437 := kb BK437 hb; replace HB := am (below_step bw hb); clear hb ho0; obtain ⟨Ao17, co17, eo17⟩ := Kd.R_slice HO444.out; subst eo17; have q16 : (1 : Int) ≤ ((t442.length : Int) : Int) := of_decide_eq_true (by first | (with_reducible assumption) | assumption); obtain ⟨i016, hi016, _, hsz16, _⟩ := info_parts info3; have hroom16 : t442.length ≤ co17 := (Kd.R_reads' HO444.out).2.1; have hC16 : Kd.C (Kd.int .i64) _ Ao17 t442.length t442 := (Kd.R_reads' HO444.out).2.2; have hcut16 := cut_from (P := Try.prog) 24 3 .i64 Try.underlying24 hi016 1 hsz16 Ao17 t442.length co17 1 (by omega) q16; have hr16 := Kd.C_drop (m := (1 : Int).toNat) (c := co17) hC16 (by omega) hroom16; obtain ⟨A16, hA16⟩ : ∃ A1, A1 = (if co17 = (1 : Int).toNat then Ao17 else (Ao17 : Option Addr).map (·.add ((1 : Int).toNat * 1))) := ⟨_, rfl⟩; obtain ⟨c16, hc16⟩ : ∃ c1, c1 = co17 - (1 : Int).toNat := ⟨_, rfl⟩; have hy16 : y445.length = t442.length - (1 : Int).toNat := (by rw [Ny445.out, List.length_drop] <;> omega); rw [show (t442).drop (1 : Int).toNat = y445 from Ny445.out.symm] at hr16; replace hr16 : Kd.C (Kd.int .i64) _ A16 y445.length y445 := (by rw [hA16]; exact hr16); rw [← hy16, ← hA16, ← hc16] at hcut16; have HR448 := am hr16; have HC448 := am (show y445.length ≤ c16 from by rw [hy16, hc16]; exact Nat.sub_le_sub_right hroom16 _); clear hr16 hC16 hroom16 hi016 hsz16 hc16; have KY16 := am hy16; have KA16 := am hA16; clear hy16 hA16; have KL16 := am (show 1 ≤ t442.length from by omega); replace q16 := eq_true q16))
 go_loopg [4, 17] k (fun kq v4 v17 w' => ∃ (x4_1 : List Int) (x17_1 : Int), v17 = .int .i64 x17_1 ∧ Aside0 (impl_CoordinatesOf.l0 kq t438 x4_1 y445 (y445.length : Int) x17_1 = some r) ∧ Aside0 (kq ≤ k) ∧ Aside0 (Kd.R (Kd.int .i64) 3 w' w.heap.size (fun k_ => nb k_ Ao17 t442 co17) v4 x4_1) ∧ Aside0 (Kd.R (Kd.int .i64) 3 w' w.heap.size (fun k_ => some k_ ≠ (v4 : Value).ownBlock) (.slice Ao17 t442.length co17) t442) ∧ Aside0 (w'.heap[gb437]? = some (.cells #[(.slice A0_0 l0_0.length c0_0)] 26 (0, 0))) ∧ Aside0 (Below w.heap.size w w'))
 case atStart => exact ⟨(y439), (0), rr, H', ⟨Nat.le_refl _⟩, ⟨by (with_reducible repeat (first | apply Kd.R_alloc | apply Kd.R_drewN | apply Kd.R_drew)); exact Kd.R_mono HO441.out (fun _ hk => hk.2)⟩, ⟨by (with_reducible repeat (first | apply Kd.R_alloc | apply Kd.R_drewN | apply Kd.R_drew)); exact Kd.R_mono HO444.out (fun _ hk => hk.2)⟩, ⟨bo BK437.out⟩, ⟨bw⟩⟩
 case round =>
  clear H'
  try clear c1; try clear c3; try clear c3b0; try clear c3b1; try clear c8; try clear c8b0; try clear c8b1; try clear c16; try clear q16; try clear hcz10_0; try clear hcz14_0; try clear hcz5_0; try clear hfz10_0; try clear hfz14_0; try clear hfz5_0
  obtain ⟨x4_1, x17_1, rfl, HA, HK1, HO_4, HOc_, BK437, HB⟩ := hrel
  cases gk with
  | zero => exact absurd HA.out (by simp [impl_CoordinatesOf.l0])
  | succ k1 =>
   have H := HA.out
   clear HA
   simp only [impl_CoordinatesOf.l0] at H
   replace H := gi H; obtain ⟨c18b0, H⟩ | ⟨c18b0, H⟩ := H
   ·replace H := gd H; obtain ⟨c19b0, H⟩ := H
    replace H := gd H; obtain ⟨c20b0, H⟩ := H
    by_cases c21 : t438 = 0
    ·rw [if_pos c21] at H
     exact absurd H (by simp)
    rw [if_neg c21] at H
    have c21b0 : (t438 == 0) = false := beq_eq_false_iff_ne.mpr c21
    have c21b1 : (t438 != 0) = true := bne_iff_ne.mpr c21
    by_cases c22 : x4_1.length < 17592186044416
    rotate_left
    ·rw [if_neg c22] at H
     exact absurd H (by simp)
    rw [if_pos c22] at H
    have LMc22 := am c22
    clear c22
    obtain ⟨y450, hy450⟩ : ∃ y_ : List Int, y_ = (x4_1 ++ [wrap64 (Int.tdiv (rd y445 x17_1) t438)]) := ⟨_, rfl⟩
    replace H : (impl_CoordinatesOf.l0 k1 t438 y450 y445 (y445.length : Int) (wrap64 (x17_1 + 1))) = some r := by first | (rw [hy450]; with_reducible first | exact H | exact bs H) | (with_reducible first | exact bs H | exact H) | (rw [hy450]; exact H) | exact H
    have Ny450 := am hy450
    clear hy450
    have H' := am H
    clear H
    have hc_ := Kd.C_drop (m := (1 : Int).toNat) (c := co17) (Kd.R_reads' HOc_.out).2.2 (by have := KL16.out; omega) (Kd.R_reads' HOc_.out).2.1
    rw [show (t442).drop (1 : Int).toNat = y445 from Ny445.out.symm] at hc_
    replace HR448 := am (show Kd.C (Kd.int .i64) _ A16 y445.length y445 from (by rw [KA16.out]; exact hc_))
    clear hc_
    obtain ⟨⟨ad449, e449, hx449_0⟩, p449, q449⟩ := pq (Kd.at_int HR448.out x17_1)
    cases e449
    go_wp2_with (first | ((with_reducible refine gate_builtin (b := .append) (xs := #[.tmp 21, .tmp 25]) rfl ?_); at_builtin; refine Kd.R_append (Kd.int .i64) (w0 := w) w.heap.size rfl (.tmp 21) (.tmp 25) 24 3 (.int .i64 0) 8 rfl Try.underlying24 info3 rfl (by decide) (by omega) u4 x4_1 (wrap64 (Int.tdiv (rd y445 x17_1) t438)) [.int .i64 (wrap64 (Int.tdiv (rd y445 x17_1) t438))] (fun k_ => nb k_ Ao17 t442 co17) (fun _ => False) rfl rfl ?aP (fun _ hk => hk.elim) ?aF ?aO ?aB ?aS ?aL ?_; (case aP => exact rfl); (case aB => exact bw); (case aF => exact (fun k_ hk => Kd.fresh' (Kd.R_lt (ro HOc_.out)) k_ hk)); (case aO => exact (ro HO_4.out)); (case aS => exact (below_size bw)); (case aL => have := LMc22.out; omega); intro v451 w23 ho hb hg hat; rw [← Ny450.out] at ho; replace HOc_ := am (Kd.R_after (ok := (fun _ => True)) (by (with_reducible repeat (first | apply Kd.R_alloc | apply Kd.R_drewN | apply Kd.R_drew)); exact Kd.R_mono HOc_.out (fun _ hk => ⟨trivial, by first | exact hk | exact (by intro a n m c x h; cases a <;> exact h : ∀ (a : Option Addr) (n m c x : Nat), some x ≠ (Value.slice a n c).ownBlock → some x ≠ (Value.slice a m c).ownBlock) _ _ _ _ _ hk⟩)) hg hat); replace BK437 := am (blk_grown (g := gb437) (o := .cells #[.slice A0_0 l0_0.length c0_0] 26 (0, 0)) (bo BK437.out) hg (Kd.R_ne HO_4.out BK437.out (by decide))); replace HB := am (hb); have HO452 := am (ho); clear HO_4 ho hb hg hat))
    go_roundg k1
    case measure => have := HK1.out; omega
    case rel => exact ⟨(y450), (wrap64 (x17_1 + 1)), rr, H', ⟨by have := HK1.out; omega⟩, ⟨ro HO452.out⟩, ⟨by (with_reducible repeat (first | apply Kd.R_alloc | apply Kd.R_drewN | apply Kd.R_drew)); exact Kd.R_mono HOc_.out (fun _ hk => hk.2)⟩, ⟨bo BK437.out⟩, ⟨bw⟩⟩
   obtain rfl := Option.some.inj H
   go_wp2
   go_ret
   exact ⟨_, re, by (with_reducible repeat (first | apply Kd.R_alloc | apply Kd.R_drewN | apply Kd.R_drew)); exact Kd.R_mono HO_4.out (fun _ hk => trivial), bw⟩


/-! ### spec_MultiplicityOf: function 141 -/
def spec_MultiplicityOf.f (k : Nat) (l0_0 : List Int) : Option (Int) := (spec_IsSemigroup.f k l0_0).bind fun t454 => (if t454 = true then (if 0 < (l0_0.length : Int) then (some (rd l0_0 0)) else (none)) else (some 0))
set_option maxHeartbeats 8000000 in
set_option maxRecDepth 100000 in
theorem spec_MultiplicityOf.calls (k : Nat) (A0_0 : Option Addr) (c0_0 : Nat) (l0_0 : List Int) (r : Int) (w : World) (hr0_0 : Kd.C (Kd.int .i64) w A0_0 l0_0.length l0_0) (hc0_0 : l0_0.length ≤ c0_0) (h : spec_MultiplicityOf.f k l0_0 = some r) :
  Calls Try.prog 141 #[.agg #[.slice A0_0 l0_0.length c0_0]] w fun e w' => e = .returned (.int .i64 r) ∧ Below w.heap.size w w' := by
 have hu26 := Try.underlying26
 have HR0_0 := am hr0_0
 have HC0_0 := am hc0_0
 clear hr0_0 hc0_0
 have HB := am (Below.refl w.heap.size w)
 have H : ((spec_IsSemigroup.f k l0_0).bind fun t454 => (if t454 = true then (if 0 < (l0_0.length : Int) then (some (rd l0_0 0)) else (none)) else (some 0))) = some r := h
 clear h
 replace H := ga H; obtain ⟨t454, A2, H⟩ := H
 replace H := gb H; obtain ⟨rfl, H⟩ | ⟨rfl, H⟩ := H
 ·replace H := gp H; obtain ⟨c4, H⟩ := H
  have c4b0 : decide (0 < (l0_0.length : Int)) = true := decide_eq_true c4
  have c4b1 : decide (0 < l0_0.length) = true := decide_eq_true (by omega)
  clear c4
  obtain rfl := Option.some.inj H
  go_enter Try.func141, Try.ntmps141
  go_wp2_with (first | ((with_reducible refine gate_dst (N := 1) rfl ?_); refine bx 1 #[.slice A0_0 l0_0.length c0_0] 26 ?_; intro gb453 hg w5 hbox hb; have BK453 := am (hbox); have GW453 := am (gs hg : w.heap.size ≤ gb453); have GE453 := GW453; replace HB := am (below_step bw hb); clear hb hbox hg; have hcz6_0 := bc BK453 0 (.slice A0_0 l0_0.length c0_0); have hfz6_0 := blk_frozen BK453.out 0) | ((with_reducible refine gate_callee (f := 23) rfl ?_); refine gl (some 4) Try.func23 #[.agg #[.slice A0_0 l0_0.length c0_0]] ?_; (with_reducible refine (spec_IsSemigroup.calls k _ _ l0_0 true _ ?side1 ?side2 A2.out).mono ?_); (case side1 => exact co (Kd.C_below HR0_0.out HB.out)); (case side2 => exact HC0_0.out); rintro e w7 ⟨rfl, hb⟩; refine ⟨_, rfl, ?_⟩; replace BK453 := kb BK453 hb; replace HB := am (below_step bw hb); clear hb; have hcz8_0 := bc BK453 0 (.slice A0_0 l0_0.length c0_0); have hfz8_0 := blk_frozen BK453.out 0; have p455 : 0 ≤ (0 : Int) := (by omega); have q455 : 0 < (l0_0.length : Int) := of_decide_eq_true (by first | (with_reducible assumption) | assumption); obtain ⟨ad455, e455, hx455_0⟩ := Kd.at_int HR0_0.out 0 p455 q455; cases e455; have qi455 : (0 < l0_0.length) = True := eq_true (by omega); (try rw [show ((0 : Int)).toNat = 0 from rfl] at hx455_0); (try rw [Addr.add_zero'] at hx455_0); replace hx455_0 := hw HB hx455_0; replace p455 := eq_true p455; replace q455 := eq_true q455))
  go_ret
  exact ⟨re, bw⟩
 obtain rfl := Option.some.inj H
 go_enter Try.func141, Try.ntmps141
 go_wp2_with (first | ((with_reducible refine gate_dst (N := 1) rfl ?_); refine bx 1 #[.slice A0_0 l0_0.length c0_0] 26 ?_; intro gb453 hg w9 hbox hb; have BK453 := am (hbox); have GW453 := am (gs hg : w.heap.size ≤ gb453); have GE453 := GW453; replace HB := am (below_step bw hb); clear hb hbox hg; have hcz10_0 := bc BK453 0 (.slice A0_0 l0_0.length c0_0); have hfz10_0 := blk_frozen BK453.out 0) | ((with_reducible refine gate_callee (f := 23) rfl ?_); refine gl (some 4) Try.func23 #[.agg #[.slice A0_0 l0_0.length c0_0]] ?_; (with_reducible refine (spec_IsSemigroup.calls k _ _ l0_0 false _ ?side1 ?side2 A2.out).mono ?_); (case side1 => exact co (Kd.C_below HR0_0.out HB.out)); (case side2 => exact HC0_0.out); rintro e w11 ⟨rfl, hb⟩; refine ⟨_, rfl, ?_⟩; replace BK453 := kb BK453 hb; replace HB := am (below_step bw hb); clear hb))
 go_ret
 exact ⟨re, bw⟩


/-! ### spec_l6Apery: function 142 -/
mutual
def spec_l6Apery.l0 : Nat → Int → List Bool → List Int → Int → Option (List Int)
 | 0, _, _, _, _ => none
 | k + 1, x1, x5, x6, x7 => if x7 < x1 then (spec_l6Apery.l1 k x1 x5 x6 x7 x7) else (some x6)
def spec_l6Apery.l1 : Nat → Int → List Bool → List Int → Int → Int → Option (List Int)
 | 0, _, _, _, _, _ => none
 | k + 1, x1, x5, x6, x7, x8 => if 0 ≤ x8 then (if x8 < (x5.length : Int) then (if rdOf false x5 x8 = true then (if x6.length < 17592186044416 then (spec_l6Apery.l0 k x1 x5 (x6 ++ [x8]) (wrap64 (x7 + 1))) else (none)) else (spec_l6Apery.l1 k x1 x5 x6 x7 (wrap64 (x8 + x1)))) else (none)) else (none)
end
def spec_l6Apery.f (k : Nat) (l0_0 : List Int) (a1 : Int) : Option (List Int) := (spec_l3Table.f k l0_0 260).bind fun t457 => (spec_l6Apery.l0 k a1 t457 (([] : List Int)) 0)
set_option maxHeartbeats 8000000 in
set_option maxRecDepth 100000 in
theorem spec_l6Apery.calls (k : Nat) (A0_0 : Option Addr) (c0_0 : Nat) (l0_0 : List Int) (a1 : Int) (r : List Int) (w : World) (hr0_0 : Kd.C (Kd.int .i64) w A0_0 l0_0.length l0_0) (hc0_0 : l0_0.length ≤ c0_0) (h : spec_l6Apery.f k l0_0 a1 = some r) :
  Calls Try.prog 142 #[.agg #[.slice A0_0 l0_0.length c0_0], .int .i64 a1] w fun e w' => ∃ v0_ : Value, e = .returned (v0_) ∧ Kd.R (Kd.int .i64) 3 w' w.heap.size (fun _ => True) v0_ r ∧ Below w.heap.size w w' := by
 have hu26 := Try.underlying26
 have HR0_0 := am hr0_0
 have HC0_0 := am hc0_0
 clear hr0_0 hc0_0
 have HB := am (Below.refl w.heap.size w)
 have H : ((spec_l3Table.f k l0_0 260).bind fun t457 => (spec_l6Apery.l0 k a1 t457 (([] : List Int)) 0)) = some r := h
 clear h
 replace H := ga H; obtain ⟨t457, A3, H⟩ := H
 obtain ⟨y460, hy460⟩ : ∃ y_ : List Int, y_ = (([] : List Int)) := ⟨_, rfl⟩
 replace H : (spec_l6Apery.l0 k a1 t457 y460 0) = some r := by first | (rw [hy460]; with_reducible first | exact H | exact bs H) | (with_reducible first | exact bs H | exact H) | (rw [hy460]; exact H) | exact H
 have Ny460 := am hy460
 clear hy460
 have H' := am H
 clear H
 go_enter Try.func142, Try.ntmps142
 go_wp2_with (first | ((with_reducible refine gate_dst (N := 2) rfl ?_); refine bx 2 #[.slice A0_0 l0_0.length c0_0] 26 ?_; intro gb456 hg w4 hbox hb; have BK456 := am (hbox); have GW456 := am (gs hg : w.heap.size ≤ gb456); have GE456 := GW456; replace HB := am (below_step bw hb); clear hb hbox hg; have hcz5_0 := bc BK456 0 (.slice A0_0 l0_0.length c0_0); have hfz5_0 := blk_frozen BK456.out 0) | ((with_reducible refine gate_callee (f := 215) rfl ?_); refine gl (some 11) Try.func215 #[.slice A0_0 l0_0.length c0_0, .int .i64 260] ?_; (with_reducible refine (spec_l3Table.calls k _ _ l0_0 260 t457 _ ?side1 ?side2 A3.out).mono ?_); (case side1 => exact co (Kd.C_below HR0_0.out HB.out)); (case side2 => exact HC0_0.out); rintro e w6 ⟨v458, rfl, ho0, hb⟩; refine ⟨_, rfl, ?_⟩; have HO459 := am (Kd.R_lower ho0 (below_size bw)); replace BK456 := kb BK456 hb; replace HB := am (below_step bw hb); clear hb ho0) | ((with_reducible refine gate_dst (N := 12) rfl ?_); refine Kd.R_lit (Kd.int .i64) _ 3 ?hg (N := 12) ?hd (xs := ([] : List Int)) (inner := []) (ok := fun _ => True) (okp := fun _ => True) ?hr ?hp (fun _ hk => hk) trivial (Below.refl _ _) (Nat.le_refl _) (by simp) ?_; (case hd => rfl); (case hg => rfl); (case hr => first | (go_simp; done) | (go_simp; rfl)); (case hp => exact (Reps.none _ _)); intro v461 w7 ho8 hb hg_ hnew_; clear hg_ hnew_; (first | rw [← Ny460.out] at ho8 | (simp only [Int.reduceToNat] at ho8; rw [← Ny460.out] at ho8)); replace HO459 := rK HO459 hb; have HO462 := am (Kd.R_lower ho8 (below_size bw)); replace BK456 := kb BK456 hb; replace HB := am (below_step bw hb); clear hb ho8))
 go_loopg [6, 7] k (fun kq v6 v7 w' => ∃ (x6_1 : List Int) (x7_1 : Int), v7 = .int .i64 x7_1 ∧ Aside0 (spec_l6Apery.l0 kq a1 t457 x6_1 x7_1 = some r) ∧ Aside0 (kq ≤ k) ∧ Aside0 (Kd.R Kd.bool 4 w' w.heap.size (fun _ => True) v458 t457) ∧ Aside0 (Kd.R (Kd.int .i64) 3 w' w.heap.size (fun _ => True) v6 x6_1) ∧ Aside0 (w'.heap[gb456]? = some (.cells #[(.slice A0_0 l0_0.length c0_0)] 26 (0, 0))) ∧ Aside0 (Below w.heap.size w w'))
 case atStart => exact ⟨(y460), (0), rr, H', ⟨Nat.le_refl _⟩, ⟨ro HO459.out⟩, ⟨ro HO462.out⟩, ⟨bo BK456.out⟩, ⟨bw⟩⟩
 case round =>
  clear H'
  try clear hcz5_0; try clear hfz5_0
  obtain ⟨x6_1, x7_1, rfl, HA, HK1, HO_5, HO_6, BK456, HB⟩ := hrel
  cases gk with
  | zero => exact absurd HA.out (by simp [spec_l6Apery.l0])
  | succ k1 =>
   have H := HA.out
   clear HA
   simp only [spec_l6Apery.l0] at H
   replace H := gi H; obtain ⟨c9b0, H⟩ | ⟨c9b0, H⟩ := H
   ·have H' := am H
    clear H
    go_wp2
    go_loopg [8] k1 (fun kq v8 w' => ∃ (x8_2 : Int), v8 = .int .i64 x8_2 ∧ Aside0 (spec_l6Apery.l1 kq a1 t457 x6_1 x7_1 x8_2 = some r) ∧ Aside0 (kq ≤ k1) ∧ Aside0 (Kd.R Kd.bool 4 w' w.heap.size (fun _ => True) v458 t457) ∧ Aside0 (Kd.R (Kd.int .i64) 3 w' w.heap.size (fun _ => True) u6 x6_1) ∧ Aside0 (w'.heap[gb456]? = some (.cells #[(.slice A0_0 l0_0.length c0_0)] 26 (0, 0))) ∧ Aside0 (Below w.heap.size w w'))
    case atStart => exact ⟨(x7_1), rr, H', ⟨Nat.le_refl _⟩, ⟨ro HO_5.out⟩, ⟨ro HO_6.out⟩, ⟨bo BK456.out⟩, ⟨bw⟩⟩
    case round =>
     clear H'
     try clear c9b0; try clear hcz5_0; try clear hfz5_0
     obtain ⟨x8_2, rfl, HA, HK2, HO_5, HO_6, BK456, HB⟩ := hrel
     cases gk with
     | zero => exact absurd HA.out (by simp [spec_l6Apery.l1])
     | succ k2 =>
      have H := HA.out
      clear HA
      simp only [spec_l6Apery.l1] at H
      replace H := gd H; obtain ⟨c10b0, H⟩ := H
      replace H := gd H; obtain ⟨c11b0, H⟩ := H
      obtain ⟨bq12, hbq12⟩ : ∃ b_ : Bool, b_ = (rdOf false t457 x8_2) := ⟨_, rfl⟩
      replace H : (if bq12 = true then (if x6_1.length < 17592186044416 then (spec_l6Apery.l0 k2 a1 t457 (x6_1 ++ [x8_2]) (wrap64 (x7_1 + 1))) else (none)) else (spec_l6Apery.l1 k2 a1 t457 x6_1 x7_1 (wrap64 (x8_2 + a1)))) = some r := by rw [← hbq12] at H; exact H
      have Nbq12 := am hbq12
      clear hbq12
      replace H := gb H; obtain ⟨rfl, H⟩ | ⟨rfl, H⟩ := H
      ·by_cases c14 : x6_1.length < 17592186044416
       rotate_left
       ·rw [if_neg c14] at H
        exact absurd H (by simp)
       rw [if_pos c14] at H
       have LMc14 := am c14
       clear c14
       obtain ⟨y464, hy464⟩ : ∃ y_ : List Int, y_ = (x6_1 ++ [x8_2]) := ⟨_, rfl⟩
       replace H : (spec_l6Apery.l0 k2 a1 t457 y464 (wrap64 (x7_1 + 1))) = some r := by first | (rw [hy464]; with_reducible first | exact H | exact bs H) | (with_reducible first | exact bs H | exact H) | (rw [hy464]; exact H) | exact H
       have Ny464 := am hy464
       clear hy464
       have H' := am H
       clear H
       obtain ⟨Ao15, co15, eo15⟩ := Kd.R_slice HO_5.out
       subst eo15
       obtain ⟨⟨ad463, e463, hx463_0⟩, p463, q463⟩ := pq (Kd.at_bool (Kd.R_reads' HO_5.out).2.2 x8_2)
       (try rw [← Nbq12.out] at hx463_0)
       cases e463
       go_wp2_with (first | ((with_reducible refine gate_builtin (b := .append) (xs := #[.tmp 27, .tmp 29]) rfl ?_); at_builtin; refine Kd.R_append (Kd.int .i64) (w0 := w) w.heap.size rfl (.tmp 27) (.tmp 29) 24 3 (.int .i64 0) 8 rfl Try.underlying24 info3 rfl (by decide) (by omega) u6 x6_1 x8_2 [.int .i64 x8_2] (fun _ => True) (fun _ => False) rfl rfl ?aP (fun _ hk => hk.elim) ?aF ?aO ?aB ?aS ?aL ?_; (case aP => exact rfl); (case aB => exact bw); (case aF => exact (fun _ _ => trivial)); (case aO => exact (ro HO_6.out)); (case aS => exact (below_size bw)); (case aL => have := LMc14.out; omega); intro v465 w16 ho hb hg hat; rw [← Ny464.out] at ho; replace HO_5 := am (Kd.R_over' (ro HO_5.out) (Kd.R_typed (ro HO_6.out)) (by decide) hg); replace BK456 := am (blk_grown (g := gb456) (o := .cells #[.slice A0_0 l0_0.length c0_0] 26 (0, 0)) (bo BK456.out) hg (Kd.R_ne HO_6.out BK456.out (by decide))); replace HB := am (hb); have HO466 := am (ho); clear HO_6 ho hb hg hat))
       go_roundg k2
       case measure => have := HK1.out; have := HK2.out; omega
       case rel => exact ⟨(y464), (wrap64 (x7_1 + 1)), rr, H', ⟨by have := HK1.out; have := HK2.out; omega⟩, ⟨ro HO_5.out⟩, ⟨ro HO466.out⟩, ⟨bo BK456.out⟩, ⟨bw⟩⟩
      have H' := am H
      clear H
      obtain ⟨Ao17, co17, eo17⟩ := Kd.R_slice HO_5.out
      subst eo17
      obtain ⟨⟨ad463, e463, hx463_0⟩, p463, q463⟩ := pq (Kd.at_bool (Kd.R_reads' HO_5.out).2.2 x8_2)
      (try rw [← Nbq12.out] at hx463_0)
      cases e463
      go_wp2
      go_roundg k2
      case measure => have := HK1.out; have := HK2.out; omega
      case rel => exact ⟨(wrap64 (x8_2 + a1)), rr, H', ⟨by have := HK1.out; have := HK2.out; omega⟩, ⟨ro HO_5.out⟩, ⟨ro HO_6.out⟩, ⟨bo BK456.out⟩, ⟨bw⟩⟩
   obtain rfl := Option.some.inj H
   go_wp2
   go_ret
   exact ⟨_, re, ro HO_6.out, bw⟩


/-! ### spec_CoordinatesOf: function 21 -/
def spec_CoordinatesOf.l0 : Nat → List Int → Int → List Int → Int → Option (List Int)
 | 0, _, _, _, _ => none
 | k + 1, x3, x4, x5, x6 => if x6 < x4 then (if 0 ≤ x6 then (if x6 < (x5.length : Int) then (if x4 = 0 then (none) else (if x3.length < 17592186044416 then (spec_CoordinatesOf.l0 k (x3 ++ [wrap64 (Int.tdiv (rd x5 x6) x4)]) x4 x5 (wrap64 (x6 + 1))) else (none))) else (none)) else (none)) else (some x3)
def spec_CoordinatesOf.f (k : Nat) (l0_0 : List Int) : Option (List Int) := (some (([] : List Int) : List Int)).bind fun y468 => ((spec_MultiplicityOf.f k l0_0).bind fun t471 => (if t471 = 0 then (some y468) else ((spec_l6Apery.f k l0_0 t471).bind fun t472 => (spec_CoordinatesOf.l0 k y468 t471 t472 1))))
set_option maxHeartbeats 8000000 in
set_option maxRecDepth 100000 in
theorem spec_CoordinatesOf.calls (k : Nat) (A0_0 : Option Addr) (c0_0 : Nat) (l0_0 : List Int) (r : List Int) (w : World) (hr0_0 : Kd.C (Kd.int .i64) w A0_0 l0_0.length l0_0) (hc0_0 : l0_0.length ≤ c0_0) (h : spec_CoordinatesOf.f k l0_0 = some r) :
  Calls Try.prog 21 #[.agg #[.slice A0_0 l0_0.length c0_0]] w fun e w' => ∃ v0_ : Value, e = .returned (v0_) ∧ Kd.R (Kd.int .i64) 3 w' w.heap.size (fun _ => True) v0_ r ∧ Below w.heap.size w w' := by
 have hu26 := Try.underlying26
 have HR0_0 := am hr0_0
 have HC0_0 := am hc0_0
 clear hr0_0 hc0_0
 have HB := am (Below.refl w.heap.size w)
 have H : ((some (([] : List Int) : List Int)).bind fun y468 => ((spec_MultiplicityOf.f k l0_0).bind fun t471 => (if t471 = 0 then (some y468) else ((spec_l6Apery.f k l0_0 t471).bind fun t472 => (spec_CoordinatesOf.l0 k y468 t471 t472 1))))) = some r := h
 clear h
 obtain ⟨y468, hy468⟩ : ∃ y_ : List Int, y_ = (([] : List Int)) := ⟨_, rfl⟩
 replace H : ((spec_MultiplicityOf.f k l0_0).bind fun t471 => (if t471 = 0 then (some y468) else ((spec_l6Apery.f k l0_0 t471).bind fun t472 => (spec_CoordinatesOf.l0 k y468 t471 t472 1)))) = some r := by first | (rw [hy468]; with_reducible first | exact H | exact bs H) | (with_reducible first | exact bs H | exact H) | (rw [hy468]; exact H) | exact H
 have Ny468 := am hy468
 clear hy468
 replace H := ga H; obtain ⟨t471, A2, H⟩ := H
 by_cases c3 : t471 = 0
 ·rw [if_pos c3] at H
  have c3b0 : (t471 == 0) = true := beq_iff_eq.mpr c3
  have c3b1 : (t471 != 0) = false := bne_eq_false_iff_eq.mpr c3
  clear c3
  obtain rfl := Option.some.inj H
  go_enter Try.func21, Try.ntmps21
  go_wp2_with (first | ((with_reducible refine gate_dst (N := 1) rfl ?_); refine bx 1 #[.slice A0_0 l0_0.length c0_0] 26 ?_; intro gb467 hg w4 hbox hb; have BK467 := am (hbox); have GW467 := am (gs hg : w.heap.size ≤ gb467); have GE467 := GW467; replace HB := am (below_step bw hb); clear hb hbox hg) | ((with_reducible refine gate_dst (N := 7) rfl ?_); refine Kd.R_lit (Kd.int .i64) _ 3 ?hg (N := 7) ?hd (xs := ([] : List Int)) (inner := []) (ok := fun _ => True) (okp := fun _ => True) ?hr ?hp (fun _ hk => hk) trivial (Below.refl _ _) (Nat.le_refl _) (by simp) ?_; (case hd => rfl); (case hg => rfl); (case hr => first | (go_simp; done) | (go_simp; rfl)); (case hp => exact (Reps.none _ _)); intro v469 w5 ho6 hb hg_ hnew_; clear hg_ hnew_; (first | rw [← Ny468.out] at ho6 | (simp only [Int.reduceToNat] at ho6; rw [← Ny468.out] at ho6)); have HO470 := am (Kd.R_lower ho6 (below_size bw)); replace BK467 := kb BK467 hb; replace HB := am (below_step bw hb); clear hb ho6; have hcz7_0 := bc BK467 0 (.slice A0_0 l0_0.length c0_0); have hfz7_0 := blk_frozen BK467.out 0) | ((with_reducible refine gate_callee (f := 141) rfl ?_); refine gl (some 9) Try.func141 #[.agg #[.slice A0_0 l0_0.length c0_0]] ?_; (with_reducible refine (spec_MultiplicityOf.calls k _ _ l0_0 t471 _ ?side1 ?side2 A2.out).mono ?_); (case side1 => exact co (Kd.C_below HR0_0.out HB.out)); (case side2 => exact HC0_0.out); rintro e w8 ⟨rfl, hb⟩; refine ⟨_, rfl, ?_⟩; replace HO470 := rK HO470 hb; replace BK467 := kb BK467 hb; replace HB := am (below_step bw hb); clear hb))
  go_ret
  exact ⟨_, re, ro HO470.out, bw⟩
 rw [if_neg c3] at H
 have c3b0 : (t471 == 0) = false := beq_eq_false_iff_ne.mpr c3
 have c3b1 : (t471 != 0) = true := bne_iff_ne.mpr c3
 replace H := ga H; obtain ⟨t472, A9, H⟩ := H
 have H' := am H
 clear H
 go_enter Try.func21, Try.ntmps21
 go_wp2_with (first | ((with_reducible refine gate_dst (N := 1) rfl ?_); refine bx 1 #[.slice A0_0 l0_0.length c0_0] 26 ?_; intro gb467 hg w10 hbox hb; have BK467 := am (hbox); have GW467 := am (gs hg : w.heap.size ≤ gb467); have GE467 := GW467; replace HB := am (below_step bw hb); clear hb hbox hg) | ((with_reducible refine gate_dst (N := 7) rfl ?_); refine Kd.R_lit (Kd.int .i64) _ 3 ?hg (N := 7) ?hd (xs := ([] : List Int)) (inner := []) (ok := fun _ => True) (okp := fun _ => True) ?hr ?hp (fun _ hk => hk) trivial (Below.refl _ _) (Nat.le_refl _) (by simp) ?_; (case hd => rfl); (case hg => rfl); (case hr => first | (go_simp; done) | (go_simp; rfl)); (case hp => exact (Reps.none _ _)); intro v469 w11 ho12 hb hg_ hnew_; clear hg_ hnew_; (first | rw [← Ny468.out] at ho12 | (simp only [Int.reduceToNat] at ho12; rw [← Ny468.out] at ho12)); have HO470 := am (Kd.R_lower ho12 (below_size bw)); replace BK467 := kb BK467 hb; replace HB := am (below_step bw hb); clear hb ho12; have hcz13_0 := bc BK467 0 (.slice A0_0 l0_0.length c0_0); have hfz13_0 := blk_frozen BK467.out 0) | ((with_reducible refine gate_callee (f := 141) rfl ?_); refine gl (some 9) Try.func141 #[.agg #[.slice A0_0 l0_0.length c0_0]] ?_; (with_reducible refine (spec_MultiplicityOf.calls k _ _ l0_0 t471 _ ?side1 ?side2 A2.out).mono ?_); (case side1 => exact co (Kd.C_below HR0_0.out HB.out)); (case side2 => exact HC0_0.out); rintro e w14 ⟨rfl, hb⟩; refine ⟨_, rfl, ?_⟩; replace HO470 := rK HO470 hb; replace BK467 := kb BK467 hb; replace HB := am (below_step bw hb); clear hb; have hcz15_0 := bc BK467 0 (.slice A0_0 l0_0.length c0_0); have hfz15_0 := blk_frozen BK467.out 0) | ((with_reducible refine gate_callee (f := 142) rfl ?_); refine gl (some 15) Try.func142 #[.agg #[.slice A0_0 l0_0.length c0_0], .int .i64 t471] ?_; (with_reducible refine (spec_l6Apery.calls k _ _ l0_0 t471 t472 _ ?side1 ?side2 A9.out).mono ?_); (case side1 => exact co (Kd.C_below HR0_0.out HB.out)); (case side2 => exact HC0_0.out); rintro e w16 ⟨v473, rfl, ho0, hb⟩; refine ⟨_, rfl, ?_⟩; have HO474 := am (Kd.R_lower (Kd.R_new' ho0 (Kd.R_lt (ro HO470.out))) (below_size bw)); replace HO470 := am (Kd.R_elder' (ro HO470.out) (Kd.R_base ho0) hb); replace BK467 := kb BK467 hb; replace HB := am (below_step bw hb); clear hb ho0))
 go_loopg [3, 6] k (fun kq v3 v6 w' => ∃ (x3_1 : List Int) (x6_1 : Int), v6 = .int .i64 x6_1 ∧ Aside0 (spec_CoordinatesOf.l0 kq x3_1 t471 t472 x6_1 = some r) ∧ Aside0 (kq ≤ k) ∧ Aside0 (Kd.R (Kd.int .i64) 3 w' w.heap.size (fun k_ => some k_ ≠ (v473 : Value).ownBlock) v3 x3_1) ∧ Aside0 (Kd.R (Kd.int .i64) 3 w' w.heap.size (fun k_ => some k_ ≠ (v3 : Value).ownBlock) v473 t472) ∧ Aside0 (w'.heap[gb467]? = some (.cells #[(.slice A0_0 l0_0.length c0_0)] 26 (0, 0))) ∧ Aside0 (Below w.heap.size w w'))
 case atStart => exact ⟨(y468), (1), rr, H', ⟨Nat.le_refl _⟩, ⟨by (with_reducible repeat (first | apply Kd.R_alloc | apply Kd.R_drewN | apply Kd.R_drew)); exact Kd.R_mono HO470.out (fun _ hk => hk.2)⟩, ⟨by (with_reducible repeat (first | apply Kd.R_alloc | apply Kd.R_drewN | apply Kd.R_drew)); exact Kd.R_mono HO474.out (fun _ hk => hk.2)⟩, ⟨bo BK467.out⟩, ⟨bw⟩⟩
 case round =>
  clear H'
  try clear c3; try clear c3b0; try clear c3b1; try clear hcz13_0; try clear hcz15_0; try clear hcz7_0; try clear hfz13_0; try clear hfz15_0; try clear hfz7_0
  obtain ⟨x3_1, x6_1, rfl, HA, HK1, HO_3, HO_5, BK467, HB⟩ := hrel
  cases gk with
  | zero => exact absurd HA.out (by simp [spec_CoordinatesOf.l0])
  | succ k1 =>
   have H := HA.out
   clear HA
   simp only [spec_CoordinatesOf.l0] at H
   replace H := gi H; obtain ⟨c17b0, H⟩ | ⟨c17b0, H⟩ := H
   ·replace H := gd H; obtain ⟨c18b0, H⟩ := H
    replace H := gd H; obtain ⟨c19b0, H⟩ := H
    by_cases c20 : t471 = 0
    ·rw [if_pos c20] at H
     exact absurd H (by simp)
    rw [if_neg c20] at H
    have c20b0 : (t471 == 0) = false := beq_eq_false_iff_ne.mpr c20
    have c20b1 : (t471 != 0) = true := bne_iff_ne.mpr c20
    by_cases c21 : x3_1.length < 17592186044416
    rotate_left
    ·rw [if_neg c21] at H
     exact absurd H (by simp)
    rw [if_pos c21] at H
    have LMc21 := am c21
    clear c21
    obtain ⟨y476, hy476⟩ : ∃ y_ : List Int, y_ = (x3_1 ++ [wrap64 (Int.tdiv (rd t472 x6_1) t471)]) := ⟨_, rfl⟩
    replace H : (spec_CoordinatesOf.l0 k1 y476 t471 t472 (wrap64 (x6_1 + 1))) = some r := by first | (rw [hy476]; with_reducible first | exact H | exact bs H) | (with_reducible first | exact bs H | exact H) | (rw [hy476]; exact H) | exact H
    have Ny476 := am hy476
    clear hy476
    have H' := am H
    clear H
    obtain ⟨Ao22, co22, eo22⟩ := Kd.R_slice HO_5.out
    subst eo22
    obtain ⟨⟨ad475, e475, hx475_0⟩, p475, q475⟩ := pq (Kd.at_int (Kd.R_reads' HO_5.out).2.2 x6_1)
    cases e475
    go_wp2_with (first | ((with_reducible refine gate_builtin (b := .append) (xs := #[.tmp 21, .tmp 28]) rfl ?_); at_builtin; refine Kd.R_append (Kd.int .i64) (w0 := w) w.heap.size rfl (.tmp 21) (.tmp 28) 24 3 (.int .i64 0) 8 rfl Try.underlying24 info3 rfl (by decide) (by omega) u3 x3_1 (wrap64 (Int.tdiv (rd t472 x6_1) t471)) [.int .i64 (wrap64 (Int.tdiv (rd t472 x6_1) t471))] (fun k_ => some k_ ≠ (.slice (some ad475) t472.length co22 : Value).ownBlock) (fun _ => False) rfl rfl ?aP (fun _ hk => hk.elim) ?aF ?aO ?aB ?aS ?aL ?_; (case aP => exact rfl); (case aB => exact bw); (case aF => exact (fun k_ hk => Kd.fresh' (Kd.R_lt (ro HO_5.out)) k_ hk)); (case aO => exact (ro HO_3.out)); (case aS => exact (below_size bw)); (case aL => have := LMc21.out; omega); intro v477 w23 ho hb hg hat; rw [← Ny476.out] at ho; replace HO_5 := am (Kd.R_after (ok := (fun _ => True)) (by (with_reducible repeat (first | apply Kd.R_alloc | apply Kd.R_drewN | apply Kd.R_drew)); exact Kd.R_mono HO_5.out (fun _ hk => ⟨trivial, by first | exact hk | exact (by intro a n m c x h; cases a <;> exact h : ∀ (a : Option Addr) (n m c x : Nat), some x ≠ (Value.slice a n c).ownBlock → some x ≠ (Value.slice a m c).ownBlock) _ _ _ _ _ hk⟩)) hg hat); replace BK467 := am (blk_grown (g := gb467) (o := .cells #[.slice A0_0 l0_0.length c0_0] 26 (0, 0)) (bo BK467.out) hg (Kd.R_ne HO_3.out BK467.out (by decide))); replace HB := am (hb); have HO478 := am (ho); clear HO_3 ho hb hg hat))
    go_roundg k1
    case measure => have := HK1.out; omega
    case rel => exact ⟨(y476), (wrap64 (x6_1 + 1)), rr, H', ⟨by have := HK1.out; omega⟩, ⟨ro HO478.out⟩, ⟨by (with_reducible repeat (first | apply Kd.R_alloc | apply Kd.R_drewN | apply Kd.R_drew)); exact Kd.R_mono HO_5.out (fun _ hk => hk.2)⟩, ⟨bo BK467.out⟩, ⟨bw⟩⟩
   obtain rfl := Option.some.inj H
   go_wp2
   go_ret
   exact ⟨_, re, by (with_reducible repeat (first | apply Kd.R_alloc | apply Kd.R_drewN | apply Kd.R_drew)); exact Kd.R_mono HO_3.out (fun _ hk => trivial), bw⟩


/-! ### spec_l7List: function 134 -/
mutual
def spec_l7List.l0 : Nat → List Int → Int → Int → List Int → Int → Int → Option (List Int)
 | 0, _, _, _, _, _, _ => none
 | k + 1, x4, x5, x6, x483000, x483001, x483002 => if x6 < x5 then ((spec_l1Below.f x483000 x483001 x483002 5).bind fun bt492 => (if x4.length < 17592186044416 then (spec_l7List.l0 k (x4 ++ [bt492.1]) x5 (wrap64 (x6 + 1)) x483000 bt492.2.1 bt492.2.2) else (none))) else (some x4)
def spec_l7List.j1 : Nat → List Int → Bool → List Int → Int → Int → Option (List Int)
 | 0, _, _, _, _, _ => none
 | k + 1, x7, x36, x483000, x483001, x483002 => if x36 = true then ((spec_l1Below.f x483000 x483001 x483002 (x7.length : Int)).bind fun bt509 => (if 0 ≤ bt509.1 then (if bt509.1 < (x7.length : Int) then ((spec_l1Below.f x483000 bt509.2.1 bt509.2.2 3).bind fun bt513 => (some (x7.set (bt509.1 : Int).toNat (wrap64 ((wrap64 ((rd x7 bt509.1) + bt513.1)) - 1))))) else (none)) else (none))) else (some x7)
end
def spec_l7List.f (k : Nat) (l0 : List Int) : Option (List Int) := (spec_l1New.f k l0).bind fun bt479 => ((spec_l1Once.f bt479.1 bt479.2.1 bt479.2.2 3).bind fun bt483 => (if bt483.1 = true then ((spec_l1Below.f bt479.1 bt483.2.1 bt483.2.2 6).bind fun bt489 => (spec_l7List.l0 k (([] : List Int)) bt489.1 0 bt479.1 bt489.2.1 bt489.2.2)) else ((spec_l3Draw.f k bt479.1 bt483.2.1 bt483.2.2).bind fun bt498 => ((spec_CoordinatesOf.f k bt498.1).bind fun t503 => ((spec_l1Once.f bt479.1 bt498.2.1 bt498.2.2 3).bind fun bt506 => (if bt506.1 = true then (spec_l7List.j1 k t503 (decide ((t503.length : Int) > 0)) bt479.1 bt506.2.1 bt506.2.2) else (spec_l7List.j1 k t503 false bt479.1 bt506.2.1 bt506.2.2)))))))
def spec_l7List.T13 : Bool × List (List Nat × List Nat) := (true, [([], []), ([], []), ([], []), ([], []), ([2, 3], [2, 3]), ([4], [4]), ([], []), ([6], [6]), ([5, 7], [5, 7]), ([8], [8]), ([0, 1, 0, 1, 2, 3, 4, 5, 6, 7, 8, 9], [0, 1]), ([10, 9, 7, 0, 1, 2, 3, 4, 5, 6, 7, 8, 9], [9, 10])])
def spec_l7List.B13 : List Nat := [0, 0, 0, 0, 12, 28, 0, 64, 252, 508, 1023, 2047]
theorem spec_l7List.tab13 : rtab .any (opsOf Try.f134 13) = spec_l7List.T13 := by kernel_rfl
theorem spec_l7List.bits13 : waitsOk spec_l7List.T13.2 spec_l7List.B13 = true := by kernel_rfl
set_option maxHeartbeats 8000000 in
set_option maxRecDepth 100000 in
theorem spec_l7List.calls (k : Nat) (A0 : Option Addr) (c0 : Nat) (l0 : List Int) (r : List Int) (w : World) (hr0 : Kd.C (Kd.int .u8) w A0 l0.length l0) (hc0 : l0.length ≤ c0) (h : spec_l7List.f k l0 = some r) :
  Calls Try.prog 134 #[.slice A0 l0.length c0] w fun e w' => ∃ v0_ : Value, e = .returned (v0_) ∧ Kd.R (Kd.int .i64) 3 w' w.heap.size (fun _ => True) v0_ r ∧ Below w.heap.size w w' := by
 have HR0 := am hr0
 have HC0 := am hc0
 clear hr0 hc0
 have HB := am (Below.refl w.heap.size w)
 have H : ((spec_l1New.f k l0).bind fun bt479 => ((spec_l1Once.f bt479.1 bt479.2.1 bt479.2.2 3).bind fun bt483 => (if bt483.1 = true then ((spec_l1Below.f bt479.1 bt483.2.1 bt483.2.2 6).bind fun bt489 => (spec_l7List.l0 k (([] : List Int)) bt489.1 0 bt479.1 bt489.2.1 bt489.2.2)) else ((spec_l3Draw.f k bt479.1 bt483.2.1 bt483.2.2).bind fun bt498 => ((spec_CoordinatesOf.f k bt498.1).bind fun t503 => ((spec_l1Once.f bt479.1 bt498.2.1 bt498.2.2 3).bind fun bt506 => (if bt506.1 = true then (spec_l7List.j1 k t503 (decide ((t503.length : Int) > 0)) bt479.1 bt506.2.1 bt506.2.2) else (spec_l7List.j1 k t503 false bt479.1 bt506.2.1 bt506.2.2)))))))) = some r := h
 clear h
 replace H := ga H; obtain ⟨⟨t479, t480, t481⟩, A2, H⟩ := H
 replace H : ((spec_l1Once.f t479 t480 t481 3).bind fun bt483 => (if bt483.1 = true then ((spec_l1Below.f t479 bt483.2.1 bt483.2.2 6).bind fun bt489 => (spec_l7List.l0 k (([] : List Int)) bt489.1 0 t479 bt489.2.1 bt489.2.2)) else ((spec_l3Draw.f k t479 bt483.2.1 bt483.2.2).bind fun bt498 => ((spec_CoordinatesOf.f k bt498.1).bind fun t503 => ((spec_l1Once.f t479 bt498.2.1 bt498.2.2 3).bind fun bt506 => (if bt506.1 = true then (spec_l7List.j1 k t503 (decide ((t503.length : Int) > 0)) t479 bt506.2.1 bt506.2.2) else (spec_l7List.j1 k t503 false t479 bt506.2.1 bt506.2.2))))))) = some r := H
 replace H := ga H; obtain ⟨⟨t483, t484, t485⟩, A3, H⟩ := H
 replace H : (if t483 = true then ((spec_l1Below.f t479 t484 t485 6).bind fun bt489 => (spec_l7List.l0 k (([] : List Int)) bt489.1 0 t479 bt489.2.1 bt489.2.2)) else ((spec_l3Draw.f k t479 t484 t485).bind fun bt498 => ((spec_CoordinatesOf.f k bt498.1).bind fun t503 => ((spec_l1Once.f t479 bt498.2.1 bt498.2.2 3).bind fun bt506 => (if bt506.1 = true then (spec_l7List.j1 k t503 (decide ((t503.length : Int) > 0)) t479 bt506.2.1 bt506.2.2) else (spec_l7List.j1 k t503 false t479 bt506.2.1 bt506.2.2)))))) = some r := H
 replace H := gb H; obtain ⟨rfl, H⟩ | ⟨rfl, H⟩ := H
 ·obtain ⟨y486, hy486⟩ : ∃ y_ : List Int, y_ = (([] : List Int)) := ⟨_, rfl⟩
  replace H : ((spec_l1Below.f t479 t484 t485 6).bind fun bt489 => (spec_l7List.l0 k y486 bt489.1 0 t479 bt489.2.1 bt489.2.2)) = some r := by first | (rw [hy486]; with_reducible first | exact H | exact bs H) | (with_reducible first | exact bs H | exact H) | (rw [hy486]; exact H) | exact H
  have Ny486 := am hy486
  clear hy486
  replace H := ga H; obtain ⟨⟨t489, t490, t491⟩, A5, H⟩ := H
  replace H : (spec_l7List.l0 k y486 t489 0 t479 t490 t491) = some r := H
  have H' := am H
  clear H
  go_enter Try.func134, Try.ntmps134
  go_wp2_with (first | ((with_reducible refine gate_callee (f := 131) rfl ?_); refine gl (some 10) Try.func131 #[.slice A0 l0.length c0] ?_; (with_reducible refine (spec_l1New.calls k _ _ l0 t479 t480 t481 w _ ?side1 ?side2 ?side3 A2.out).mono ?_); (case side1 => exact bw); (case side2 => exact HR0.out); (case side3 => exact HC0.out); rintro e w6 ⟨g482, rfl, hi, hb, hb2⟩; refine ⟨_, rfl, ?_⟩; replace HB := am (hb); have HI482 := am (hi); clear hb hb2 hi) | ((with_reducible refine gate_callee (f := 163) rfl ?_); refine gl (some 12) Try.func163 #[.pointer (some ⟨g482, 0, none⟩), .int .i64 3] ?_; (with_reducible refine (spec_l1Once.calls g482 t479 t480 t481 3 true t484 t485 w _ ?side1 ?side2 A3.out).mono ?_); (case side1 => exact iw HI482.out); (case side2 => exact bv); rintro e w7 ⟨rfl, hi, hb, hk⟩; refine ⟨_, rfl, ?_⟩; replace HB := am (hb); replace HI482 := am (hi); clear hb hk hi) | ((with_reducible refine gate_dst (N := 13) rfl ?_); (try (refine gate_guard (by rfl) ?_; dsimp only)); refine Kd.R_lit (Kd.int .i64) _ 3 ?hg (N := 13) ?hd (xs := ([] : List Int)) (inner := []) (ok := fun _ => True) (okp := fun _ => True) ?hr ?hp (fun _ hk => hk) trivial (Below.refl _ _) (Nat.le_refl _) (by simp) ?_; (case hd => rfl); (case hg => rfl); (case hr => first | (go_simp; done) | (go_simp; rfl)); (case hp => exact (Reps.none _ _)); intro v487 w8 ho9 hb hg_ hnew_; clear hg_ hnew_; (first | rw [← Ny486.out] at ho9 | (simp only [Int.reduceToNat] at ho9; rw [← Ny486.out] at ho9)); have HO488 := am (Kd.R_lower ho9 (below_size bv)); replace HB := am (below_step bv hb); replace HI482 := am (IsS132.below (iw HI482.out) hb); clear hb ho9) | ((with_reducible refine gate_callee (f := 156) rfl ?_); refine gl (some 15) Try.func156 #[.pointer (some ⟨g482, 0, none⟩), .int .i64 6] ?_; (with_reducible refine (spec_l1Below.calls g482 t479 t484 t485 6 t489 t490 t491 w _ ?side1 ?side2 A5.out).mono ?_); (case side1 => exact iw HI482.out); (case side2 => exact bv); rintro e w10 ⟨rfl, hi, hb, hk⟩; refine ⟨_, rfl, ?_⟩; replace HO488 := am (Kd.R_mono (Kd.R_keep (IsS132.apart (show IsS132 w _ g482 t479 t484 t485 from (iw HI482.out)) (ro HO488.out) (by decide)) hk (fun _ h => h.2)) (fun _ h => h.1)); replace HB := am (hb); replace HI482 := am (hi); clear hb hk hi))
  go_loopg [4, 6] k (fun kq v4 v6 w' => ∃ (x4_1 : List Int) (x6_1 : Int) (x483001_1 : Int) (x483002_1 : Int), v6 = .int .i64 x6_1 ∧ Aside0 (spec_l7List.l0 kq x4_1 t489 x6_1 t479 x483001_1 x483002_1 = some r) ∧ Aside0 (kq ≤ k) ∧ Aside0 (Kd.R (Kd.int .i64) 3 w' w.heap.size (fun _ => True) v4 x4_1) ∧ Aside0 (IsS132 w w' g482 t479 x483001_1 x483002_1) ∧ Aside0 (Below w.heap.size w w'))
  case atStart => exact ⟨(y486), (0), (t490), (t491), rr, H', ⟨Nat.le_refl _⟩, ⟨ro HO488.out⟩, ⟨(iw HI482.out)⟩, ⟨bv⟩⟩
  case round =>
   clear H'
   obtain ⟨x4_1, x6_1, x483001_1, x483002_1, rfl, HA, HK1, HO_4, HI482, HB⟩ := hrel
   cases gk with
   | zero => exact absurd HA.out (by simp [spec_l7List.l0])
   | succ k1 =>
    have H := HA.out
    clear HA
    simp only [spec_l7List.l0] at H
    replace H := gi H; obtain ⟨c11b0, H⟩ | ⟨c11b0, H⟩ := H
    ·replace H := ga H; obtain ⟨⟨t492, t493, t494⟩, A12, H⟩ := H
     replace H : (if x4_1.length < 17592186044416 then (spec_l7List.l0 k1 (x4_1 ++ [t492]) t489 (wrap64 (x6_1 + 1)) t479 t493 t494) else (none)) = some r := H
     by_cases c13 : x4_1.length < 17592186044416
     rotate_left
     ·rw [if_neg c13] at H
      exact absurd H (by simp)
     rw [if_pos c13] at H
     have LMc13 := am c13
     clear c13
     obtain ⟨y495, hy495⟩ : ∃ y_ : List Int, y_ = (x4_1 ++ [t492]) := ⟨_, rfl⟩
     replace H : (spec_l7List.l0 k1 y495 t489 (wrap64 (x6_1 + 1)) t479 t493 t494) = some r := by first | (rw [hy495]; with_reducible first | exact H | exact bs H) | (with_reducible first | exact bs H | exact H) | (rw [hy495]; exact H) | exact H
     have Ny495 := am hy495
     clear hy495
     have H' := am H
     clear H
     go_wp2_with (first | ((with_reducible refine gate_callee (f := 156) rfl ?_); refine gl (some 23) Try.func156 #[.pointer (some ⟨g482, 0, none⟩), .int .i64 5] ?_; (with_reducible refine (spec_l1Below.calls g482 t479 x483001_1 x483002_1 5 t492 t493 t494 w _ ?side1 ?side2 A12.out).mono ?_); (case side1 => exact iw HI482.out); (case side2 => exact bv); rintro e w14 ⟨rfl, hi, hb, hk⟩; refine ⟨_, rfl, ?_⟩; replace HO_4 := am (Kd.R_mono (Kd.R_keep (IsS132.apart (show IsS132 w _ g482 t479 x483001_1 x483002_1 from (iw HI482.out)) (ro HO_4.out) (by decide)) hk (fun _ h => h.2)) (fun _ h => h.1)); replace HB := am (hb); replace HI482 := am (hi); clear hb hk hi) | ((with_reducible refine gate_builtin (b := .append) (xs := #[.tmp 21, .tmp 24]) rfl ?_); (try (refine gate_guard (by rfl) ?_; dsimp only)); at_builtin; refine Kd.R_append (Kd.int .i64) (w0 := w) w.heap.size rfl (.tmp 21) (.tmp 24) 24 3 (.int .i64 0) 8 rfl Try.underlying24 info3 rfl (by decide) (by omega) u4 x4_1 t492 [.int .i64 t492] (fun _ => True) (fun _ => False) rfl rfl ?aP (fun _ hk => hk.elim) ?aF ?aO ?aB ?aS ?aL ?_; (case aP => exact rfl); (case aB => exact bv); (case aF => exact (fun _ _ => trivial)); (case aO => exact (ro HO_4.out)); (case aS => exact (below_size bv)); (case aL => have := LMc13.out; omega); intro v496 w15 ho hb hg hat; rw [← Ny495.out] at ho; replace HI482 := am (IsS132.grown (iw HI482.out) hg (IsS132.own_ne HI482.out HO_4.out (by decide))); replace HB := am (hb); have HO497 := am (ho); clear HO_4 ho hb hg hat))
     go_roundg k1
     case measure => have := HK1.out; omega
     case rel => exact ⟨(y495), (wrap64 (x6_1 + 1)), (t493), (t494), rr, H', ⟨by have := HK1.out; omega⟩, ⟨ro HO497.out⟩, ⟨(iw HI482.out)⟩, ⟨bv⟩⟩
    obtain rfl := Option.some.inj H
    go_wp2
    go_ret
    exact ⟨_, re, ro HO_4.out, bv⟩
 replace H := ga H; obtain ⟨⟨t498, t501, t502⟩, A16, H⟩ := H
 replace H : ((spec_CoordinatesOf.f k t498).bind fun t503 => ((spec_l1Once.f t479 t501 t502 3).bind fun bt506 => (if bt506.1 = true then (spec_l7List.j1 k t503 (decide ((t503.length : Int) > 0)) t479 bt506.2.1 bt506.2.2) else (spec_l7List.j1 k t503 false t479 bt506.2.1 bt506.2.2)))) = some r := H
 replace H := ga H; obtain ⟨t503, A17, H⟩ := H
 have HC18 := am H
 clear H
 go_enter Try.func134, Try.ntmps134
 go_upto_region 11 with (first | ((with_reducible refine gate_callee (f := 131) rfl ?_); refine gl (some 10) Try.func131 #[.slice A0 l0.length c0] ?_; (with_reducible refine (spec_l1New.calls k _ _ l0 t479 t480 t481 w _ ?side1 ?side2 ?side3 A2.out).mono ?_); (case side1 => exact bw); (case side2 => exact HR0.out); (case side3 => exact HC0.out); rintro e w19 ⟨g482, rfl, hi, hb, hb2⟩; refine ⟨_, rfl, ?_⟩; replace HB := am (hb); have HI482 := am (hi); clear hb hb2 hi) | ((with_reducible refine gate_callee (f := 163) rfl ?_); refine gl (some 12) Try.func163 #[.pointer (some ⟨g482, 0, none⟩), .int .i64 3] ?_; (with_reducible refine (spec_l1Once.calls g482 t479 t480 t481 3 false t484 t485 w _ ?side1 ?side2 A3.out).mono ?_); (case side1 => exact iw HI482.out); (case side2 => exact bv); rintro e w20 ⟨rfl, hi, hb, hk⟩; refine ⟨_, rfl, ?_⟩; replace HB := am (hb); replace HI482 := am (hi); clear hb hk hi) | ((with_reducible refine gate_callee (f := 213) rfl ?_); refine gl (some 28) Try.func213 #[.pointer (some ⟨g482, 0, none⟩)] ?_; (with_reducible refine (spec_l3Draw.calls k g482 t479 t484 t485 t498 t501 t502 w _ ?side1 ?side2 A16.out).mono ?_); (case side1 => exact iw HI482.out); (case side2 => exact bv); rintro e w21 ⟨v499, rfl, ho0, hi, hb, hk⟩; refine ⟨_, rfl, ?_⟩; have HO500 := am (Kd.R_lower ho0 (below_size bv)); replace HB := am (hb); replace HI482 := am (hi); clear hb hk hi ho0; obtain ⟨Ao22, co22, eo22⟩ := Kd.R_slice HO500.out; subst eo22) | ((with_reducible refine gate_callee (f := 21) rfl ?_); refine gl (some 29) Try.func21 #[.agg #[.slice Ao22 t498.length co22]] ?_; (with_reducible refine (spec_CoordinatesOf.calls k _ _ t498 t503 _ ?side1 ?side2 A17.out).mono ?_); (case side1 => exact co (Kd.R_reads' HO500.out).2.2); (case side2 => exact (Kd.R_reads' HO500.out).2.1); rintro e w23 ⟨v504, rfl, ho0, hb⟩; refine ⟨_, rfl, ?_⟩; have HO505 := am (Kd.R_lower (Kd.R_new' ho0 (Kd.R_lt (ro HO500.out))) (below_size bv)); replace HO500 := am (Kd.R_elder' (ro HO500.out) (Kd.R_base ho0) hb); replace HB := am (below_step bv hb); replace HI482 := am (IsS132.below (iw HI482.out) hb); clear hb ho0))
 (try simp only [Act.put, List.setIfInBounds_toArray, List.set_cons_zero, List.set_cons_succ])
 go_cut [36] (fun v36 wc => ∃ (kq : Nat) (x36_17 : Bool) (x483001_17 : Int) (x483002_17 : Int), v36 = .bool x36_17 ∧ Aside0 (spec_l7List.j1 kq t503 x36_17 t479 x483001_17 x483002_17 = some r) ∧ Aside0 (kq ≤ k) ∧ Aside0 (Kd.R (Kd.int .i64) 3 wc w.heap.size (fun _ => True) v504 t503) ∧ Aside0 (IsS132 w wc g482 t479 x483001_17 x483002_17) ∧ Aside0 (Below w.heap.size w wc))
 case first =>
  have H := HC18.out
  clear HC18
  replace H := ga H; obtain ⟨⟨t506, t507, t508⟩, A24, H⟩ := H
  replace H : (if t506 = true then (spec_l7List.j1 k t503 (decide ((t503.length : Int) > 0)) t479 t507 t508) else (spec_l7List.j1 k t503 false t479 t507 t508)) = some r := H
  replace H := gb H; obtain ⟨rfl, H⟩ | ⟨rfl, H⟩ := H
  ·have H' := am H
   clear H
   go_wp2_with (first | ((with_reducible refine gate_callee (f := 163) rfl ?_); refine gl (some 31) Try.func163 #[.pointer (some ⟨g482, 0, none⟩), .int .i64 3] ?_; (with_reducible refine (spec_l1Once.calls g482 t479 t501 t502 3 true t507 t508 w _ ?side1 ?side2 A24.out).mono ?_); (case side1 => exact iw HI482.out); (case side2 => exact bv); rintro e w26 ⟨rfl, hi, hb, hk⟩; refine ⟨_, rfl, ?_⟩; replace HO500 := am (Kd.R_mono (Kd.R_keep (IsS132.apart (show IsS132 w _ g482 t479 t501 t502 from (iw HI482.out)) (ro HO500.out) (by decide)) hk (fun _ h => h.2)) (fun _ h => h.1)); replace HO505 := am (Kd.R_mono (Kd.R_keep (IsS132.apart (show IsS132 w _ g482 t479 t501 t502 from (iw HI482.out)) (ro HO505.out) (by decide)) hk (fun _ h => h.2)) (fun _ h => h.1)); replace HB := am (hb); replace HI482 := am (hi); clear hb hk hi; obtain ⟨Ao27, co27, eo27⟩ := Kd.R_slice HO505.out; subst eo27))
   go_meet
   case rel => exact ⟨_, (decide ((t503.length : Int) > 0)), (t507), (t508), rr, H', ⟨om⟩, ⟨by (with_reducible repeat (first | apply Kd.R_alloc | apply Kd.R_drewN | apply Kd.R_drew)); exact Kd.R_mono HO505.out (fun _ hk => trivial)⟩, ⟨(iw HI482.out)⟩, ⟨bv⟩⟩
  have H' := am H
  clear H
  go_wp2_with (first | ((with_reducible refine gate_callee (f := 163) rfl ?_); refine gl (some 31) Try.func163 #[.pointer (some ⟨g482, 0, none⟩), .int .i64 3] ?_; (with_reducible refine (spec_l1Once.calls g482 t479 t501 t502 3 false t507 t508 w _ ?side1 ?side2 A24.out).mono ?_); (case side1 => exact iw HI482.out); (case side2 => exact bv); rintro e w28 ⟨rfl, hi, hb, hk⟩; refine ⟨_, rfl, ?_⟩; replace HO500 := am (Kd.R_mono (Kd.R_keep (IsS132.apart (show IsS132 w _ g482 t479 t501 t502 from (iw HI482.out)) (ro HO500.out) (by decide)) hk (fun _ h => h.2)) (fun _ h => h.1)); replace HO505 := am (Kd.R_mono (Kd.R_keep (IsS132.apart (show IsS132 w _ g482 t479 t501 t502 from (iw HI482.out)) (ro HO505.out) (by decide)) hk (fun _ h => h.2)) (fun _ h => h.1)); replace HB := am (hb); replace HI482 := am (hi); clear hb hk hi))
  go_meet
  case rel => exact ⟨_, (false), (t507), (t508), rr, H', ⟨om⟩, ⟨by (with_reducible repeat (first | apply Kd.R_alloc | apply Kd.R_drewN | apply Kd.R_drew)); exact Kd.R_mono HO505.out (fun _ hk => trivial)⟩, ⟨(iw HI482.out)⟩, ⟨bv⟩⟩
 case rest =>
  clear HC18
  try clear c11b0; try clear c13
  obtain ⟨kq, x36_17, x483001_17, x483002_17, rfl, HA, HJ17, HO_7, HI482, HB⟩ := hcut
  cases kq with
  | zero => exact absurd HA.out (by simp [spec_l7List.j1])
  | succ kj17 =>
   have H := HA.out
   clear HA
   simp only [spec_l7List.j1] at H
   replace H := gb H; obtain ⟨rfl, H⟩ | ⟨rfl, H⟩ := H
   ·replace H := ga H; obtain ⟨⟨t509, t510, t511⟩, A30, H⟩ := H
    replace H : (if 0 ≤ t509 then (if t509 < (t503.length : Int) then ((spec_l1Below.f t479 t510 t511 3).bind fun bt513 => (some (t503.set (t509 : Int).toNat (wrap64 ((wrap64 ((rd t503 t509) + bt513.1)) - 1))))) else (none)) else (none)) = some r := H
    replace H := gd H; obtain ⟨c31b0, H⟩ := H
    replace H := gd H; obtain ⟨c32b0, H⟩ := H
    replace H := ga H; obtain ⟨⟨t513, t514, t515⟩, A33, H⟩ := H
    replace H : (some (t503.set (t509 : Int).toNat (wrap64 ((wrap64 ((rd t503 t509) + t513)) - 1)))) = some r := H
    obtain ⟨y516, hy516⟩ : ∃ y_ : List Int, y_ = (t503.set (t509 : Int).toNat (wrap64 ((wrap64 ((rd t503 t509) + t513)) - 1))) := ⟨_, rfl⟩
    replace H : (some y516) = some r := by first | (rw [hy516]; with_reducible first | exact H | exact bs H) | (with_reducible first | exact bs H | exact H) | (rw [hy516]; exact H) | exact H
    have Ny516 := am hy516
    clear hy516
    obtain rfl := Option.some.inj H
    obtain ⟨Ao35, co35, eo35⟩ := Kd.R_slice HO_7.out
    subst eo35
    try go_wp2_with (first | ((with_reducible refine gate_callee (f := 156) rfl ?_); refine gl (some 40) Try.func156 #[.pointer (some ⟨g482, 0, none⟩), .int .i64 (t503.length : Int)] ?_; (with_reducible refine (spec_l1Below.calls g482 t479 x483001_17 x483002_17 (t503.length : Int) t509 t510 t511 w _ ?side1 ?side2 A30.out).mono ?_); (case side1 => exact iw HI482.out); (case side2 => exact bv); rintro e w36 ⟨rfl, hi, hb, hk⟩; refine ⟨_, rfl, ?_⟩; replace HO_7 := am (Kd.R_mono (Kd.R_keep (IsS132.apart (show IsS132 w _ g482 t479 x483001_17 x483002_17 from (iw HI482.out)) (ro HO_7.out) (by decide)) hk (fun _ h => h.2)) (fun _ h => h.1)); replace HB := am (hb); replace HI482 := am (hi); clear hb hk hi))
    replace HO_7 := am (Kd.R_drew HO_7.out)
    replace HI482 := am (IsS132.drew HI482.out)
    replace HB := am (below_drew1 HB.out)
    obtain ⟨⟨ad512, e512, hx512_0⟩, p512, q512⟩ := pq (Kd.at_int (Kd.R_reads' HO_7.out).2.2 t509)
    cases e512
    refine start_ (n := 12) (S := fun w' => w'.cell? (ad512.add (t509).toNat) = some (.int .i64 (rd t503 t509))) (ds := [11]) (yz 12 0) (by kernel_rfl) rfl rfl (hx512_0) (fun hHeld => ?_); refine with_tabW spec_l7List.tab13 spec_l7List.bits13 (fun HT_ HW_ => ?_)
    generalize w36.drew = w37 at HO_7 HI482 HB hx512_0 hHeld ⊢
    refine pa 0 (some 41) (yz 12 1) HT_ ?_
    refine pa 1 (some 42) (yz 12 3) HT_ ?_
    refine pa 2 (some 43) (yz 12 7) HT_ ?_
    refine pa 3 (some 44) (yz 12 15) HT_ ?_
    refine pa 4 (some 45) (yz 12 31) HT_ ?_
    refine pa 6 (some 47) (yz 12 95) HT_ ?_
    refine tK 5 (some 46) (yz 12 127) HT_ HW_ hHeld ?_
    refine oa 7 (some 48) (yz 12 255) HT_ (fun K hK => ?_)
    refine gm Try.func156 #[.pointer (some ⟨g482, 0, none⟩), .int .i64 3] ?_
    with_reducible refine (spec_l1Below.calls g482 t479 t510 t511 3 t513 t514 t515 w _ ?side1 ?side2 A33.out).mono ?_
    (case side1 => exact iw HI482.out)
    (case side2 => exact bv)
    rintro e w38 ⟨rfl, hi, hb, hk⟩
    have HS0_ := keep_cell hk (hHeld) (by first | (rw [add_block]; exact Kd.own_blk (IsS132.own_ne HI482.out HO_7.out (by decide))) | (show (Addr.add _ _).block ≠ _; rw [add_block]; exact Kd.own_blk (IsS132.own_ne HI482.out HO_7.out (by decide))) | exact Kd.own_blk (IsS132.own_ne HI482.out HO_7.out (by decide)))
    refine ⟨_, rfl, ?_⟩
    replace HO_7 := am (Kd.R_mono (Kd.R_keep (IsS132.apart (show IsS132 w _ g482 t479 t510 t511 from (iw HI482.out)) (ro HO_7.out) (by decide)) hk (fun _ h => h.2)) (fun _ h => h.1))
    replace HB := am (hb)
    replace HI482 := am (hi)
    clear hb hk hi
    have p34 : 0 ≤ (t509 : Int) := of_decide_eq_true (by first | (with_reducible assumption) | assumption)
    have q34 : (t509 : Int) < ((t503.length : Int) : Int) := of_decide_eq_true (by first | (with_reducible assumption) | assumption)
    obtain ⟨go34, co34, eo34, gb34, gl34, cl34, HG34⟩ := Kd.R_form HO_7.out (by omega)
    (first | cases eo34 | (injection eo34 with ea_ en_ ec_; (first | subst ea_ | (injection ea_ with ea_; subst ea_)); subst ec_; clear en_))
    have GB34 := am gb34
    have GG34 := am HG34
    clear gb34 gl34 HG34
    (first | simp only [add_plain] at hx512_0 | skip)
    obtain ⟨hx34_0, hf34_0⟩ := Kd.R_celln 0 HO_7.out (t509 : Int) p34 q34
    replace p34 := eq_true p34
    replace q34 := eq_true q34
    have HN482_go34 := am (show g482 ≠ go34 from by have h_ := IsS132.own_ne HI482.out HO_7.out (by decide); intro e_; exact h_ (by rw [e_]; rfl))
    have HP39 := Kd.R_putn HO_7.out (t509 : Int) (wrap64 ((wrap64 ((rd t503 t509) + t513)) - 1))
    rw [← Ny516.out] at HP39
    have HQ39 := am HP39
    clear HP39
    refine hK.out _ _ (HS0_) (fun hHeld => ?_)
    clear hK K
    refine nm (some 48) ?_
    refine pa 8 (some 49) (yz 12 511) HT_ ?_
    refine pa 9 (some 50) (yz 12 1023) HT_ ?_
    refine pa 10 (some 51) (yz 12 2047) HT_ ?_
    refine last_ (i := 11) (N := none) (yz 12 4095) rfl rfl (one_of HT_.out (by kernel_rfl)) (by decide) (fun K hK => ?_)
    refine skip_ (w1 := ?_) (by rfl) rfl ?_ ?_
    rotate_left
    ·go_simp
     rfl
    refine hK.out _ _ ?_
    clear hK K
    refine done_ (done_of HT_.out (by kernel_rfl)) ?_
    try go_wp2
    go_ret
    exact ⟨_, re, by (with_reducible repeat (first | apply Kd.R_alloc | apply Kd.R_drewN | apply Kd.R_drew)); exact HQ39.out, bv⟩
   obtain rfl := Option.some.inj H
   go_wp2
   go_ret
   exact ⟨_, re, ro HO_7.out, bv⟩


/-! ### spec_DrawFromCoordinates: function 15 -/
def spec_DrawFromCoordinates.f (k : Nat) (l0 : List Int) : Option (List Int) := (spec_l7List.f k l0).bind fun t517 => (some t517)
set_option maxHeartbeats 8000000 in
set_option maxRecDepth 100000 in
theorem spec_DrawFromCoordinates.calls (k : Nat) (A0 : Option Addr) (c0 : Nat) (l0 : List Int) (r : List Int) (w : World) (hr0 : Kd.C (Kd.int .u8) w A0 l0.length l0) (hc0 : l0.length ≤ c0) (h : spec_DrawFromCoordinates.f k l0 = some r) :
  Calls Try.prog 15 #[.slice A0 l0.length c0] w fun e w' => ∃ v0_ : Value, e = .returned (v0_) ∧ Kd.R (Kd.int .i64) 3 w' w.heap.size (fun _ => True) v0_ r ∧ Below w.heap.size w w' := by
 have HR0 := am hr0
 have HC0 := am hc0
 clear hr0 hc0
 have HB := am (Below.refl w.heap.size w)
 have H : ((spec_l7List.f k l0).bind fun t517 => (some t517)) = some r := h
 clear h
 replace H := ga H; obtain ⟨t517, A2, H⟩ := H
 obtain rfl := Option.some.inj H
 go_enter Try.func15, Try.ntmps15
 go_wp2_with (first | ((with_reducible refine gate_callee (f := 134) rfl ?_); refine gl (some 4) Try.func134 #[.slice A0 l0.length c0] ?_; (with_reducible refine (spec_l7List.calls k _ _ l0 t517 _ ?side1 ?side2 A2.out).mono ?_); (case side1 => exact co HR0.out); (case side2 => exact HC0.out); rintro e w3 ⟨v518, rfl, ho0, hb⟩; refine ⟨_, rfl, ?_⟩; have HO519 := am (Kd.R_lower ho0 (below_size bw)); replace HB := am (below_step bw hb); clear hb ho0))
 go_ret
 exact ⟨_, re, ro HO519.out, bw⟩


/-! ### slices_Sort_int_int: function 197 -/
def slices_Sort_int_int.f (l0 : List Int) : Option (List Int) := if l0.length < 4611686018427387904 then some (l0.mergeSort fun x y => decide (x ≤ y)) else none
theorem slices_Sort_int_int.calls (P0_ : Nat → Prop) (u9000_ : Value) (l0 : List Int) (r : List Int) (w0 w : World) (hB : Below w0.heap.size w0 w) (ho0 : Kd.R (Kd.int .i64) 3 w w0.heap.size P0_ u9000_ l0) (h : slices_Sort_int_int.f l0 = some r) :
  Calls Try.prog 197 #[u9000_] w fun e w' => e = .returned (.tuple #[]) ∧ Kd.R (Kd.int .i64) 3 w' w0.heap.size (fun k_ => (P0_ k_ ∨ w.heap.size ≤ k_)) u9000_ r ∧ Below w0.heap.size w0 w' ∧ Kept w w' (fun k_ => P0_ k_) := by
 unfold slices_Sort_int_int.f at h
 by_cases c : l0.length < 4611686018427387904
 rotate_left
 ·rw [if_neg c] at h
  cases h
 rw [if_pos c] at h
 obtain rfl := Option.some.inj h
 rcases (Kd.own_of_R ho0).2 with ⟨rfl, hn⟩ | ⟨g, cap, cur, rfl, hb, hg, h1, h2, h3, h4⟩
 ·have e0 : l0 = [] := List.eq_nil_of_length_eq_zero hn
  subst e0
  refine (Try.slices_Sort_int_none none 0 w).mono ?_
  rintro e w' ⟨rfl, rfl⟩
  exact ⟨rfl, by rw [List.mergeSort_nil]; exact Kd.R_mono ho0 (fun k hk => .inl hk), hB, Kept.refl _ _⟩
 ·have hl : g < w.heap.size := (Array.getElem?_eq_some_iff.1 hg).1
  refine (Try.slices_Sort_int g 0 cap l0 w (Go.holds_of_blockI hg (by rw [← Nat.mul_one l0.length]; exact h4)) hl c).mono ?_
  rintro e w' ⟨rfl, n, os, rfl⟩
  have hlen : (l0.mergeSort fun x y => decide (x ≤ y)).length = l0.length := List.length_mergeSort ..
  have hgr := Go.grownBy_sortedI (w := w) (g := g) (n := n) (os := os) (l0.mergeSort fun x y => decide (x ≤ y)).toArray
  exact ⟨rfl, Kd.R_of_own (by rw [hlen]; exact Go.ownsRow_sortedI (n := n) (os := os) hlen hb hg h1 h2 h3) (fun k hk => .inl (ho0.1 k hk)),
   ⟨hgr.os.trans hB.os, hgr.tape.trans hB.tape, hgr.output.trans hB.output, Nat.le_trans hB.size hgr.size, fun k hk => (hgr.block k (Nat.lt_of_lt_of_le hk hB.size) (fun e => by injection e with e; omega)).trans (hB.block k hk)⟩,
   ⟨hgr.size, fun i hi hP => hgr.block i hi (fun e => hP (ho0.1 i (by rw [e]; rfl)))⟩⟩


/-! ### slices_Compact_int_int: function 198 -/
def slices_Compact_int_int.f (l0 : List Int) : Option (List Int) := if l0.length ≤ 9223372036854775807 then some (Go.Lib.compact l0) else none
theorem slices_Compact_int_int.calls (P0_ : Nat → Prop) (u9000_ : Value) (l0 : List Int) (r : List Int) (w0 w : World) (hB : Below w0.heap.size w0 w) (ho0 : Kd.R (Kd.int .i64) 3 w w0.heap.size P0_ u9000_ l0) (h : slices_Compact_int_int.f l0 = some r) :
  Calls Try.prog 198 #[u9000_] w fun e w' => ∃ v0_ : Value, e = .returned (v0_) ∧ Kd.R (Kd.int .i64) 3 w' w0.heap.size (fun k_ => (P0_ k_ ∨ w.heap.size ≤ k_)) v0_ r ∧ Below w0.heap.size w0 w' ∧ Kept w w' (fun k_ => P0_ k_) := by
 unfold slices_Compact_int_int.f at h
 by_cases c : l0.length ≤ 9223372036854775807
 rotate_left
 ·rw [if_neg c] at h
  cases h
 rw [if_pos c] at h
 obtain rfl := Option.some.inj h
 rcases (Kd.own_of_R ho0).2 with ⟨rfl, hn⟩ | ⟨g, cap, cur, rfl, hb, hg, h1, h2, h3, h4⟩
 ·have e0 : l0 = [] := List.eq_nil_of_length_eq_zero hn
  subst e0
  refine (Try.slices_Compact_int_empty none 0 w).mono ?_
  rintro e w' ⟨rfl, rfl⟩
  exact ⟨_, rfl, Kd.R_mono (show Kd.R (Kd.int .i64) 3 w' w0.heap.size P0_ (.slice none 0 0) (Go.Lib.compact []) from ho0) (fun k hk => .inl hk), hB, Kept.refl _ _⟩
 ·have hl : g < w.heap.size := (Array.getElem?_eq_some_iff.1 hg).1
  refine (Try.slices_Compact_int g 0 cap l0 w (Go.holds_of_blockI hg (by rw [← Nat.mul_one l0.length]; exact h4)) c h1).mono ?_
  rintro e w' ⟨rfl, q, rfl⟩
  have hk : (Go.Lib.compact l0).length ≤ l0.length := by
   unfold Go.Lib.compact Go.Lib.compactUpTo
   rw [List.length_map]
   exact Nat.le_trans (List.length_filter_le ..) (by rw [List.length_range]; exact Nat.le_refl _)
  have hgr := Go.grownBy_sortedI (w := w) (g := g) (n := q) (os := #[]) (Go.Lib.compact l0 ++ List.replicate (l0.length - (Go.Lib.compact l0).length) 0).toArray
  rw [Go.Sort.grow_empty] at hgr
  have hr := Go.Lib.ownsRow_putRow (q := q) (k := (Go.Lib.compact l0).length) (Kd.own_of_R ho0) (ys := Go.Lib.compact l0 ++ List.replicate (l0.length - (Go.Lib.compact l0).length) 0) (by rw [List.length_append, List.length_replicate]; omega) hk
  rw [List.take_left] at hr
  exact ⟨_, rfl, Kd.R_of_own hr (fun k hk => .inl (ho0.1 k hk)),
   ⟨hgr.os.trans hB.os, hgr.tape.trans hB.tape, hgr.output.trans hB.output, Nat.le_trans hB.size hgr.size, fun k hk => (hgr.block k (Nat.lt_of_lt_of_le hk hB.size) (fun e => by injection e with e; omega)).trans (hB.block k hk)⟩,
   ⟨hgr.size, fun i hi hP => hgr.block i hi (fun e => hP (ho0.1 i (by rw [e]; rfl)))⟩⟩


/-! ### impl_SortList: function 89 -/
def impl_SortList.f (l0 : List Int) : Option (List Int) := (some (([] : List Int) : List Int)).bind fun y639 => (if y639.length + l0.length < 17592186044416 then ((slices_Sort_int_int.f (y639 ++ l0)).bind fun t645 => ((slices_Compact_int_int.f t645).bind fun t646 => (some t646))) else (none))
set_option maxHeartbeats 8000000 in
set_option maxRecDepth 100000 in
theorem impl_SortList.calls (A0 : Option Addr) (c0 : Nat) (l0 : List Int) (r : List Int) (w : World) (hr0 : Kd.C (Kd.int .i64) w A0 l0.length l0) (hc0 : l0.length ≤ c0) (h : impl_SortList.f l0 = some r) :
  Calls Try.prog 89 #[.slice A0 l0.length c0] w fun e w' => ∃ v0_ : Value, e = .returned (v0_) ∧ Kd.R (Kd.int .i64) 3 w' w.heap.size (fun _ => True) v0_ r ∧ Below w.heap.size w w' := by
 have HR0 := am hr0
 have HC0 := am hc0
 clear hr0 hc0
 have HB := am (Below.refl w.heap.size w)
 have H : ((some (([] : List Int) : List Int)).bind fun y639 => (if y639.length + l0.length < 17592186044416 then ((slices_Sort_int_int.f (y639 ++ l0)).bind fun t645 => ((slices_Compact_int_int.f t645).bind fun t646 => (some t646))) else (none))) = some r := h
 clear h
 obtain ⟨y639, hy639⟩ : ∃ y_ : List Int, y_ = (([] : List Int)) := ⟨_, rfl⟩
 replace H : (if y639.length + l0.length < 17592186044416 then ((slices_Sort_int_int.f (y639 ++ l0)).bind fun t645 => ((slices_Compact_int_int.f t645).bind fun t646 => (some t646))) else (none)) = some r := by first | (rw [hy639]; with_reducible first | exact H | exact bs H) | (with_reducible first | exact bs H | exact H) | (rw [hy639]; exact H) | exact H
 have Ny639 := am hy639
 clear hy639
 by_cases c2 : y639.length + l0.length < 17592186044416
 rotate_left
 ·rw [if_neg c2] at H
  exact absurd H (by simp)
 rw [if_pos c2] at H
 have LMc2 := am c2
 clear c2
 obtain ⟨y642, hy642⟩ : ∃ y_ : List Int, y_ = (y639 ++ l0) := ⟨_, rfl⟩
 replace H : ((slices_Sort_int_int.f y642).bind fun t645 => ((slices_Compact_int_int.f t645).bind fun t646 => (some t646))) = some r := by first | (rw [hy642]; with_reducible first | exact H | exact bs H) | (with_reducible first | exact bs H | exact H) | (rw [hy642]; exact H) | exact H
 have Ny642 := am hy642
 clear hy642
 replace H := ga H; obtain ⟨t645, A3, H⟩ := H
 replace H := ga H; obtain ⟨t646, A4, H⟩ := H
 obtain rfl := Option.some.inj H
 go_enter Try.func89, Try.ntmps89
 go_wp2_with (first | ((with_reducible refine gate_dst (N := 4) rfl ?_); refine Kd.R_lit (Kd.int .i64) _ 3 ?hg (N := 4) ?hd (xs := ([] : List Int)) (inner := []) (ok := fun _ => True) (okp := fun _ => True) ?hr ?hp (fun _ hk => hk) trivial (Below.refl _ _) (Nat.le_refl _) (by simp) ?_; (case hd => rfl); (case hg => rfl); (case hr => first | (go_simp; done) | (go_simp; rfl)); (case hp => exact (Reps.none _ _)); intro v640 w5 ho6 hb hg_ hnew_; clear hg_ hnew_; (first | rw [← Ny639.out] at ho6 | (simp only [Int.reduceToNat] at ho6; rw [← Ny639.out] at ho6)); have HO641 := am (Kd.R_lower ho6 (below_size bw)); replace HB := am (below_step bw hb); clear hb ho6) | ((with_reducible refine gate_builtin (b := .append) (xs := #[.tmp 4, .tmp 5]) rfl ?_); at_builtin; refine Kd.R_append_rows (Kd.int .i64) (w0 := w) w.heap.size rfl (.tmp 4) (.tmp 5) 24 3 (.int .i64 0) 8 rfl Try.underlying24 info3 rfl (by decide) (by omega) v640 y639 l0 _ _ _ (fun _ => True) (fun _ => False) rfl rfl ?aO ?aR (fun _ _ h => h) (fun _ h => h.elim) ?aF ?aB ?aS ?aL ?_; (case aR => exact co (Kd.C_below HR0.out HB.out)); (case aB => exact bw); (case aF => exact (fun _ _ => trivial)); (case aO => exact (ro HO641.out)); (case aS => exact (below_size bw)); (case aL => have := LMc2.out; omega); intro v643 w7 ho hb hg hat; rw [← Ny642.out] at ho; replace HB := am (hb); have HO644 := am (ho); clear HO641 ho hb hg hat; obtain ⟨Ao8, co8, eo8⟩ := Kd.R_slice HO644.out; subst eo8) | ((with_reducible refine gate_callee (f := 197) rfl ?_); refine gl (some 8) Try.func197 #[.slice Ao8 y642.length co8] ?_; (with_reducible refine (slices_Sort_int_int.calls (fun k_ => some k_ = (.slice Ao8 y642.length co8 : Value).ownBlock) (.slice Ao8 y642.length co8) y642 t645 w _ ?side1 ?side2 A3.out).mono ?_); (case side1 => exact bw); (case side2 => exact Kd.R_tight rfl HO644.out); rintro e w9 ⟨rfl, hy0, hb, hkp⟩; refine ⟨_, rfl, ?_⟩; replace HO644 := am (Kd.R_reok rfl hy0 (fun k_ e_ => HO644.out.1 k_ e_)); replace HB := am (hb); clear hb hkp hy0) | ((with_reducible refine gate_callee (f := 198) rfl ?_); refine gl (some 10) Try.func198 #[.slice Ao8 y642.length co8] ?_; (with_reducible refine (slices_Compact_int_int.calls (fun k_ => some k_ = (.slice Ao8 y642.length co8 : Value).ownBlock) (.slice Ao8 y642.length co8) t645 t646 w _ ?side1 ?side2 A4.out).mono ?_); (case side1 => exact bw); (case side2 => exact Kd.R_tight rfl HO644.out); rintro e w10 ⟨v647, rfl, ho0, hb, hkp⟩; refine ⟨_, rfl, ?_⟩; have HO648 := am (Kd.R_mono (ok' := fun k_ => True) ho0 (fun k_ hk_ => trivial)); replace HB := am (hb); clear HO644 hb hkp ho0))
 go_ret
 exact ⟨_, re, ro HO648.out, bw⟩


/-! ### slices_Equal_int_int: function 137 -/
def slices_Equal_int_int.l0 : Nat → List Int → List Int → Int → Int → Option (Bool)
 | 0, _, _, _, _ => none
 | k + 1, x0, x1, x12, x13 => if x13 < x12 then (if 0 ≤ x13 then (if x13 < (x0.length : Int) then (if x13 < (x1.length : Int) then (if (rd x0 x13) = (rd x1 x13) then (slices_Equal_int_int.l0 k x0 x1 x12 (wrap64 (x13 + 1))) else (some false)) else (none)) else (none)) else (none)) else (some true)
def slices_Equal_int_int.f (k : Nat) (l0 : List Int) (l1 : List Int) : Option (Bool) := if (l0.length : Int) = (l1.length : Int) then (slices_Equal_int_int.l0 k l0 l1 (l0.length : Int) 0) else (some false)
set_option maxHeartbeats 8000000 in
set_option maxRecDepth 100000 in
theorem slices_Equal_int_int.calls (k : Nat) (A0 : Option Addr) (c0 : Nat) (l0 : List Int) (A1 : Option Addr) (c1 : Nat) (l1 : List Int) (r : Bool) (w : World) (hr0 : Kd.C (Kd.int .i64) w A0 l0.length l0) (hc0 : l0.length ≤ c0) (hr1 : Kd.C (Kd.int .i64) w A1 l1.length l1) (hc1 : l1.length ≤ c1) (h : slices_Equal_int_int.f k l0 l1 = some r) :
  Calls Try.prog 137 #[.slice A0 l0.length c0, .slice A1 l1.length c1] w fun e w' => e = .returned (.bool r) ∧ Drawn0 w w' := by
 have HR0 := am hr0
 have HC0 := am hc0
 clear hr0 hc0
 have HR1 := am hr1
 have HC1 := am hc1
 clear hr1 hc1
 have H : (if (l0.length : Int) = (l1.length : Int) then (slices_Equal_int_int.l0 k l0 l1 (l0.length : Int) 0) else (some false)) = some r := h
 clear h
 by_cases c3 : (l0.length : Int) = (l1.length : Int)
 ·rw [if_pos c3] at H
  have c3b0 : ((l0.length : Int) == (l1.length : Int)) = true := beq_iff_eq.mpr c3
  have c3b1 : ((l0.length : Int) != (l1.length : Int)) = false := bne_eq_false_iff_eq.mpr c3
  have c3b2 : (l0.length == l1.length) = true := by first | simpa using c3 | (simp at c3 ⊢; omega)
  clear c3
  have H' := am H
  clear H
  go_enter Try.func137, Try.ntmps137
  go_wp2
  repeat (go_quiet (fail); try go_wp2)
  go_loopg [13] k (fun kq v13 w' => ∃ (x13_1 : Int), v13 = .int .i64 x13_1 ∧ Aside0 (slices_Equal_int_int.l0 kq l0 l1 (l0.length : Int) x13_1 = some r) ∧ Aside0 (kq ≤ k) ∧ Drawn0 w w')
  case atStart => exact ⟨(0), rr, H', ⟨Nat.le_refl _⟩, dw⟩
  case round =>
   clear H'
   try clear c1; try clear c3; try clear c3b0; try clear c3b1; try clear c3b2
   obtain ⟨x13_1, rfl, HA, HK1, ⟨m1, rfl⟩⟩ := hrel
   cases gk with
   | zero => exact absurd HA.out (by simp [slices_Equal_int_int.l0])
   | succ k1 =>
    have H := HA.out
    clear HA
    simp only [slices_Equal_int_int.l0] at H
    replace H := gi H; obtain ⟨c4b0, H⟩ | ⟨c4b0, H⟩ := H
    ·replace H := gd H; obtain ⟨c5b0, H⟩ := H
     replace H := gd H; obtain ⟨c6b0, H⟩ := H
     replace H := gd H; obtain ⟨c7b0, H⟩ := H
     by_cases c8 : (rd l0 x13_1) = (rd l1 x13_1)
     ·rw [if_pos c8] at H
      have c8b0 : ((rd l0 x13_1) == (rd l1 x13_1)) = true := beq_iff_eq.mpr c8
      have c8b1 : ((rd l0 x13_1) != (rd l1 x13_1)) = false := bne_eq_false_iff_eq.mpr c8
      clear c8
      have H' := am H
      clear H
      obtain ⟨⟨ad649, e649, hx649_0⟩, p649, q649⟩ := pq (Kd.at_int HR0.out x13_1)
      cases e649
      obtain ⟨⟨ad650, e650, hx650_0⟩, p650, q650⟩ := pq (Kd.at_int HR1.out x13_1)
      cases e650
      go_wp2
      repeat (go_quiet (fail); try go_wp2)
      go_roundg k1
      case measure => have := HK1.out; omega
      case rel => exact ⟨(wrap64 (x13_1 + 1)), rr, H', ⟨by have := HK1.out; omega⟩, dw⟩
     rw [if_neg c8] at H
     have c8b0 : ((rd l0 x13_1) == (rd l1 x13_1)) = false := beq_eq_false_iff_ne.mpr c8
     have c8b1 : ((rd l0 x13_1) != (rd l1 x13_1)) = true := bne_iff_ne.mpr c8
     obtain rfl := Option.some.inj H
     obtain ⟨⟨ad649, e649, hx649_0⟩, p649, q649⟩ := pq (Kd.at_int HR0.out x13_1)
     cases e649
     obtain ⟨⟨ad650, e650, hx650_0⟩, p650, q650⟩ := pq (Kd.at_int HR1.out x13_1)
     cases e650
     go_wp2
     repeat (go_quiet (fail); try go_wp2)
     go_ret
     exact ⟨rr, dw⟩
    obtain rfl := Option.some.inj H
    go_wp2
    repeat (go_quiet (fail); try go_wp2)
    go_ret
    exact ⟨rr, dw⟩
 rw [if_neg c3] at H
 have c3b0 : ((l0.length : Int) == (l1.length : Int)) = false := beq_eq_false_iff_ne.mpr c3
 have c3b1 : ((l0.length : Int) != (l1.length : Int)) = true := bne_iff_ne.mpr c3
 have c3b2 : (l0.length == l1.length) = false := by first | simpa using c3 | (simp at c3 ⊢; omega)
 obtain rfl := Option.some.inj H
 go_enter Try.func137, Try.ntmps137
 go_wp2
 repeat (go_quiet (fail); try go_wp2)
 go_ret
 exact ⟨rr, dw⟩


/-! ### impl_Gaps: function 90 -/
def impl_Gaps.l0 : Nat → List Int → List Bool → Int → Int → Option (List Int)
 | 0, _, _, _, _ => none
 | k + 1, x3, x11, x12, x13 => if x13 < x12 then (if 0 ≤ x13 then (if x13 < (x11.length : Int) then (if rdOf false x11 x13 = true then (impl_Gaps.l0 k x3 x11 x12 (wrap64 (x13 + 1))) else (if x3.length < 17592186044416 then (impl_Gaps.l0 k (x3 ++ [x13]) x11 x12 (wrap64 (x13 + 1))) else (none))) else (none)) else (none)) else (some x3)
def impl_Gaps.f (k : Nat) (l0_0 : List Int) : Option (List Int) := (impl_IsSemigroup.f k l0_0).bind fun t652 => (if t652 = true then ((impl_table.f k l0_0 200).bind fun t656 => (impl_Gaps.l0 k (([] : List Int)) t656 (t656.length : Int) 0)) else (some ([] : List Int)))
set_option maxHeartbeats 8000000 in
set_option maxRecDepth 100000 in
theorem impl_Gaps.calls (k : Nat) (A0_0 : Option Addr) (c0_0 : Nat) (l0_0 : List Int) (r : List Int) (w : World) (hr0_0 : Kd.C (Kd.int .i64) w A0_0 l0_0.length l0_0) (hc0_0 : l0_0.length ≤ c0_0) (h : impl_Gaps.f k l0_0 = some r) :
  Calls Try.prog 90 #[.agg #[.slice A0_0 l0_0.length c0_0]] w fun e w' => ∃ v0_ : Value, e = .returned (v0_) ∧ Kd.R (Kd.int .i64) 3 w' w.heap.size (fun _ => True) v0_ r ∧ Below w.heap.size w w' := by
 have hu26 := Try.underlying26
 have HR0_0 := am hr0_0
 have HC0_0 := am hc0_0
 clear hr0_0 hc0_0
 have HB := am (Below.refl w.heap.size w)
 have H : ((impl_IsSemigroup.f k l0_0).bind fun t652 => (if t652 = true then ((impl_table.f k l0_0 200).bind fun t656 => (impl_Gaps.l0 k (([] : List Int)) t656 (t656.length : Int) 0)) else (some ([] : List Int)))) = some r := h
 clear h
 replace H := ga H; obtain ⟨t652, A2, H⟩ := H
 replace H := gb H; obtain ⟨rfl, H⟩ | ⟨rfl, H⟩ := H
 ·obtain ⟨y653, hy653⟩ : ∃ y_ : List Int, y_ = (([] : List Int)) := ⟨_, rfl⟩
  replace H : ((impl_table.f k l0_0 200).bind fun t656 => (impl_Gaps.l0 k y653 t656 (t656.length : Int) 0)) = some r := by first | (rw [hy653]; with_reducible first | exact H | exact bs H) | (with_reducible first | exact bs H | exact H) | (rw [hy653]; exact H) | exact H
  have Ny653 := am hy653
  clear hy653
  replace H := ga H; obtain ⟨t656, A4, H⟩ := H
  have H' := am H
  clear H
  go_enter Try.func90, Try.ntmps90
  go_wp2_with (first | ((with_reducible refine gate_dst (N := 1) rfl ?_); refine bx 1 #[.slice A0_0 l0_0.length c0_0] 26 ?_; intro gb651 hg w5 hbox hb; have BK651 := am (hbox); have GW651 := am (gs hg : w.heap.size ≤ gb651); have GE651 := GW651; replace HB := am (below_step bw hb); clear hb hbox hg; have hcz6_0 := bc BK651 0 (.slice A0_0 l0_0.length c0_0); have hfz6_0 := blk_frozen BK651.out 0) | ((with_reducible refine gate_callee (f := 151) rfl ?_); refine gl (some 7) Try.func151 #[.agg #[.slice A0_0 l0_0.length c0_0]] ?_; (with_reducible refine (impl_IsSemigroup.calls k _ _ l0_0 true _ ?side1 ?side2 A2.out).mono ?_); (case side1 => exact co (Kd.C_below HR0_0.out HB.out)); (case side2 => exact HC0_0.out); rintro e w7 ⟨rfl, hb⟩; refine ⟨_, rfl, ?_⟩; replace BK651 := kb BK651 hb; replace HB := am (below_step bw hb); clear hb) | ((with_reducible refine gate_dst (N := 9) rfl ?_); refine Kd.R_lit (Kd.int .i64) _ 3 ?hg (N := 9) ?hd (xs := ([] : List Int)) (inner := []) (ok := fun _ => True) (okp := fun _ => True) ?hr ?hp (fun _ hk => hk) trivial (Below.refl _ _) (Nat.le_refl _) (by simp) ?_; (case hd => rfl); (case hg => rfl); (case hr => first | (go_simp; done) | (go_simp; rfl)); (case hp => exact (Reps.none _ _)); intro v654 w8 ho9 hb hg_ hnew_; clear hg_ hnew_; (first | rw [← Ny653.out] at ho9 | (simp only [Int.reduceToNat] at ho9; rw [← Ny653.out] at ho9)); have HO655 := am (Kd.R_lower ho9 (below_size bw)); replace BK651 := kb BK651 hb; replace HB := am (below_step bw hb); clear hb ho9; have hcz10_0 := bc BK651 0 (.slice A0_0 l0_0.length c0_0); have hfz10_0 := blk_frozen BK651.out 0) | ((with_reducible refine gate_callee (f := 157) rfl ?_); refine gl (some 11) Try.func157 #[.agg #[.slice A0_0 l0_0.length c0_0], .int .i64 200] ?_; (with_reducible refine (impl_table.calls k _ _ l0_0 200 t656 _ ?side1 ?side2 A4.out).mono ?_); (case side1 => exact co (Kd.C_below HR0_0.out HB.out)); (case side2 => exact HC0_0.out); rintro e w11 ⟨v657, rfl, ho0, hb⟩; refine ⟨_, rfl, ?_⟩; replace HO655 := rK HO655 hb; have HO658 := am (Kd.R_lower ho0 (below_size bw)); replace BK651 := kb BK651 hb; replace HB := am (below_step bw hb); clear hb ho0; obtain ⟨Ao12, co12, eo12⟩ := Kd.R_slice HO658.out; subst eo12))
  go_loopg [3, 13] k (fun kq v3 v13 w' => ∃ (x3_1 : List Int) (x13_1 : Int), v13 = .int .i64 x13_1 ∧ Aside0 (impl_Gaps.l0 kq x3_1 t656 (t656.length : Int) x13_1 = some r) ∧ Aside0 (kq ≤ k) ∧ Aside0 (Kd.R (Kd.int .i64) 3 w' w.heap.size (fun _ => True) v3 x3_1) ∧ Aside0 (Kd.R Kd.bool 4 w' w.heap.size (fun _ => True) (.slice Ao12 t656.length co12) t656) ∧ Aside0 (w'.heap[gb651]? = some (.cells #[(.slice A0_0 l0_0.length c0_0)] 26 (0, 0))) ∧ Aside0 (Below w.heap.size w w'))
  case atStart => exact ⟨(y653), (0), rr, H', ⟨Nat.le_refl _⟩, ⟨ro HO655.out⟩, ⟨ro HO658.out⟩, ⟨bo BK651.out⟩, ⟨bw⟩⟩
  case round =>
   clear H'
   try clear hcz10_0; try clear hcz6_0; try clear hfz10_0; try clear hfz6_0
   obtain ⟨x3_1, x13_1, rfl, HA, HK1, HO_3, HO_11, BK651, HB⟩ := hrel
   cases gk with
   | zero => exact absurd HA.out (by simp [impl_Gaps.l0])
   | succ k1 =>
    have H := HA.out
    clear HA
    simp only [impl_Gaps.l0] at H
    replace H := gi H; obtain ⟨c13b0, H⟩ | ⟨c13b0, H⟩ := H
    ·replace H := gd H; obtain ⟨c14b0, H⟩ := H
     replace H := gd H; obtain ⟨c15b0, H⟩ := H
     obtain ⟨bq16, hbq16⟩ : ∃ b_ : Bool, b_ = (rdOf false t656 x13_1) := ⟨_, rfl⟩
     replace H : (if bq16 = true then (impl_Gaps.l0 k1 x3_1 t656 (t656.length : Int) (wrap64 (x13_1 + 1))) else (if x3_1.length < 17592186044416 then (impl_Gaps.l0 k1 (x3_1 ++ [x13_1]) t656 (t656.length : Int) (wrap64 (x13_1 + 1))) else (none))) = some r := by rw [← hbq16] at H; exact H
     have Nbq16 := am hbq16
     clear hbq16
     replace H := gb H; obtain ⟨rfl, H⟩ | ⟨rfl, H⟩ := H
     ·have H' := am H
      clear H
      obtain ⟨⟨ad659, e659, hx659_0⟩, p659, q659⟩ := pq (Kd.at_bool (Kd.R_reads' HO_11.out).2.2 x13_1)
      (try rw [← Nbq16.out] at hx659_0)
      cases e659
      go_wp2
      go_roundg k1
      case measure => have := HK1.out; omega
      case rel => exact ⟨(x3_1), (wrap64 (x13_1 + 1)), rr, H', ⟨by have := HK1.out; omega⟩, ⟨ro HO_3.out⟩, ⟨ro HO_11.out⟩, ⟨bo BK651.out⟩, ⟨bw⟩⟩
     by_cases c18 : x3_1.length < 17592186044416
     rotate_left
     ·rw [if_neg c18] at H
      exact absurd H (by simp)
     rw [if_pos c18] at H
     have LMc18 := am c18
     clear c18
     obtain ⟨y660, hy660⟩ : ∃ y_ : List Int, y_ = (x3_1 ++ [x13_1]) := ⟨_, rfl⟩
     replace H : (impl_Gaps.l0 k1 y660 t656 (t656.length : Int) (wrap64 (x13_1 + 1))) = some r := by first | (rw [hy660]; with_reducible first | exact H | exact bs H) | (with_reducible first | exact bs H | exact H) | (rw [hy660]; exact H) | exact H
     have Ny660 := am hy660
     clear hy660
     have H' := am H
     clear H
     obtain ⟨⟨ad659, e659, hx659_0⟩, p659, q659⟩ := pq (Kd.at_bool (Kd.R_reads' HO_11.out).2.2 x13_1)
     (try rw [← Nbq16.out] at hx659_0)
     cases e659
     go_wp2_with (first | ((with_reducible refine gate_builtin (b := .append) (xs := #[.tmp 20, .tmp 22]) rfl ?_); at_builtin; refine Kd.R_append (Kd.int .i64) (w0 := w) w.heap.size rfl (.tmp 20) (.tmp 22) 24 3 (.int .i64 0) 8 rfl Try.underlying24 info3 rfl (by decide) (by omega) u3 x3_1 x13_1 [.int .i64 x13_1] (fun _ => True) (fun _ => False) rfl rfl ?aP (fun _ hk => hk.elim) ?aF ?aO ?aB ?aS ?aL ?_; (case aP => exact rfl); (case aB => exact bw); (case aF => exact (fun _ _ => trivial)); (case aO => exact (ro HO_3.out)); (case aS => exact (below_size bw)); (case aL => have := LMc18.out; omega); intro v661 w19 ho hb hg hat; rw [← Ny660.out] at ho; replace HO_11 := am (Kd.R_over' (ro HO_11.out) (Kd.R_typed (ro HO_3.out)) (by decide) hg); replace BK651 := am (blk_grown (g := gb651) (o := .cells #[.slice A0_0 l0_0.length c0_0] 26 (0, 0)) (bo BK651.out) hg (Kd.R_ne HO_3.out BK651.out (by decide))); replace HB := am (hb); have HO662 := am (ho); clear HO_3 ho hb hg hat))
     go_roundg k1
     case measure => have := HK1.out; omega
     case rel => exact ⟨(y660), (wrap64 (x13_1 + 1)), rr, H', ⟨by have := HK1.out; omega⟩, ⟨ro HO662.out⟩, ⟨ro HO_11.out⟩, ⟨bo BK651.out⟩, ⟨bw⟩⟩
    obtain rfl := Option.some.inj H
    go_wp2
    go_ret
    exact ⟨_, re, ro HO_3.out, bw⟩
 obtain rfl := Option.some.inj H
 go_enter Try.func90, Try.ntmps90
 go_wp2_with (first | ((with_reducible refine gate_dst (N := 1) rfl ?_); refine bx 1 #[.slice A0_0 l0_0.length c0_0] 26 ?_; intro gb651 hg w20 hbox hb; have BK651 := am (hbox); have GW651 := am (gs hg : w.heap.size ≤ gb651); have GE651 := GW651; replace HB := am (below_step bw hb); clear hb hbox hg; have hcz21_0 := bc BK651 0 (.slice A0_0 l0_0.length c0_0); have hfz21_0 := blk_frozen BK651.out 0) | ((with_reducible refine gate_callee (f := 151) rfl ?_); refine gl (some 7) Try.func151 #[.agg #[.slice A0_0 l0_0.length c0_0]] ?_; (with_reducible refine (impl_IsSemigroup.calls k _ _ l0_0 false _ ?side1 ?side2 A2.out).mono ?_); (case side1 => exact co (Kd.C_below HR0_0.out HB.out)); (case side2 => exact HC0_0.out); rintro e w22 ⟨rfl, hb⟩; refine ⟨_, rfl, ?_⟩; replace BK651 := kb BK651 hb; replace HB := am (below_step bw hb); clear hb))
 go_ret
 exact ⟨_, re, by first | exact Kd.R_nil _ _ _ _ _ | exact Kd.N_nil _ _ _ _ _ | exact Kd.V_nil _ _ _ _ _ | exact Kd.Q_nil _ _ _ _ _ | exact Kd.S_nil _ _ _ _ _, bw⟩


/-! ### impl_gapList: function 221 -/
def impl_gapList.f (k : Nat) (l0 : List Int) : Option (Bool) := (impl_IsAscending.f k l0).bind fun t663 => (if t663 = true then ((impl_allWithin.f k l0 1 199).bind fun t664 => (some t664)) else (some false))
set_option maxHeartbeats 8000000 in
set_option maxRecDepth 100000 in
theorem impl_gapList.calls (k : Nat) (A0 : Option Addr) (c0 : Nat) (l0 : List Int) (r : Bool) (w : World) (hr0 : Kd.C (Kd.int .i64) w A0 l0.length l0) (hc0 : l0.length ≤ c0) (h : impl_gapList.f k l0 = some r) :
  Calls Try.prog 221 #[.slice A0 l0.length c0] w fun e w' => e = .returned (.bool r) ∧ Drawn0 w w' := by
 have HR0 := am hr0
 have HC0 := am hc0
 clear hr0 hc0
 have H : ((impl_IsAscending.f k l0).bind fun t663 => (if t663 = true then ((impl_allWithin.f k l0 1 199).bind fun t664 => (some t664)) else (some false))) = some r := h
 clear h
 replace H := ga H; obtain ⟨t663, A2, H⟩ := H
 replace H := gb H; obtain ⟨rfl, H⟩ | ⟨rfl, H⟩ := H
 ·replace H := ga H; obtain ⟨t664, A4, H⟩ := H
  obtain rfl := Option.some.inj H
  go_enter Try.func221, Try.ntmps221
  go_wp2_with (first | ((with_reducible refine gate_callee (f := 216) rfl ?_); refine gl (some 4) Try.func216 #[.slice A0 l0.length c0] ?_; (with_reducible refine (impl_IsAscending.calls k _ _ l0 true _ ?side1 ?side2 A2.out).mono ?_); (case side1 => exact co HR0.out); (case side2 => exact HC0.out); rintro e w' ⟨rfl, ⟨nd, rfl⟩⟩; refine ⟨_, rfl, ?_⟩) | (go_at_call 135; (with_reducible refine (impl_allWithin.calls k _ _ l0 1 199 t664 _ ?side1 ?side2 A4.out).mono ?_); (case side1 => exact co HR0.out); (case side2 => exact HC0.out); rintro e w' ⟨rfl, ⟨nd, rfl⟩⟩))
  go_ret
  exact ⟨rr, dw⟩
 obtain rfl := Option.some.inj H
 go_enter Try.func221, Try.ntmps221
 go_wp2_with (first | ((with_reducible refine gate_callee (f := 216) rfl ?_); refine gl (some 4) Try.func216 #[.slice A0 l0.length c0] ?_; (with_reducible refine (impl_IsAscending.calls k _ _ l0 false _ ?side1 ?side2 A2.out).mono ?_); (case side1 => exact co HR0.out); (case side2 => exact HC0.out); rintro e w' ⟨rfl, ⟨nd, rfl⟩⟩; refine ⟨_, rfl, ?_⟩))
 go_ret
 exact ⟨rr, dw⟩

end Go.Proofs.Ytkfplkdchkmgbaa.C
