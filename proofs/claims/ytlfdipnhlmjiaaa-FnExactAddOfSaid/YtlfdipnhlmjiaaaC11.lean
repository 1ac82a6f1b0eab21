/- Contracts of functions of the program: spec_Gaps, spec_PseudoFrobenius, spec_SpecialGaps, spec_AddGap, impl_table, impl_Gaps. -/
import Derived.Test.YtlfdipnhlmjiaaaC0
import Derived.Test.YtlfdipnhlmjiaaaC3
import Derived.Test.YtlfdipnhlmjiaaaC5
import Derived.Test.YtlfdipnhlmjiaaaC10
namespace Go.Proofs.Ytlfdipnhlmjiaaa.C
open Go.RowKit Go.Proofs.YtlfdipnhlmjiaaaW.PrintWords Go.Proofs.YtlfdipnhlmjiaaaW.PrintLast Go.Proofs.YtlfdipnhlmjiaaaW.PrintMore
attribute [local go_sem] max2_int min2_int max_two min_two max_three min_three max_four min_four
set_option linter.unusedVariables false
set_option linter.unusedSimpArgs false

/-! ### spec_Gaps: function 117 -/
def spec_Gaps.f (k : Nat) (l0_0 : List Int) : Option (List Int) := (spec_IsSemigroup.f k l0_0).bind fun t587 => (if t587 = true then ((spec_l4Gaps.f k l0_0).bind fun t588 => (some t588)) else (some (([] : List Int))))
set_option maxHeartbeats 8000000 in
set_option maxRecDepth 100000 in
theorem spec_Gaps.calls (k : Nat) (A0_0 : Option Addr) (c0_0 : Nat) (l0_0 : List Int) (r : List Int) (w : World) (hr0_0 : Kd.C (Kd.int .i64) w A0_0 l0_0.length l0_0) (hc0_0 : l0_0.length ≤ c0_0) (h : spec_Gaps.f k l0_0 = some r) :
  Calls Try.prog 117 #[.agg #[.slice A0_0 l0_0.length c0_0]] w fun e w' => ∃ v0_ : Value, e = .returned (v0_) ∧ Kd.R (Kd.int .i64) 3 w' w.heap.size (fun _ => True) v0_ r ∧ Below w.heap.size w w' := by
 have hu27 := Try.underlying27
 have HR0_0 := Aside0.mk hr0_0
 have HC0_0 := Aside0.mk hc0_0
 clear hr0_0 hc0_0
 have HB := Aside0.mk (Below.refl w.heap.size w)
 have H : ((spec_IsSemigroup.f k l0_0).bind fun t587 => (if t587 = true then ((spec_l4Gaps.f k l0_0).bind fun t588 => (some t588)) else (some (([] : List Int))))) = some r := h
 clear h
 replace H := ga H; obtain ⟨t587, A2, H⟩ := H
 replace H := gb H; obtain ⟨rfl, H⟩ | ⟨rfl, H⟩ := H
 ·replace H := ga H; obtain ⟨t588, A4, H⟩ := H
  obtain rfl := Option.some.inj H
  go_enter Try.func117, Try.ntmps117
  go_wp2_with (first | ((with_reducible refine gate_dst (N := 1) rfl ?_); refine bx 1 #[.slice A0_0 l0_0.length c0_0] 27 ?_; intro gb586 hg w5 hbox hb; have BK586 := Aside0.mk (hbox); have GW586 := Aside0.mk (gs hg : w.heap.size ≤ gb586); have GE586 := Aside0.mk (gs hg : w.heap.size ≤ gb586); replace HB := Aside0.mk (below_step bw hb); clear hb hbox hg; have hcz6_0 := bc BK586 0 (.slice A0_0 l0_0.length c0_0); have hfz6_0 := blk_frozen BK586.out 0) | ((with_reducible refine gate_callee (f := 58) rfl ?_); refine gl (some 4) Try.func58 #[.agg #[.slice A0_0 l0_0.length c0_0]] ?_; (with_reducible refine (spec_IsSemigroup.calls k _ _ l0_0 true _ ?side1 ?side2 A2.out).mono ?_); (case side1 => exact co (Kd.C_below HR0_0.out HB.out)); (case side2 => exact HC0_0.out); rintro e w7 ⟨rfl, hb⟩; refine ⟨_, rfl, ?_⟩; replace BK586 := Aside0.mk (blk_below (g := gb586) (o := .cells #[.slice A0_0 l0_0.length c0_0] 27 (0, 0)) (bo BK586.out) hb); replace HB := Aside0.mk (below_step bw hb); clear hb; have hcz8_0 := bc BK586 0 (.slice A0_0 l0_0.length c0_0); have hfz8_0 := blk_frozen BK586.out 0) | ((with_reducible refine gate_callee (f := 78) rfl ?_); refine gl (some 8) Try.func78 #[.agg #[.slice A0_0 l0_0.length c0_0]] ?_; (with_reducible refine (spec_l4Gaps.calls k _ _ l0_0 t588 _ ?side1 ?side2 A4.out).mono ?_); (case side1 => exact co (Kd.C_below HR0_0.out HB.out)); (case side2 => exact HC0_0.out); rintro e w9 ⟨v589, rfl, ho0, hb⟩; refine ⟨_, rfl, ?_⟩; have HO590 := Aside0.mk (Kd.R_lower ho0 (below_size bw)); replace BK586 := Aside0.mk (blk_below (g := gb586) (o := .cells #[.slice A0_0 l0_0.length c0_0] 27 (0, 0)) (bo BK586.out) hb); replace HB := Aside0.mk (below_step bw hb); clear hb ho0))
  go_ret
  exact ⟨_, re, ro HO590.out, bw⟩
 ·obtain ⟨y591, hy591⟩ : ∃ y_ : List Int, y_ = (([] : List Int)) := ⟨_, rfl⟩
  replace H : (some y591) = some r := by first | (rw [hy591]; with_reducible exact H) | (have H2_ := (Option.bind_some _ _).symm.trans H; rw [hy591]; with_reducible exact H2_) | (have H2_ := (Option.bind_some _ _).symm.trans H; with_reducible exact H2_) | with_reducible exact H | (rw [hy591]; exact H) | exact H
  have Ny591 := Aside0.mk hy591
  clear hy591
  obtain rfl := Option.some.inj H
  go_enter Try.func117, Try.ntmps117
  go_wp2_with (first | ((with_reducible refine gate_dst (N := 1) rfl ?_); refine bx 1 #[.slice A0_0 l0_0.length c0_0] 27 ?_; intro gb586 hg w10 hbox hb; have BK586 := Aside0.mk (hbox); have GW586 := Aside0.mk (gs hg : w.heap.size ≤ gb586); have GE586 := Aside0.mk (gs hg : w.heap.size ≤ gb586); replace HB := Aside0.mk (below_step bw hb); clear hb hbox hg; have hcz11_0 := bc BK586 0 (.slice A0_0 l0_0.length c0_0); have hfz11_0 := blk_frozen BK586.out 0) | ((with_reducible refine gate_callee (f := 58) rfl ?_); refine gl (some 4) Try.func58 #[.agg #[.slice A0_0 l0_0.length c0_0]] ?_; (with_reducible refine (spec_IsSemigroup.calls k _ _ l0_0 false _ ?side1 ?side2 A2.out).mono ?_); (case side1 => exact co (Kd.C_below HR0_0.out HB.out)); (case side2 => exact HC0_0.out); rintro e w12 ⟨rfl, hb⟩; refine ⟨_, rfl, ?_⟩; replace BK586 := Aside0.mk (blk_below (g := gb586) (o := .cells #[.slice A0_0 l0_0.length c0_0] 27 (0, 0)) (bo BK586.out) hb); replace HB := Aside0.mk (below_step bw hb); clear hb) | ((with_reducible refine gate_dst (N := 6) rfl ?_); refine Kd.R_lit (Kd.int .i64) _ 3 ?hg (N := 6) ?hd (xs := ([] : List Int)) (inner := []) (ok := fun _ => True) (okp := fun _ => True) ?hr ?hp (fun _ hk => hk) trivial (Below.refl _ _) (Nat.le_refl _) (by simp) ?_; (case hd => rfl); (case hg => rfl); (case hr => first | (go_simp; done) | (go_simp; rfl)); (case hp => exact (Reps.none _ _)); intro v592 w13 ho14 hb hg_ hnew_; clear hg_ hnew_; (first | rw [← Ny591.out] at ho14 | (simp only [Int.reduceToNat] at ho14; rw [← Ny591.out] at ho14)); have HO593 := Aside0.mk (Kd.R_lower ho14 (below_size bw)); replace BK586 := Aside0.mk (blk_below (g := gb586) (o := .cells #[.slice A0_0 l0_0.length c0_0] 27 (0, 0)) (bo BK586.out) hb); replace HB := Aside0.mk (below_step bw hb); clear hb ho14))
  go_ret
  exact ⟨_, re, ro HO593.out, bw⟩


/-! ### spec_PseudoFrobenius: function 134 -/
mutual
def spec_PseudoFrobenius.l0 : Nat → List Int → List Int → Int → List Int → Option (List Int)
 | 0, _, _, _, _ => none
 | k + 1, x3, x4, x5, x595000 => if x5 < (x4.length : Int) then (spec_PseudoFrobenius.l1 k x3 x4 x5 true 0 x595000) else (some x3)
def spec_PseudoFrobenius.l1 : Nat → List Int → List Int → Int → Bool → Int → List Int → Option (List Int)
 | 0, _, _, _, _, _, _ => none
 | k + 1, x3, x4, x5, x6, x7, x595000 => if x7 < (x595000.length : Int) then (if x6 = true then (if 0 ≤ x5 then (if x5 < (x4.length : Int) then (if 0 ≤ x7 then ((spec_HasNumber.f k x4 (wrap64 ((rd x4 x5) + (rd x595000 x7)))).bind fun t603 => (spec_PseudoFrobenius.l1 k x3 x4 x5 (!t603) (wrap64 (x7 + 1)) x595000)) else (none)) else (none)) else (none)) else (spec_PseudoFrobenius.l1 k x3 x4 x5 false (wrap64 (x7 + 1)) x595000)) else (if x6 = true then (if 0 ≤ x5 then (if x5 < (x4.length : Int) then (if x3.length < 17592186044416 then (spec_PseudoFrobenius.l0 k (x3 ++ [rd x4 x5]) x4 (wrap64 (x5 + 1)) x595000) else (none)) else (none)) else (none)) else (spec_PseudoFrobenius.l0 k x3 x4 (wrap64 (x5 + 1)) x595000))
end
def spec_PseudoFrobenius.f (k : Nat) (l0_0 : List Int) : Option (List Int) := (spec_Gaps.f k l0_0).bind fun t598 => (spec_PseudoFrobenius.l0 k (([] : List Int)) t598 0 l0_0)
set_option maxHeartbeats 8000000 in
set_option maxRecDepth 100000 in
theorem spec_PseudoFrobenius.calls (k : Nat) (A0_0 : Option Addr) (c0_0 : Nat) (l0_0 : List Int) (r : List Int) (w : World) (hr0_0 : Kd.C (Kd.int .i64) w A0_0 l0_0.length l0_0) (hc0_0 : l0_0.length ≤ c0_0) (h : spec_PseudoFrobenius.f k l0_0 = some r) :
  Calls Try.prog 134 #[.agg #[.slice A0_0 l0_0.length c0_0]] w fun e w' => ∃ v0_ : Value, e = .returned (v0_) ∧ Kd.R (Kd.int .i64) 3 w' w.heap.size (fun _ => True) v0_ r ∧ Below w.heap.size w w' := by
 have hu27 := Try.underlying27
 have HR0_0 := Aside0.mk hr0_0
 have HC0_0 := Aside0.mk hc0_0
 clear hr0_0 hc0_0
 have HB := Aside0.mk (Below.refl w.heap.size w)
 have H : ((spec_Gaps.f k l0_0).bind fun t598 => (spec_PseudoFrobenius.l0 k (([] : List Int)) t598 0 l0_0)) = some r := h
 clear h
 obtain ⟨y595, hy595⟩ : ∃ y_ : List Int, y_ = (([] : List Int)) := ⟨_, rfl⟩
 replace H : ((spec_Gaps.f k l0_0).bind fun t598 => (spec_PseudoFrobenius.l0 k y595 t598 0 l0_0)) = some r := by first | (rw [hy595]; with_reducible exact H) | (have H2_ := (Option.bind_some _ _).symm.trans H; rw [hy595]; with_reducible exact H2_) | (have H2_ := (Option.bind_some _ _).symm.trans H; with_reducible exact H2_) | with_reducible exact H | (rw [hy595]; exact H) | exact H
 have Ny595 := Aside0.mk hy595
 clear hy595
 replace H := ga H; obtain ⟨t598, A2, H⟩ := H
 have H' := Aside0.mk H
 clear H
 go_enter Try.func134, Try.ntmps134
 go_wp2_with (first | ((with_reducible refine gate_dst (N := 1) rfl ?_); refine bx 1 #[.slice A0_0 l0_0.length c0_0] 27 ?_; intro gb594 hg w3 hbox hb; have BK594 := Aside0.mk (hbox); have GW594 := Aside0.mk (gs hg : w.heap.size ≤ gb594); have GE594 := Aside0.mk (gs hg : w.heap.size ≤ gb594); replace HB := Aside0.mk (below_step bw hb); clear hb hbox hg) | ((with_reducible refine gate_dst (N := 8) rfl ?_); refine Kd.R_lit (Kd.int .i64) _ 3 ?hg (N := 8) ?hd (xs := ([] : List Int)) (inner := []) (ok := fun _ => True) (okp := fun _ => True) ?hr ?hp (fun _ hk => hk) trivial (Below.refl _ _) (Nat.le_refl _) (by simp) ?_; (case hd => rfl); (case hg => rfl); (case hr => first | (go_simp; done) | (go_simp; rfl)); (case hp => exact (Reps.none _ _)); intro v596 w4 ho5 hb hg_ hnew_; clear hg_ hnew_; (first | rw [← Ny595.out] at ho5 | (simp only [Int.reduceToNat] at ho5; rw [← Ny595.out] at ho5)); have HO597 := Aside0.mk (Kd.R_lower ho5 (below_size bw)); replace BK594 := Aside0.mk (blk_below (g := gb594) (o := .cells #[.slice A0_0 l0_0.length c0_0] 27 (0, 0)) (bo BK594.out) hb); replace HB := Aside0.mk (below_step bw hb); clear hb ho5; have hcz6_0 := bc BK594 0 (.slice A0_0 l0_0.length c0_0); have hfz6_0 := blk_frozen BK594.out 0) | (go_at_call 117; (with_reducible refine (spec_Gaps.calls k _ _ l0_0 t598 _ ?side1 ?side2 A2.out).mono ?_); (case side1 => exact co (Kd.C_below HR0_0.out HB.out)); (case side2 => exact HC0_0.out); rintro e w7 ⟨v599, rfl, ho0, hb⟩; have HO600 := Aside0.mk (Kd.R_lower (Kd.R_new' ho0 (Kd.R_lt (ro HO597.out))) (below_size bw)); replace HO597 := Aside0.mk (Kd.R_elder' (ro HO597.out) (Kd.R_base ho0) hb); replace BK594 := Aside0.mk (blk_below (g := gb594) (o := .cells #[.slice A0_0 l0_0.length c0_0] 27 (0, 0)) (bo BK594.out) hb); replace HB := Aside0.mk (below_step bw hb); clear hb ho0))
 repeat (go_quiet (first | ((with_reducible refine gate_dst (N := 1) rfl ?_); refine bx 1 #[.slice A0_0 l0_0.length c0_0] 27 ?_; intro gb594 hg w3 hbox hb; have n0_ := Aside0.mk (below_step bw hb); have n1_ := Aside0.mk (hbox); have n2_ := Aside0.mk (gs hg : w.heap.size ≤ gb594); have n3_ := Aside0.mk (gs hg : w.heap.size ≤ gb594); clear HB; have HB := n0_; have BK594 := n1_; have GW594 := n2_; have GE594 := n3_; clear n0_ n1_ n2_ n3_; clear hb hbox hg) | ((with_reducible refine gate_dst (N := 8) rfl ?_); refine Kd.R_lit (Kd.int .i64) _ 3 ?hg (N := 8) ?hd (xs := ([] : List Int)) (inner := []) (ok := fun _ => True) (okp := fun _ => True) ?hr ?hp (fun _ hk => hk) trivial (Below.refl _ _) (Nat.le_refl _) (by simp) ?_; (case hd => rfl); (case hg => rfl); (case hr => first | (go_simp; done) | (go_simp; rfl)); (case hp => exact (Reps.none _ _)); intro v596 w4 ho5 hb hg_ hnew_; clear hg_ hnew_; (first | rw [← Ny595.out] at ho5 | (simp only [Int.reduceToNat] at ho5; rw [← Ny595.out] at ho5)); have n0_ := Aside0.mk (Kd.R_lower ho5 (below_size bw)); have n1_ := Aside0.mk (blk_below (g := gb594) (o := .cells #[.slice A0_0 l0_0.length c0_0] 27 (0, 0)) (bo BK594.out) hb); have n2_ := Aside0.mk (below_step bw hb); clear BK594; clear HB; have HO597 := n0_; have BK594 := n1_; have HB := n2_; clear n0_ n1_ n2_; clear hb ho5; have hcz6_0 := bc BK594 0 (.slice A0_0 l0_0.length c0_0); have hfz6_0 := blk_frozen BK594.out 0) | (go_at_call 117; (with_reducible refine (spec_Gaps.calls k _ _ l0_0 t598 _ ?side1 ?side2 A2.out).mono ?_); (case side1 => exact co (Kd.C_below HR0_0.out HB.out)); (case side2 => exact HC0_0.out); rintro e w7 ⟨v599, rfl, ho0, hb⟩; have n0_ := Aside0.mk (Kd.R_elder' (ro HO597.out) (Kd.R_base ho0) hb); have n1_ := Aside0.mk (Kd.R_lower (Kd.R_new' ho0 (Kd.R_lt (ro HO597.out))) (below_size bw)); have n2_ := Aside0.mk (blk_below (g := gb594) (o := .cells #[.slice A0_0 l0_0.length c0_0] 27 (0, 0)) (bo BK594.out) hb); have n3_ := Aside0.mk (below_step bw hb); clear HO597; clear BK594; clear HB; have HO597 := n0_; have HO600 := n1_; have BK594 := n2_; have HB := n3_; clear n0_ n1_ n2_ n3_; (try clear hb); (try clear hb2); (try clear hk); (try clear hi); (try clear ho0))); try go_wp2_with (first | ((with_reducible refine gate_dst (N := 1) rfl ?_); refine bx 1 #[.slice A0_0 l0_0.length c0_0] 27 ?_; intro gb594 hg w3 hbox hb; have n0_ := Aside0.mk (below_step bw hb); have n1_ := Aside0.mk (hbox); have n2_ := Aside0.mk (gs hg : w.heap.size ≤ gb594); have n3_ := Aside0.mk (gs hg : w.heap.size ≤ gb594); clear HB; have HB := n0_; have BK594 := n1_; have GW594 := n2_; have GE594 := n3_; clear n0_ n1_ n2_ n3_; clear hb hbox hg) | ((with_reducible refine gate_dst (N := 8) rfl ?_); refine Kd.R_lit (Kd.int .i64) _ 3 ?hg (N := 8) ?hd (xs := ([] : List Int)) (inner := []) (ok := fun _ => True) (okp := fun _ => True) ?hr ?hp (fun _ hk => hk) trivial (Below.refl _ _) (Nat.le_refl _) (by simp) ?_; (case hd => rfl); (case hg => rfl); (case hr => first | (go_simp; done) | (go_simp; rfl)); (case hp => exact (Reps.none _ _)); intro v596 w4 ho5 hb hg_ hnew_; clear hg_ hnew_; (first | rw [← Ny595.out] at ho5 | (simp only [Int.reduceToNat] at ho5; rw [← Ny595.out] at ho5)); have n0_ := Aside0.mk (Kd.R_lower ho5 (below_size bw)); have n1_ := Aside0.mk (blk_below (g := gb594) (o := .cells #[.slice A0_0 l0_0.length c0_0] 27 (0, 0)) (bo BK594.out) hb); have n2_ := Aside0.mk (below_step bw hb); clear BK594; clear HB; have HO597 := n0_; have BK594 := n1_; have HB := n2_; clear n0_ n1_ n2_; clear hb ho5; have hcz6_0 := bc BK594 0 (.slice A0_0 l0_0.length c0_0); have hfz6_0 := blk_frozen BK594.out 0) | (go_at_call 117; (with_reducible refine (spec_Gaps.calls k _ _ l0_0 t598 _ ?side1 ?side2 A2.out).mono ?_); (case side1 => exact co (Kd.C_below HR0_0.out HB.out)); (case side2 => exact HC0_0.out); rintro e w7 ⟨v599, rfl, ho0, hb⟩; have n0_ := Aside0.mk (Kd.R_elder' (ro HO597.out) (Kd.R_base ho0) hb); have n1_ := Aside0.mk (Kd.R_lower (Kd.R_new' ho0 (Kd.R_lt (ro HO597.out))) (below_size bw)); have n2_ := Aside0.mk (blk_below (g := gb594) (o := .cells #[.slice A0_0 l0_0.length c0_0] 27 (0, 0)) (bo BK594.out) hb); have n3_ := Aside0.mk (below_step bw hb); clear HO597; clear BK594; clear HB; have HO597 := n0_; have HO600 := n1_; have BK594 := n2_; have HB := n3_; clear n0_ n1_ n2_ n3_; (try clear hb); (try clear hb2); (try clear hk); (try clear hi); (try clear ho0))))
 go_loopg [3, 5] k (fun kq v3 v5 w' => ∃ (x3_1 : List Int) (x5_1 : Int), v5 = .int .i64 x5_1 ∧ Aside0 (spec_PseudoFrobenius.l0 kq x3_1 t598 x5_1 l0_0 = some r) ∧ Aside0 (kq ≤ k) ∧ Aside0 (Kd.R (Kd.int .i64) 3 w' w.heap.size (fun k_ => some k_ ≠ (v599 : Value).ownBlock) v3 x3_1) ∧ Aside0 (Kd.R (Kd.int .i64) 3 w' w.heap.size (fun k_ => some k_ ≠ (v3 : Value).ownBlock) v599 t598) ∧ Aside0 (w'.heap[gb594]? = some (.cells #[(.slice A0_0 l0_0.length c0_0)] 27 (0, 0))) ∧ Aside0 (Below w.heap.size w w'))
 case atStart => exact ⟨(y595), (0), rr, H', ⟨Nat.le_refl _⟩, ⟨by (with_reducible repeat (first | apply Kd.R_alloc | apply Kd.R_drewN | apply Kd.R_drew)); exact Kd.R_mono HO597.out (fun _ hk => hk.2)⟩, ⟨by (with_reducible repeat (first | apply Kd.R_alloc | apply Kd.R_drewN | apply Kd.R_drew)); exact Kd.R_mono HO600.out (fun _ hk => hk.2)⟩, ⟨bo BK594.out⟩, ⟨bw⟩⟩
 case round =>
  clear H'
  try clear hcz6_0; try clear hfz6_0
  obtain ⟨x3_1, x5_1, rfl, HA, HK1, HO_3, HO_4, BK594, HB⟩ := hrel
  cases gk with
  | zero => exact absurd HA.out (by simp [spec_PseudoFrobenius.l0])
  | succ k1 =>
   have H := HA.out
   clear HA
   simp only [spec_PseudoFrobenius.l0] at H
   replace H := gi H; obtain ⟨c8b0, H⟩ | ⟨c8b0, H⟩ := H
   ·have H' := Aside0.mk H
    clear H
    obtain ⟨Ao9, co9, eo9⟩ := Kd.R_slice HO_4.out
    subst eo9
    go_wp2
    repeat (go_quiet (fail); try go_wp2)
    go_loopg [6, 7] k1 (fun kq v6 v7 w' => ∃ (x6_2 : Bool) (x7_2 : Int), v6 = .bool x6_2 ∧ v7 = .int .i64 x7_2 ∧ Aside0 (spec_PseudoFrobenius.l1 kq x3_1 t598 x5_1 x6_2 x7_2 l0_0 = some r) ∧ Aside0 (kq ≤ k1) ∧ Aside0 (Kd.R (Kd.int .i64) 3 w' w.heap.size (fun k_ => some k_ ≠ ((.slice Ao9 t598.length co9) : Value).ownBlock) u3 x3_1) ∧ Aside0 (Kd.R (Kd.int .i64) 3 w' w.heap.size (fun k_ => some k_ ≠ (u3 : Value).ownBlock) (.slice Ao9 t598.length co9) t598) ∧ Aside0 (w'.heap[gb594]? = some (.cells #[(.slice A0_0 l0_0.length c0_0)] 27 (0, 0))) ∧ Aside0 (Below w.heap.size w w'))
    case atStart => exact ⟨(true), (0), rr, rr, H', ⟨Nat.le_refl _⟩, ⟨ro HO_3.out⟩, ⟨ro HO_4.out⟩, ⟨bo BK594.out⟩, ⟨bw⟩⟩
    case round =>
     clear H'
     try clear c8b0; try clear hcz6_0; try clear hfz6_0
     obtain ⟨x6_2, x7_2, rfl, rfl, HA, HK2, HO_3, HO_4, BK594, HB⟩ := hrel
     cases gk with
     | zero => exact absurd HA.out (by simp [spec_PseudoFrobenius.l1])
     | succ k2 =>
      have H := HA.out
      clear HA
      simp only [spec_PseudoFrobenius.l1] at H
      replace H := gi H; obtain ⟨c10b0, H⟩ | ⟨c10b0, H⟩ := H
      ·replace H := gb H; obtain ⟨rfl, H⟩ | ⟨rfl, H⟩ := H
       ·replace H := gd H; obtain ⟨c12b0, H⟩ := H
        replace H := gd H; obtain ⟨c13b0, H⟩ := H
        replace H := gd H; obtain ⟨c14b0, H⟩ := H
        replace H := ga H; obtain ⟨t603, A15, H⟩ := H
        have H' := Aside0.mk H
        clear H
        have hcz16_0 := bc BK594 0 (.slice A0_0 l0_0.length c0_0)
        have hfz16_0 := blk_frozen BK594.out 0
        obtain ⟨⟨ad601, e601, hx601_0⟩, p601, q601⟩ := pq (Kd.at_int (Kd.R_reads' HO_4.out).2.2 x5_1)
        cases e601
        obtain ⟨⟨ad602, e602, hx602_0⟩, p602, q602⟩ := pq (Kd.at_int HR0_0.out x7_2)
        cases e602
        replace hx602_0 := (HB.out.cell (World.block_lt_of_cell? w _ hx602_0)).trans hx602_0
        go_wp2_with (first | (go_at_call 98; (with_reducible refine (spec_HasNumber.calls k2 _ _ t598 (wrap64 ((rd t598 x5_1) + (rd l0_0 x7_2))) t603 _ ?side1 ?side2 A15.out).mono ?_); (case side1 => exact co (Kd.R_reads' HO_4.out).2.2); (case side2 => exact (Kd.R_reads' HO_4.out).2.1); rintro e w' ⟨rfl, ⟨nd, rfl⟩⟩; (try first | exact ⟨rfl, _, World.drewN_drewN _ _ _⟩ | exact ⟨rfl, _, Eq.trans (World.drewN_drewN _ _ _) (congrArg (World.drewN _) (Nat.add_assoc _ _ _))⟩)))
        repeat (go_quiet (first | (go_at_call 98; (with_reducible refine (spec_HasNumber.calls k2 _ _ t598 (wrap64 ((rd t598 x5_1) + (rd l0_0 x7_2))) t603 _ ?side1 ?side2 A15.out).mono ?_); (case side1 => exact co (Kd.R_reads' HO_4.out).2.2); (case side2 => exact (Kd.R_reads' HO_4.out).2.1); rintro e w' ⟨rfl, ⟨nd, rfl⟩⟩; (try first | exact ⟨rfl, _, World.drewN_drewN _ _ _⟩ | exact ⟨rfl, _, Eq.trans (World.drewN_drewN _ _ _) (congrArg (World.drewN _) (Nat.add_assoc _ _ _))⟩))); try go_wp2_with (first | (go_at_call 98; (with_reducible refine (spec_HasNumber.calls k2 _ _ t598 (wrap64 ((rd t598 x5_1) + (rd l0_0 x7_2))) t603 _ ?side1 ?side2 A15.out).mono ?_); (case side1 => exact co (Kd.R_reads' HO_4.out).2.2); (case side2 => exact (Kd.R_reads' HO_4.out).2.1); rintro e w' ⟨rfl, ⟨nd, rfl⟩⟩; (try first | exact ⟨rfl, _, World.drewN_drewN _ _ _⟩ | exact ⟨rfl, _, Eq.trans (World.drewN_drewN _ _ _) (congrArg (World.drewN _) (Nat.add_assoc _ _ _))⟩))))
        go_roundg k2
        case measure => have := HK1.out; have := HK2.out; omega
        case rel => exact ⟨(!t603), (wrap64 (x7_2 + 1)), rr, rr, H', ⟨by have := HK1.out; have := HK2.out; omega⟩, ⟨ro HO_3.out⟩, ⟨ro HO_4.out⟩, ⟨bo BK594.out⟩, ⟨bw⟩⟩
       ·have H' := Aside0.mk H
        clear H
        have hcz17_0 := bc BK594 0 (.slice A0_0 l0_0.length c0_0)
        have hfz17_0 := blk_frozen BK594.out 0
        go_wp2
        repeat (go_quiet (fail); try go_wp2)
        go_roundg k2
        case measure => have := HK1.out; have := HK2.out; omega
        case rel => exact ⟨(false), (wrap64 (x7_2 + 1)), rr, rr, H', ⟨by have := HK1.out; have := HK2.out; omega⟩, ⟨ro HO_3.out⟩, ⟨ro HO_4.out⟩, ⟨bo BK594.out⟩, ⟨bw⟩⟩
      ·replace H := gb H; obtain ⟨rfl, H⟩ | ⟨rfl, H⟩ := H
       ·replace H := gd H; obtain ⟨c19b0, H⟩ := H
        replace H := gd H; obtain ⟨c20b0, H⟩ := H
        by_cases c21 : x3_1.length < 17592186044416
        rotate_left
        ·rw [if_neg c21] at H
         exact absurd H (by simp)
        rw [if_pos c21] at H
        have LMc21 := Aside0.mk c21
        clear c21
        obtain ⟨y605, hy605⟩ : ∃ y_ : List Int, y_ = (x3_1 ++ [rd t598 x5_1]) := ⟨_, rfl⟩
        replace H : (spec_PseudoFrobenius.l0 k2 y605 t598 (wrap64 (x5_1 + 1)) l0_0) = some r := by first | (rw [hy605]; with_reducible exact H) | (have H2_ := (Option.bind_some _ _).symm.trans H; rw [hy605]; with_reducible exact H2_) | (have H2_ := (Option.bind_some _ _).symm.trans H; with_reducible exact H2_) | with_reducible exact H | (rw [hy605]; exact H) | exact H
        have Ny605 := Aside0.mk hy605
        clear hy605
        have H' := Aside0.mk H
        clear H
        have hcz22_0 := bc BK594 0 (.slice A0_0 l0_0.length c0_0)
        have hfz22_0 := blk_frozen BK594.out 0
        obtain ⟨⟨ad604, e604, hx604_0⟩, p604, q604⟩ := pq (Kd.at_int (Kd.R_reads' HO_4.out).2.2 x5_1)
        cases e604
        go_wp2_with (first | ((with_reducible refine gate_builtin (b := .append) (xs := #[.tmp 41, .tmp 46]) rfl ?_); at_builtin; refine Kd.R_append (Kd.int .i64) (w0 := w) w.heap.size rfl (.tmp 41) (.tmp 46) 22 3 (.int .i64 0) 8 rfl Try.underlying22 info3 rfl (by decide) (by omega) u3 x3_1 (rd t598 x5_1) [.int .i64 (rd t598 x5_1)] (fun k_ => some k_ ≠ (.slice (some ad604) t598.length co9 : Value).ownBlock) (fun _ => False) rfl rfl ?aP (fun _ hk => hk.elim) ?aF ?aO ?aB ?aS ?aL ?_; (case aP => exact rfl); (case aB => exact bw); (case aF => exact (fun k_ hk => Kd.fresh' (Kd.R_lt (ro HO_4.out)) k_ hk)); (case aO => exact (ro HO_3.out)); (case aS => exact (below_size bw)); (case aL => have := LMc21.out; omega); intro v606 w23 ho hb hg hat; rw [← Ny605.out] at ho; replace HO_4 := Aside0.mk (Kd.R_after (ok := (fun _ => True)) (by (with_reducible repeat (first | apply Kd.R_alloc | apply Kd.R_drewN | apply Kd.R_drew)); exact Kd.R_mono HO_4.out (fun _ hk => ⟨trivial, by first | exact hk | exact (by intro a n m c x h; cases a <;> exact h : ∀ (a : Option Addr) (n m c x : Nat), some x ≠ (Value.slice a n c).ownBlock → some x ≠ (Value.slice a m c).ownBlock) _ _ _ _ _ hk⟩)) hg hat); replace BK594 := Aside0.mk (blk_grown (g := gb594) (o := .cells #[.slice A0_0 l0_0.length c0_0] 27 (0, 0)) (bo BK594.out) hg (Kd.R_ne HO_3.out BK594.out (by decide))); replace HB := Aside0.mk (hb); have HO607 := Aside0.mk (ho); clear HO_3 ho hb hg hat))
        repeat (go_quiet (first | ((with_reducible refine gate_builtin (b := .append) (xs := #[.tmp 41, .tmp 46]) rfl ?_); at_builtin; refine Kd.R_append (Kd.int .i64) (w0 := w) w.heap.size rfl (.tmp 41) (.tmp 46) 22 3 (.int .i64 0) 8 rfl Try.underlying22 info3 rfl (by decide) (by omega) u3 x3_1 (rd t598 x5_1) [.int .i64 (rd t598 x5_1)] (fun k_ => some k_ ≠ (.slice (some ad604) t598.length co9 : Value).ownBlock) (fun _ => False) rfl rfl ?aP (fun _ hk => hk.elim) ?aF ?aO ?aB ?aS ?aL ?_; (case aP => exact rfl); (case aB => exact bw); (case aF => exact (fun k_ hk => Kd.fresh' (Kd.R_lt (ro HO_4.out)) k_ hk)); (case aO => exact (ro HO_3.out)); (case aS => exact (below_size bw)); (case aL => have := LMc21.out; omega); intro v606 w23 ho hb hg hat; rw [← Ny605.out] at ho; have n0_ := Aside0.mk (Kd.R_after (ok := (fun _ => True)) (by (with_reducible repeat (first | apply Kd.R_alloc | apply Kd.R_drewN | apply Kd.R_drew)); exact Kd.R_mono HO_4.out (fun _ hk => ⟨trivial, by first | exact hk | exact (by intro a n m c x h; cases a <;> exact h : ∀ (a : Option Addr) (n m c x : Nat), some x ≠ (Value.slice a n c).ownBlock → some x ≠ (Value.slice a m c).ownBlock) _ _ _ _ _ hk⟩)) hg hat); have n1_ := Aside0.mk (blk_grown (g := gb594) (o := .cells #[.slice A0_0 l0_0.length c0_0] 27 (0, 0)) (bo BK594.out) hg (Kd.R_ne HO_3.out BK594.out (by decide))); have n2_ := Aside0.mk (hb); have n3_ := Aside0.mk (ho); clear HO_4; clear BK594; clear HB; clear HO_3; have HO_4 := n0_; have BK594 := n1_; have HB := n2_; have HO607 := n3_; clear n0_ n1_ n2_ n3_; clear ho hb hg hat)); try go_wp2_with (first | ((with_reducible refine gate_builtin (b := .append) (xs := #[.tmp 41, .tmp 46]) rfl ?_); at_builtin; refine Kd.R_append (Kd.int .i64) (w0 := w) w.heap.size rfl (.tmp 41) (.tmp 46) 22 3 (.int .i64 0) 8 rfl Try.underlying22 info3 rfl (by decide) (by omega) u3 x3_1 (rd t598 x5_1) [.int .i64 (rd t598 x5_1)] (fun k_ => some k_ ≠ (.slice (some ad604) t598.length co9 : Value).ownBlock) (fun _ => False) rfl rfl ?aP (fun _ hk => hk.elim) ?aF ?aO ?aB ?aS ?aL ?_; (case aP => exact rfl); (case aB => exact bw); (case aF => exact (fun k_ hk => Kd.fresh' (Kd.R_lt (ro HO_4.out)) k_ hk)); (case aO => exact (ro HO_3.out)); (case aS => exact (below_size bw)); (case aL => have := LMc21.out; omega); intro v606 w23 ho hb hg hat; rw [← Ny605.out] at ho; have n0_ := Aside0.mk (Kd.R_after (ok := (fun _ => True)) (by (with_reducible repeat (first | apply Kd.R_alloc | apply Kd.R_drewN | apply Kd.R_drew)); exact Kd.R_mono HO_4.out (fun _ hk => ⟨trivial, by first | exact hk | exact (by intro a n m c x h; cases a <;> exact h : ∀ (a : Option Addr) (n m c x : Nat), some x ≠ (Value.slice a n c).ownBlock → some x ≠ (Value.slice a m c).ownBlock) _ _ _ _ _ hk⟩)) hg hat); have n1_ := Aside0.mk (blk_grown (g := gb594) (o := .cells #[.slice A0_0 l0_0.length c0_0] 27 (0, 0)) (bo BK594.out) hg (Kd.R_ne HO_3.out BK594.out (by decide))); have n2_ := Aside0.mk (hb); have n3_ := Aside0.mk (ho); clear HO_4; clear BK594; clear HB; clear HO_3; have HO_4 := n0_; have BK594 := n1_; have HB := n2_; have HO607 := n3_; clear n0_ n1_ n2_ n3_; clear ho hb hg hat)))
        go_roundg k2
        case measure => have := HK1.out; have := HK2.out; omega
        case rel => exact ⟨(y605), (wrap64 (x5_1 + 1)), rr, H', ⟨by have := HK1.out; have := HK2.out; omega⟩, ⟨ro HO607.out⟩, ⟨by (with_reducible repeat (first | apply Kd.R_alloc | apply Kd.R_drewN | apply Kd.R_drew)); exact Kd.R_mono HO_4.out (fun _ hk => hk.2)⟩, ⟨bo BK594.out⟩, ⟨bw⟩⟩
       ·have H' := Aside0.mk H
        clear H
        have hcz24_0 := bc BK594 0 (.slice A0_0 l0_0.length c0_0)
        have hfz24_0 := blk_frozen BK594.out 0
        go_wp2
        repeat (go_quiet (fail); try go_wp2)
        go_roundg k2
        case measure => have := HK1.out; have := HK2.out; omega
        case rel => exact ⟨(x3_1), (wrap64 (x5_1 + 1)), rr, H', ⟨by have := HK1.out; have := HK2.out; omega⟩, ⟨ro HO_3.out⟩, ⟨ro HO_4.out⟩, ⟨bo BK594.out⟩, ⟨bw⟩⟩
   ·obtain rfl := Option.some.inj H
    obtain ⟨Ao25, co25, eo25⟩ := Kd.R_slice HO_4.out
    subst eo25
    go_wp2
    repeat (go_quiet (fail); try go_wp2)
    go_ret
    exact ⟨_, re, by (with_reducible repeat (first | apply Kd.R_alloc | apply Kd.R_drewN | apply Kd.R_drew)); exact Kd.R_mono HO_3.out (fun _ hk => trivial), bw⟩


/-! ### spec_SpecialGaps: function 99 -/
def spec_SpecialGaps.l0 : Nat → List Int → List Int → Int → List Int → Option (List Int)
 | 0, _, _, _, _ => none
 | k + 1, x3, x4, x5, x609000 => if x5 < (x4.length : Int) then (if 0 ≤ x5 then ((spec_l3Has.f k x609000 (wrap64 (2 * (rd x4 x5)))).bind fun t616 => (if t616 = true then (if x3.length < 17592186044416 then (spec_SpecialGaps.l0 k (x3 ++ [rd x4 x5]) x4 (wrap64 (x5 + 1)) x609000) else (none)) else (spec_SpecialGaps.l0 k x3 x4 (wrap64 (x5 + 1)) x609000))) else (none)) else (some x3)
def spec_SpecialGaps.f (k : Nat) (l0_0 : List Int) : Option (List Int) := (spec_PseudoFrobenius.f k l0_0).bind fun t612 => (spec_SpecialGaps.l0 k (([] : List Int)) t612 0 l0_0)
set_option maxHeartbeats 8000000 in
set_option maxRecDepth 100000 in
theorem spec_SpecialGaps.calls (k : Nat) (A0_0 : Option Addr) (c0_0 : Nat) (l0_0 : List Int) (r : List Int) (w : World) (hr0_0 : Kd.C (Kd.int .i64) w A0_0 l0_0.length l0_0) (hc0_0 : l0_0.length ≤ c0_0) (h : spec_SpecialGaps.f k l0_0 = some r) :
  Calls Try.prog 99 #[.agg #[.slice A0_0 l0_0.length c0_0]] w fun e w' => ∃ v0_ : Value, e = .returned (v0_) ∧ Kd.R (Kd.int .i64) 3 w' w.heap.size (fun _ => True) v0_ r ∧ Below w.heap.size w w' := by
 have hu27 := Try.underlying27
 have HR0_0 := Aside0.mk hr0_0
 have HC0_0 := Aside0.mk hc0_0
 clear hr0_0 hc0_0
 have HB := Aside0.mk (Below.refl w.heap.size w)
 have H : ((spec_PseudoFrobenius.f k l0_0).bind fun t612 => (spec_SpecialGaps.l0 k (([] : List Int)) t612 0 l0_0)) = some r := h
 clear h
 obtain ⟨y609, hy609⟩ : ∃ y_ : List Int, y_ = (([] : List Int)) := ⟨_, rfl⟩
 replace H : ((spec_PseudoFrobenius.f k l0_0).bind fun t612 => (spec_SpecialGaps.l0 k y609 t612 0 l0_0)) = some r := by first | (rw [hy609]; with_reducible exact H) | (have H2_ := (Option.bind_some _ _).symm.trans H; rw [hy609]; with_reducible exact H2_) | (have H2_ := (Option.bind_some _ _).symm.trans H; with_reducible exact H2_) | with_reducible exact H | (rw [hy609]; exact H) | exact H
 have Ny609 := Aside0.mk hy609
 clear hy609
 replace H := ga H; obtain ⟨t612, A2, H⟩ := H
 have H' := Aside0.mk H
 clear H
 go_enter Try.func99, Try.ntmps99
 go_wp2_with (first | ((with_reducible refine gate_dst (N := 1) rfl ?_); refine bx 1 #[.slice A0_0 l0_0.length c0_0] 27 ?_; intro gb608 hg w3 hbox hb; have BK608 := Aside0.mk (hbox); have GW608 := Aside0.mk (gs hg : w.heap.size ≤ gb608); have GE608 := Aside0.mk (gs hg : w.heap.size ≤ gb608); replace HB := Aside0.mk (below_step bw hb); clear hb hbox hg) | ((with_reducible refine gate_dst (N := 6) rfl ?_); refine Kd.R_lit (Kd.int .i64) _ 3 ?hg (N := 6) ?hd (xs := ([] : List Int)) (inner := []) (ok := fun _ => True) (okp := fun _ => True) ?hr ?hp (fun _ hk => hk) trivial (Below.refl _ _) (Nat.le_refl _) (by simp) ?_; (case hd => rfl); (case hg => rfl); (case hr => first | (go_simp; done) | (go_simp; rfl)); (case hp => exact (Reps.none _ _)); intro v610 w4 ho5 hb hg_ hnew_; clear hg_ hnew_; (first | rw [← Ny609.out] at ho5 | (simp only [Int.reduceToNat] at ho5; rw [← Ny609.out] at ho5)); have HO611 := Aside0.mk (Kd.R_lower ho5 (below_size bw)); replace BK608 := Aside0.mk (blk_below (g := gb608) (o := .cells #[.slice A0_0 l0_0.length c0_0] 27 (0, 0)) (bo BK608.out) hb); replace HB := Aside0.mk (below_step bw hb); clear hb ho5; have hcz6_0 := bc BK608 0 (.slice A0_0 l0_0.length c0_0); have hfz6_0 := blk_frozen BK608.out 0) | ((with_reducible refine gate_callee (f := 134) rfl ?_); refine gl (some 8) Try.func134 #[.agg #[.slice A0_0 l0_0.length c0_0]] ?_; (with_reducible refine (spec_PseudoFrobenius.calls k _ _ l0_0 t612 _ ?side1 ?side2 A2.out).mono ?_); (case side1 => exact co (Kd.C_below HR0_0.out HB.out)); (case side2 => exact HC0_0.out); rintro e w7 ⟨v613, rfl, ho0, hb⟩; refine ⟨_, rfl, ?_⟩; have HO614 := Aside0.mk (Kd.R_lower (Kd.R_new' ho0 (Kd.R_lt (ro HO611.out))) (below_size bw)); replace HO611 := Aside0.mk (Kd.R_elder' (ro HO611.out) (Kd.R_base ho0) hb); replace BK608 := Aside0.mk (blk_below (g := gb608) (o := .cells #[.slice A0_0 l0_0.length c0_0] 27 (0, 0)) (bo BK608.out) hb); replace HB := Aside0.mk (below_step bw hb); clear hb ho0))
 go_loopg [3, 5] k (fun kq v3 v5 w' => ∃ (x3_1 : List Int) (x5_1 : Int), v5 = .int .i64 x5_1 ∧ Aside0 (spec_SpecialGaps.l0 kq x3_1 t612 x5_1 l0_0 = some r) ∧ Aside0 (kq ≤ k) ∧ Aside0 (Kd.R (Kd.int .i64) 3 w' w.heap.size (fun k_ => some k_ ≠ (v613 : Value).ownBlock) v3 x3_1) ∧ Aside0 (Kd.R (Kd.int .i64) 3 w' w.heap.size (fun k_ => some k_ ≠ (v3 : Value).ownBlock) v613 t612) ∧ Aside0 (w'.heap[gb608]? = some (.cells #[(.slice A0_0 l0_0.length c0_0)] 27 (0, 0))) ∧ Aside0 (Below w.heap.size w w'))
 case atStart => exact ⟨(y609), (0), rr, H', ⟨Nat.le_refl _⟩, ⟨by (with_reducible repeat (first | apply Kd.R_alloc | apply Kd.R_drewN | apply Kd.R_drew)); exact Kd.R_mono HO611.out (fun _ hk => hk.2)⟩, ⟨by (with_reducible repeat (first | apply Kd.R_alloc | apply Kd.R_drewN | apply Kd.R_drew)); exact Kd.R_mono HO614.out (fun _ hk => hk.2)⟩, ⟨bo BK608.out⟩, ⟨bw⟩⟩
 case round =>
  clear H'
  try clear hcz6_0; try clear hfz6_0
  obtain ⟨x3_1, x5_1, rfl, HA, HK1, HO_3, HO_4, BK608, HB⟩ := hrel
  cases gk with
  | zero => exact absurd HA.out (by simp [spec_SpecialGaps.l0])
  | succ k1 =>
   have H := HA.out
   clear HA
   simp only [spec_SpecialGaps.l0] at H
   replace H := gi H; obtain ⟨c8b0, H⟩ | ⟨c8b0, H⟩ := H
   ·replace H := gd H; obtain ⟨c9b0, H⟩ := H
    replace H := ga H; obtain ⟨t616, A10, H⟩ := H
    replace H := gb H; obtain ⟨rfl, H⟩ | ⟨rfl, H⟩ := H
    ·by_cases c12 : x3_1.length < 17592186044416
     rotate_left
     ·rw [if_neg c12] at H
      exact absurd H (by simp)
     rw [if_pos c12] at H
     have LMc12 := Aside0.mk c12
     clear c12
     obtain ⟨y618, hy618⟩ : ∃ y_ : List Int, y_ = (x3_1 ++ [rd t612 x5_1]) := ⟨_, rfl⟩
     replace H : (spec_SpecialGaps.l0 k1 y618 t612 (wrap64 (x5_1 + 1)) l0_0) = some r := by first | (rw [hy618]; with_reducible exact H) | (have H2_ := (Option.bind_some _ _).symm.trans H; rw [hy618]; with_reducible exact H2_) | (have H2_ := (Option.bind_some _ _).symm.trans H; with_reducible exact H2_) | with_reducible exact H | (rw [hy618]; exact H) | exact H
     have Ny618 := Aside0.mk hy618
     clear hy618
     have H' := Aside0.mk H
     clear H
     obtain ⟨Ao13, co13, eo13⟩ := Kd.R_slice HO_4.out
     subst eo13
     try go_wp2
     replace HO_3 := Aside0.mk (Kd.R_drew HO_3.out)
     replace HO_4 := Aside0.mk (Kd.R_drew HO_4.out)
     replace BK608 := Aside0.mk (blk_drew BK608.out)
     replace HB := Aside0.mk (below_drew1 HB.out)
     obtain ⟨⟨ad615, e615, hx615_0⟩, p615, q615⟩ := pq (Kd.at_int (Kd.R_reads' HO_4.out).2.2 x5_1)
     cases e615
     refine start_ (n := 7) (S := fun w' => w'.cell? ⟨gb608, 0, none⟩ = some (.slice A0_0 l0_0.length c0_0) ∧ w'.cell? (ad615.add (x5_1).toNat) = some (.int .i64 (rd t612 x5_1))) (ds := []) #[Z,Z,Z,Z,Z,Z,Z] (by kernel_rfl) rfl rfl ⟨(blk_cell BK608.out 0).trans rfl, hx615_0⟩ (fun hHeld => ?_)
     generalize wr.drew = w14 at HO_3 HO_4 BK608 HB hx615_0 hHeld ⊢
     refine pure_ (i := 1) (N := some 16) (v := ?_) (a' := ?_) #[Z,Y,Z,Z,Z,Z,Z] rfl rfl (by kernel_rfl) (fun _ _ _ h => h) (Or.inl ⟨by rfl, ?_⟩) ?_ ?_
     rotate_left
     ·intro w'
      go_simp
      with_reducible rfl
     rotate_left
     ·simp only [Act.put, qa, qb, qc, i64_w, i32_w]
      rfl
     refine pure_ (i := 2) (N := some 17) (v := ?_) (a' := ?_) #[Z,Y,Y,Z,Z,Z,Z] rfl rfl (by kernel_rfl) (fun _ _ _ h => h) (Or.inl ⟨by rfl, ?_⟩) ?_ ?_
     rotate_left
     ·intro w'
      go_simp
      with_reducible rfl
     rotate_left
     ·simp only [Act.put, qa, qb, qc, i64_w, i32_w]
      rfl
     refine pure_ (i := 3) (N := some 18) (v := ?_) (a' := ?_) #[Z,Y,Y,Y,Z,Z,Z] rfl rfl (by kernel_rfl) (fun _ _ _ h => h) (Or.inl ⟨by rfl, ?_⟩) ?_ ?_
     rotate_left
     ·intro w'
      go_simp
      with_reducible rfl
     rotate_left
     ·simp only [Act.put, qa, qb, qc, i64_w, i32_w]
      rfl
     refine take_ (i := 0) (N := some 15) (v := ?_) (a' := ?_) #[Y,Y,Y,Y,Z,Z,Z] rfl rfl (by kernel_rfl) (fun _ _ _ h => h) (Or.inl ⟨by rfl, ?_⟩) hHeld ?_ ?_
     rotate_left
     ·rintro w' ⟨s0, s1⟩
      go_simp
      with_reducible rfl
     rotate_left
     ·simp only [Act.put, qa, qb, qc, i64_w, i32_w]
      rfl
     refine take_ (i := 4) (N := some 19) (v := ?_) (a' := ?_) #[Y,Y,Y,Y,Y,Z,Z] rfl rfl (by kernel_rfl) (fun _ _ _ h => h) (Or.inl ⟨by rfl, ?_⟩) hHeld ?_ ?_
     rotate_left
     ·rintro w' ⟨s0, s1⟩
      go_simp
      with_reducible rfl
     rotate_left
     ·simp only [Act.put, qa, qb, qc, i64_w, i32_w]
      rfl
     refine pure_ (i := 5) (N := some 20) (v := ?_) (a' := ?_) #[Y,Y,Y,Y,Y,Y,Z] rfl rfl (by kernel_rfl) (fun _ _ _ h => h) (Or.inl ⟨by rfl, ?_⟩) ?_ ?_
     rotate_left
     ·intro w'
      go_simp
      with_reducible rfl
     rotate_left
     ·simp only [Act.put, qa, qb, qc, i64_w, i32_w]
      rfl
     refine one_ (i := 6) (N := some 21) #[Y,Y,Y,Y,Y,Y,Y] rfl rfl (by kernel_rfl) (by decide) (fun K hK => ?_)
     refine gm Try.func73 #[.agg #[.slice A0_0 l0_0.length c0_0], .int .i64 (wrap64 (2 * (rd t612 x5_1)))] ?_
     with_reducible refine (spec_l3Has.calls k1 _ _ l0_0 (wrap64 (2 * (rd t612 x5_1))) true _ ?side1 ?side2 A10.out).mono ?_
     (case side1 => exact co (Kd.C_below HR0_0.out HB.out))
     (case side2 => exact HC0_0.out)
     rintro e w15 ⟨rfl, hb⟩
     have HS1_ := (hb.cell (World.block_lt_of_cell? _ _ (hHeld.2))).trans (hHeld.2)
     refine ⟨_, rfl, ?_⟩
     replace HO_3 := Aside0.mk (Kd.R_below (ro HO_3.out) hb)
     replace HO_4 := Aside0.mk (Kd.R_below (ro HO_4.out) hb)
     replace BK608 := Aside0.mk (blk_below (g := gb608) (o := .cells #[.slice A0_0 l0_0.length c0_0] 27 (0, 0)) (bo BK608.out) hb)
     replace HB := Aside0.mk (below_step bw hb)
     clear hb
     refine hK.out _ _ ⟨(blk_cell BK608.out 0).trans rfl, HS1_⟩ (fun hHeld => ?_)
     clear hK K
     refine norm_ (a' := ?_) ?_ ?_
     rotate_left
     ·show Act.put _ (some 21) _ = _
      simp only [Act.put, qa, qb, qc, i64_w, i32_w]
      rfl
     refine done_ (by kernel_rfl) ?_
     obtain ⟨⟨ad617, e617, hx617_0⟩, p617, q617⟩ := pq (Kd.at_int (Kd.R_reads' HO_4.out).2.2 x5_1)
     obtain rfl : ad615 = ad617 := (by injection e617)
     try go_wp2_with (first | ((with_reducible refine gate_builtin (b := .append) (xs := #[.tmp 22, .tmp 27]) rfl ?_); at_builtin; refine Kd.R_append (Kd.int .i64) (w0 := w) w.heap.size rfl (.tmp 22) (.tmp 27) 22 3 (.int .i64 0) 8 rfl Try.underlying22 info3 rfl (by decide) (by omega) u3 x3_1 (rd t612 x5_1) [.int .i64 (rd t612 x5_1)] (fun k_ => some k_ ≠ (.slice (some ad615) t612.length co13 : Value).ownBlock) (fun _ => False) rfl rfl ?aP (fun _ hk => hk.elim) ?aF ?aO ?aB ?aS ?aL ?_; (case aP => exact rfl); (case aB => exact bw); (case aF => exact (fun k_ hk => Kd.fresh' (Kd.R_lt (ro HO_4.out)) k_ hk)); (case aO => exact (ro HO_3.out)); (case aS => exact (below_size bw)); (case aL => have := LMc12.out; omega); intro v619 w16 ho hb hg hat; rw [← Ny618.out] at ho; replace HO_4 := Aside0.mk (Kd.R_after (ok := (fun _ => True)) (by (with_reducible repeat (first | apply Kd.R_alloc | apply Kd.R_drewN | apply Kd.R_drew)); exact Kd.R_mono HO_4.out (fun _ hk => ⟨trivial, by first | exact hk | exact (by intro a n m c x h; cases a <;> exact h : ∀ (a : Option Addr) (n m c x : Nat), some x ≠ (Value.slice a n c).ownBlock → some x ≠ (Value.slice a m c).ownBlock) _ _ _ _ _ hk⟩)) hg hat); replace BK608 := Aside0.mk (blk_grown (g := gb608) (o := .cells #[.slice A0_0 l0_0.length c0_0] 27 (0, 0)) (bo BK608.out) hg (Kd.R_ne HO_3.out BK608.out (by decide))); replace HB := Aside0.mk (hb); have HO620 := Aside0.mk (ho); clear HO_3 ho hb hg hat))
     go_roundg k1
     case measure => have := HK1.out; omega
     case rel => exact ⟨(y618), (wrap64 (x5_1 + 1)), rr, H', ⟨by have := HK1.out; omega⟩, ⟨ro HO620.out⟩, ⟨by (with_reducible repeat (first | apply Kd.R_alloc | apply Kd.R_drewN | apply Kd.R_drew)); exact Kd.R_mono HO_4.out (fun _ hk => hk.2)⟩, ⟨bo BK608.out⟩, ⟨bw⟩⟩
    ·have H' := Aside0.mk H
     clear H
     obtain ⟨Ao17, co17, eo17⟩ := Kd.R_slice HO_4.out
     subst eo17
     try go_wp2
     replace HO_3 := Aside0.mk (Kd.R_drew HO_3.out)
     replace HO_4 := Aside0.mk (Kd.R_drew HO_4.out)
     replace BK608 := Aside0.mk (blk_drew BK608.out)
     replace HB := Aside0.mk (below_drew1 HB.out)
     obtain ⟨⟨ad615, e615, hx615_0⟩, p615, q615⟩ := pq (Kd.at_int (Kd.R_reads' HO_4.out).2.2 x5_1)
     cases e615
     refine start_ (n := 7) (S := fun w' => w'.cell? ⟨gb608, 0, none⟩ = some (.slice A0_0 l0_0.length c0_0) ∧ w'.cell? (ad615.add (x5_1).toNat) = some (.int .i64 (rd t612 x5_1))) (ds := []) #[Z,Z,Z,Z,Z,Z,Z] (by kernel_rfl) rfl rfl ⟨(blk_cell BK608.out 0).trans rfl, hx615_0⟩ (fun hHeld => ?_)
     generalize wr.drew = w18 at HO_3 HO_4 BK608 HB hx615_0 hHeld ⊢
     refine pure_ (i := 1) (N := some 16) (v := ?_) (a' := ?_) #[Z,Y,Z,Z,Z,Z,Z] rfl rfl (by kernel_rfl) (fun _ _ _ h => h) (Or.inl ⟨by rfl, ?_⟩) ?_ ?_
     rotate_left
     ·intro w'
      go_simp
      with_reducible rfl
     rotate_left
     ·simp only [Act.put, qa, qb, qc, i64_w, i32_w]
      rfl
     refine pure_ (i := 2) (N := some 17) (v := ?_) (a' := ?_) #[Z,Y,Y,Z,Z,Z,Z] rfl rfl (by kernel_rfl) (fun _ _ _ h => h) (Or.inl ⟨by rfl, ?_⟩) ?_ ?_
     rotate_left
     ·intro w'
      go_simp
      with_reducible rfl
     rotate_left
     ·simp only [Act.put, qa, qb, qc, i64_w, i32_w]
      rfl
     refine pure_ (i := 3) (N := some 18) (v := ?_) (a' := ?_) #[Z,Y,Y,Y,Z,Z,Z] rfl rfl (by kernel_rfl) (fun _ _ _ h => h) (Or.inl ⟨by rfl, ?_⟩) ?_ ?_
     rotate_left
     ·intro w'
      go_simp
      with_reducible rfl
     rotate_left
     ·simp only [Act.put, qa, qb, qc, i64_w, i32_w]
      rfl
     refine take_ (i := 0) (N := some 15) (v := ?_) (a' := ?_) #[Y,Y,Y,Y,Z,Z,Z] rfl rfl (by kernel_rfl) (fun _ _ _ h => h) (Or.inl ⟨by rfl, ?_⟩) hHeld ?_ ?_
     rotate_left
     ·rintro w' ⟨s0, s1⟩
      go_simp
      with_reducible rfl
     rotate_left
     ·simp only [Act.put, qa, qb, qc, i64_w, i32_w]
      rfl
     refine take_ (i := 4) (N := some 19) (v := ?_) (a' := ?_) #[Y,Y,Y,Y,Y,Z,Z] rfl rfl (by kernel_rfl) (fun _ _ _ h => h) (Or.inl ⟨by rfl, ?_⟩) hHeld ?_ ?_
     rotate_left
     ·rintro w' ⟨s0, s1⟩
      go_simp
      with_reducible rfl
     rotate_left
     ·simp only [Act.put, qa, qb, qc, i64_w, i32_w]
      rfl
     refine pure_ (i := 5) (N := some 20) (v := ?_) (a' := ?_) #[Y,Y,Y,Y,Y,Y,Z] rfl rfl (by kernel_rfl) (fun _ _ _ h => h) (Or.inl ⟨by rfl, ?_⟩) ?_ ?_
     rotate_left
     ·intro w'
      go_simp
      with_reducible rfl
     rotate_left
     ·simp only [Act.put, qa, qb, qc, i64_w, i32_w]
      rfl
     refine one_ (i := 6) (N := some 21) #[Y,Y,Y,Y,Y,Y,Y] rfl rfl (by kernel_rfl) (by decide) (fun K hK => ?_)
     refine gm Try.func73 #[.agg #[.slice A0_0 l0_0.length c0_0], .int .i64 (wrap64 (2 * (rd t612 x5_1)))] ?_
     with_reducible refine (spec_l3Has.calls k1 _ _ l0_0 (wrap64 (2 * (rd t612 x5_1))) false _ ?side1 ?side2 A10.out).mono ?_
     (case side1 => exact co (Kd.C_below HR0_0.out HB.out))
     (case side2 => exact HC0_0.out)
     rintro e w19 ⟨rfl, hb⟩
     have HS1_ := (hb.cell (World.block_lt_of_cell? _ _ (hHeld.2))).trans (hHeld.2)
     refine ⟨_, rfl, ?_⟩
     replace HO_3 := Aside0.mk (Kd.R_below (ro HO_3.out) hb)
     replace HO_4 := Aside0.mk (Kd.R_below (ro HO_4.out) hb)
     replace BK608 := Aside0.mk (blk_below (g := gb608) (o := .cells #[.slice A0_0 l0_0.length c0_0] 27 (0, 0)) (bo BK608.out) hb)
     replace HB := Aside0.mk (below_step bw hb)
     clear hb
     refine hK.out _ _ ⟨(blk_cell BK608.out 0).trans rfl, HS1_⟩ (fun hHeld => ?_)
     clear hK K
     refine norm_ (a' := ?_) ?_ ?_
     rotate_left
     ·show Act.put _ (some 21) _ = _
      simp only [Act.put, qa, qb, qc, i64_w, i32_w]
      rfl
     refine done_ (by kernel_rfl) ?_
     try go_wp2
     go_roundg k1
     case measure => have := HK1.out; omega
     case rel => exact ⟨(x3_1), (wrap64 (x5_1 + 1)), rr, H', ⟨by have := HK1.out; omega⟩, ⟨ro HO_3.out⟩, ⟨ro HO_4.out⟩, ⟨bo BK608.out⟩, ⟨bw⟩⟩
   ·obtain rfl := Option.some.inj H
    obtain ⟨Ao20, co20, eo20⟩ := Kd.R_slice HO_4.out
    subst eo20
    go_wp2
    go_ret
    exact ⟨_, re, by (with_reducible repeat (first | apply Kd.R_alloc | apply Kd.R_drewN | apply Kd.R_drew)); exact Kd.R_mono HO_3.out (fun _ hk => trivial), bw⟩


/-! ### spec_AddGap: function 48 -/
def spec_AddGap.f (k : Nat) (l0_0 : List Int) (a1 : Int) : Option (List Int × Bool) := (spec_SpecialGaps.f k l0_0).bind fun t623 => ((spec_HasNumber.f k t623 a1).bind fun t626 => (if t626 = true then ((spec_l4Gaps.f k l0_0).bind fun t627 => ((spec_l19Without.f k t627 a1).bind fun t630 => ((spec_FromGaps.f k t630).bind fun bt633 => (some (bt633.1, bt633.2))))) else (some (([] : List Int), false))))
set_option maxHeartbeats 8000000 in
set_option maxRecDepth 100000 in
theorem spec_AddGap.calls (k : Nat) (A0_0 : Option Addr) (c0_0 : Nat) (l0_0 : List Int) (a1 : Int) (r1 : List Int) (r2 : Bool) (w : World) (hr0_0 : Kd.C (Kd.int .i64) w A0_0 l0_0.length l0_0) (hc0_0 : l0_0.length ≤ c0_0) (h : spec_AddGap.f k l0_0 a1 = some (r1, r2)) :
  Calls Try.prog 48 #[.agg #[.slice A0_0 l0_0.length c0_0], .int .i64 a1] w fun e w' => ∃ v0_ : Value, e = .returned (.tuple #[.agg #[v0_], .bool r2]) ∧ Kd.R (Kd.int .i64) 3 w' w.heap.size (fun _ => True) v0_ r1 ∧ Below w.heap.size w w' := by
 have hu27 := Try.underlying27
 have HR0_0 := Aside0.mk hr0_0
 have HC0_0 := Aside0.mk hc0_0
 clear hr0_0 hc0_0
 have HB := Aside0.mk (Below.refl w.heap.size w)
 have H : ((spec_SpecialGaps.f k l0_0).bind fun t623 => ((spec_HasNumber.f k t623 a1).bind fun t626 => (if t626 = true then ((spec_l4Gaps.f k l0_0).bind fun t627 => ((spec_l19Without.f k t627 a1).bind fun t630 => ((spec_FromGaps.f k t630).bind fun bt633 => (some (bt633.1, bt633.2))))) else (some (([] : List Int), false))))) = some (r1, r2) := h
 clear h
 replace H := ga H; obtain ⟨t623, A3, H⟩ := H
 replace H := ga H; obtain ⟨t626, A4, H⟩ := H
 replace H := gb H; obtain ⟨rfl, H⟩ | ⟨rfl, H⟩ := H
 ·replace H := ga H; obtain ⟨t627, A6, H⟩ := H
  replace H := ga H; obtain ⟨t630, A7, H⟩ := H
  replace H := ga H; obtain ⟨⟨t633, t636⟩, A8, H⟩ := H
  replace H : (some (t633, t636)) = some (r1, r2) := H
  simp only [Option.some.injEq, Prod.mk.injEq] at H
  obtain ⟨rfl, rfl⟩ := H
  go_enter Try.func48, Try.ntmps48
  go_wp2_with (first | ((with_reducible refine gate_dst (N := 2) rfl ?_); refine bx 2 #[.slice A0_0 l0_0.length c0_0] 27 ?_; intro gb621 hg w9 hbox hb; have BK621 := Aside0.mk (hbox); have GW621 := Aside0.mk (gs hg : w.heap.size ≤ gb621); have GE621 := Aside0.mk (gs hg : w.heap.size ≤ gb621); replace HB := Aside0.mk (below_step bw hb); clear hb hbox hg) | ((with_reducible refine gate_dst (N := 4) rfl ?_); refine bx 4 #[.slice none 0 0] 27 ?_; intro gb622 hg w10 hbox hb; have BK622 := Aside0.mk (hbox); have GW622 := Aside0.mk (gs hg : w.heap.size ≤ gb622); have GE622 := Aside0.mk (gs hg : w.heap.size ≤ gb622); replace HB := Aside0.mk (below_step bw hb); have NB621_622 := Aside0.mk ((by rw [hg]; exact Nat.ne_of_lt (blk_lt (g := gb621) (o := .cells #[.slice A0_0 l0_0.length c0_0] 27 (0, 0)) (bo BK621.out)) : gb621 ≠ gb622)); have NB622_621 := Aside0.mk ((by rw [hg]; exact Nat.ne_of_gt (blk_lt (g := gb621) (o := .cells #[.slice A0_0 l0_0.length c0_0] 27 (0, 0)) (bo BK621.out)) : gb622 ≠ gb621)); replace BK621 := Aside0.mk (blk_below (g := gb621) (o := .cells #[.slice A0_0 l0_0.length c0_0] 27 (0, 0)) (bo BK621.out) hb); clear hb hbox hg; have hnb11 := NB621_622.out; have hnc11 := NB622_621.out; have hcz12_0 := bc BK621 0 (.slice A0_0 l0_0.length c0_0); have hfz12_0 := blk_frozen BK621.out 0) | ((with_reducible refine gate_callee (f := 99) rfl ?_); refine gl (some 9) Try.func99 #[.agg #[.slice A0_0 l0_0.length c0_0]] ?_; (with_reducible refine (spec_SpecialGaps.calls k _ _ l0_0 t623 _ ?side1 ?side2 A3.out).mono ?_); (case side1 => exact co (Kd.C_below HR0_0.out HB.out)); (case side2 => exact HC0_0.out); rintro e w13 ⟨v624, rfl, ho0, hb⟩; refine ⟨_, rfl, ?_⟩; have HO625 := Aside0.mk (Kd.R_lower ho0 (below_size bw)); replace BK621 := Aside0.mk (blk_below (g := gb621) (o := .cells #[.slice A0_0 l0_0.length c0_0] 27 (0, 0)) (bo BK621.out) hb); replace BK622 := Aside0.mk (blk_below (g := gb622) (o := .cells #[.slice none 0 0] 27 (0, 0)) (bo BK622.out) hb); replace HB := Aside0.mk (below_step bw hb); clear hb ho0; obtain ⟨Ao14, co14, eo14⟩ := Kd.R_slice HO625.out; subst eo14) | ((with_reducible refine gate_callee (f := 98) rfl ?_); refine gl (some 11) Try.func98 #[.slice Ao14 t623.length co14, .int .i64 a1] ?_; (with_reducible refine (spec_HasNumber.calls k _ _ t623 a1 true _ ?side1 ?side2 A4.out).mono ?_); (case side1 => exact co (Kd.R_reads' HO625.out).2.2); (case side2 => exact (Kd.R_reads' HO625.out).2.1); rintro e w' ⟨rfl, ⟨nd, rfl⟩⟩; refine ⟨_, rfl, ?_⟩; (try (rw [drewN_self w13]; generalize hq_ : World.drewN w13 _ = w13; have n0_ : Aside0 (Kd.R (Kd.int .i64) 3 w13 w.heap.size (fun _ => True) (.slice Ao14 t623.length co14) t623) := ⟨by rw [← hq_]; exact (ro HO625.out)⟩; have n1_ : Aside0 (w13.heap[gb621]? = some (.cells #[.slice A0_0 l0_0.length c0_0] 27 (0, 0))) := ⟨by rw [← hq_]; exact (bo BK621.out)⟩; have n2_ : Aside0 (w13.heap[gb622]? = some (.cells #[.slice none 0 0] 27 (0, 0))) := ⟨by rw [← hq_]; exact (bo BK622.out)⟩; have n3_ : Aside0 (Below w.heap.size w w13) := ⟨by rw [← hq_]; exact bw⟩; clear HO625 BK621 BK622 HB hq_; have HO625 := n0_; have BK621 := n1_; have BK622 := n2_; have HB := n3_; clear n0_ n1_ n2_ n3_)); have hcz15_0 := bc BK621 0 (.slice A0_0 l0_0.length c0_0); have hfz15_0 := blk_frozen BK621.out 0) | ((with_reducible refine gate_callee (f := 78) rfl ?_); refine gl (some 16) Try.func78 #[.agg #[.slice A0_0 l0_0.length c0_0]] ?_; (with_reducible refine (spec_l4Gaps.calls k _ _ l0_0 t627 _ ?side1 ?side2 A6.out).mono ?_); (case side1 => exact co (Kd.C_below HR0_0.out HB.out)); (case side2 => exact HC0_0.out); rintro e w16 ⟨v628, rfl, ho0, hb⟩; refine ⟨_, rfl, ?_⟩; have HO629 := Aside0.mk (Kd.R_lower (Kd.R_new' ho0 (Kd.R_lt (ro HO625.out))) (below_size bw)); replace HO625 := Aside0.mk (Kd.R_elder' (ro HO625.out) (Kd.R_base ho0) hb); replace BK621 := Aside0.mk (blk_below (g := gb621) (o := .cells #[.slice A0_0 l0_0.length c0_0] 27 (0, 0)) (bo BK621.out) hb); replace BK622 := Aside0.mk (blk_below (g := gb622) (o := .cells #[.slice none 0 0] 27 (0, 0)) (bo BK622.out) hb); replace HB := Aside0.mk (below_step bw hb); clear hb ho0; obtain ⟨Ao17, co17, eo17⟩ := Kd.R_slice HO629.out; subst eo17) | ((with_reducible refine gate_callee (f := 77) rfl ?_); refine gl (some 18) Try.func77 #[.slice Ao17 t627.length co17, .int .i64 a1] ?_; (with_reducible refine (spec_l19Without.calls k _ _ t627 a1 t630 _ ?side1 ?side2 A7.out).mono ?_); (case side1 => exact co (Kd.R_reads' HO629.out).2.2); (case side2 => exact (Kd.R_reads' HO629.out).2.1); rintro e w18 ⟨v631, rfl, ho0, hb⟩; refine ⟨_, rfl, ?_⟩; have HO632 := Aside0.mk (Kd.R_lower (Kd.R_new' (Kd.R_new' ho0 (Kd.R_lt (ro HO625.out))) (Kd.R_lt (ro HO629.out))) (below_size bw)); replace HO625 := Aside0.mk (Kd.R_elder' (ro HO625.out) (Kd.R_base ho0) hb); replace HO629 := Aside0.mk (Kd.R_elder' (ro HO629.out) (Kd.R_base ho0) hb); replace BK621 := Aside0.mk (blk_below (g := gb621) (o := .cells #[.slice A0_0 l0_0.length c0_0] 27 (0, 0)) (bo BK621.out) hb); replace BK622 := Aside0.mk (blk_below (g := gb622) (o := .cells #[.slice none 0 0] 27 (0, 0)) (bo BK622.out) hb); replace HB := Aside0.mk (below_step bw hb); clear hb ho0; obtain ⟨Ao19, co19, eo19⟩ := Kd.R_slice HO632.out; subst eo19) | ((with_reducible refine gate_callee (f := 74) rfl ?_); refine gl (some 19) Try.func74 #[.slice Ao19 t630.length co19] ?_; (with_reducible refine (spec_FromGaps.calls k _ _ t630 t633 t636 _ ?side1 ?side2 A8.out).mono ?_); (case side1 => exact co (Kd.R_reads' HO632.out).2.2); (case side2 => exact (Kd.R_reads' HO632.out).2.1); rintro e w20 ⟨v634, rfl, ho0, hb⟩; refine ⟨_, rfl, ?_⟩; have HO635 := Aside0.mk (Kd.R_lower (Kd.R_new' (Kd.R_new' (Kd.R_new' ho0 (Kd.R_lt (ro HO625.out))) (Kd.R_lt (ro HO629.out))) (Kd.R_lt (ro HO632.out))) (below_size bw)); replace HO625 := Aside0.mk (Kd.R_elder' (ro HO625.out) (Kd.R_base ho0) hb); replace HO629 := Aside0.mk (Kd.R_elder' (ro HO629.out) (Kd.R_base ho0) hb); replace HO632 := Aside0.mk (Kd.R_elder' (ro HO632.out) (Kd.R_base ho0) hb); replace BK621 := Aside0.mk (blk_below (g := gb621) (o := .cells #[.slice A0_0 l0_0.length c0_0] 27 (0, 0)) (bo BK621.out) hb); replace BK622 := Aside0.mk (blk_below (g := gb622) (o := .cells #[.slice none 0 0] 27 (0, 0)) (bo BK622.out) hb); replace HB := Aside0.mk (below_step bw hb); clear hb ho0) | ((with_reducible refine gate_dst (N := 6) rfl ?_); refine bx 6 #[.slice none 0 0] 27 ?_; intro gb637 hg w21 hbox hb; replace HO625 := Aside0.mk (Kd.R_below (ro HO625.out) hb); replace HO629 := Aside0.mk (Kd.R_below (ro HO629.out) hb); replace HO632 := Aside0.mk (Kd.R_below (ro HO632.out) hb); replace HO635 := Aside0.mk (Kd.R_below (ro HO635.out) hb); have BK637 := Aside0.mk (hbox); have GW637 := Aside0.mk (gs hg : w.heap.size ≤ gb637); have GE637 := Aside0.mk (gs hg : w.heap.size ≤ gb637); replace HB := Aside0.mk (below_step bw hb); have NB621_637 := Aside0.mk ((by rw [hg]; exact Nat.ne_of_lt (blk_lt (g := gb621) (o := .cells #[.slice A0_0 l0_0.length c0_0] 27 (0, 0)) (bo BK621.out)) : gb621 ≠ gb637)); have NB637_621 := Aside0.mk ((by rw [hg]; exact Nat.ne_of_gt (blk_lt (g := gb621) (o := .cells #[.slice A0_0 l0_0.length c0_0] 27 (0, 0)) (bo BK621.out)) : gb637 ≠ gb621)); replace BK621 := Aside0.mk (blk_below (g := gb621) (o := .cells #[.slice A0_0 l0_0.length c0_0] 27 (0, 0)) (bo BK621.out) hb); have NB622_637 := Aside0.mk ((by rw [hg]; exact Nat.ne_of_lt (blk_lt (g := gb622) (o := .cells #[.slice none 0 0] 27 (0, 0)) (bo BK622.out)) : gb622 ≠ gb637)); have NB637_622 := Aside0.mk ((by rw [hg]; exact Nat.ne_of_gt (blk_lt (g := gb622) (o := .cells #[.slice none 0 0] 27 (0, 0)) (bo BK622.out)) : gb637 ≠ gb622)); replace BK622 := Aside0.mk (blk_below (g := gb622) (o := .cells #[.slice none 0 0] 27 (0, 0)) (bo BK622.out) hb); clear hb hbox hg; obtain ⟨Ao22, co22, eo22⟩ := Kd.R_slice HO635.out; subst eo22; have hnb23 := NB637_621.out; have hnc23 := NB621_637.out; have hnb24 := NB637_622.out; have hnc24 := NB622_637.out; have hcz25_0 := bc BK637 0 (.slice none 0 0); have hfz25_0 := blk_frozen BK637.out 0; have hcz26_0 := bc BK622 0 (.slice none 0 0); have hfz26_0 := blk_frozen BK622.out 0))
  refine bodyPost_ret (results_ct rfl _ _ gb622 27 #[.slice Ao22 t633.length co22] (0, 0) _ rfl (by (with_reducible repeat (first | refine blk_drewN ?_ _ | refine blk_drew ?_ | refine blk_alloc ?_ _)); refine blk_put (cs := #[.slice none 0 0]) ?_ 0 _ rfl; (with_reducible repeat (first | refine blk_drewN ?_ _ | refine blk_drew ?_ | refine blk_alloc ?_ _)); refine blk_far ?_ NB622_637.out _; (with_reducible repeat (first | refine blk_drewN ?_ _ | refine blk_drew ?_ | refine blk_alloc ?_ _)); exact BK622.out) Try.underlying27 rfl (by kernel_rfl)) rfl ?_
  exact ⟨_, re, by (with_reducible repeat (first | apply Kd.R_alloc | apply Kd.R_drewN | apply Kd.R_drew)); exact Kd.R_mono (Kd.R_far (p := ⟨gb622, 0, none⟩) (Kd.R_far (p := ⟨gb637, 0, none⟩) (Kd.R_types (Kd.R_types HO635.out BK637.out (by decide)) BK622.out (by decide)) (fun _ hk => by first | exact hk.1.2 | simp_all) (.slice Ao22 t633.length co22)) (fun _ hk => hk.2) (.slice Ao22 t633.length co22)) (fun _ hk => trivial), bw⟩
 ·simp only [Option.some.injEq, Prod.mk.injEq] at H
  obtain ⟨rfl, rfl⟩ := H
  go_enter Try.func48, Try.ntmps48
  go_wp2_with (first | ((with_reducible refine gate_dst (N := 2) rfl ?_); refine bx 2 #[.slice A0_0 l0_0.length c0_0] 27 ?_; intro gb621 hg w27 hbox hb; have BK621 := Aside0.mk (hbox); have GW621 := Aside0.mk (gs hg : w.heap.size ≤ gb621); have GE621 := Aside0.mk (gs hg : w.heap.size ≤ gb621); replace HB := Aside0.mk (below_step bw hb); clear hb hbox hg) | ((with_reducible refine gate_dst (N := 4) rfl ?_); refine bx 4 #[.slice none 0 0] 27 ?_; intro gb622 hg w28 hbox hb; have BK622 := Aside0.mk (hbox); have GW622 := Aside0.mk (gs hg : w.heap.size ≤ gb622); have GE622 := Aside0.mk (gs hg : w.heap.size ≤ gb622); replace HB := Aside0.mk (below_step bw hb); have NB621_622 := Aside0.mk ((by rw [hg]; exact Nat.ne_of_lt (blk_lt (g := gb621) (o := .cells #[.slice A0_0 l0_0.length c0_0] 27 (0, 0)) (bo BK621.out)) : gb621 ≠ gb622)); have NB622_621 := Aside0.mk ((by rw [hg]; exact Nat.ne_of_gt (blk_lt (g := gb621) (o := .cells #[.slice A0_0 l0_0.length c0_0] 27 (0, 0)) (bo BK621.out)) : gb622 ≠ gb621)); replace BK621 := Aside0.mk (blk_below (g := gb621) (o := .cells #[.slice A0_0 l0_0.length c0_0] 27 (0, 0)) (bo BK621.out) hb); clear hb hbox hg; have hnb29 := NB621_622.out; have hnc29 := NB622_621.out; have hcz30_0 := bc BK621 0 (.slice A0_0 l0_0.length c0_0); have hfz30_0 := blk_frozen BK621.out 0) | ((with_reducible refine gate_callee (f := 99) rfl ?_); refine gl (some 9) Try.func99 #[.agg #[.slice A0_0 l0_0.length c0_0]] ?_; (with_reducible refine (spec_SpecialGaps.calls k _ _ l0_0 t623 _ ?side1 ?side2 A3.out).mono ?_); (case side1 => exact co (Kd.C_below HR0_0.out HB.out)); (case side2 => exact HC0_0.out); rintro e w31 ⟨v624, rfl, ho0, hb⟩; refine ⟨_, rfl, ?_⟩; have HO625 := Aside0.mk (Kd.R_lower ho0 (below_size bw)); replace BK621 := Aside0.mk (blk_below (g := gb621) (o := .cells #[.slice A0_0 l0_0.length c0_0] 27 (0, 0)) (bo BK621.out) hb); replace BK622 := Aside0.mk (blk_below (g := gb622) (o := .cells #[.slice none 0 0] 27 (0, 0)) (bo BK622.out) hb); replace HB := Aside0.mk (below_step bw hb); clear hb ho0; obtain ⟨Ao32, co32, eo32⟩ := Kd.R_slice HO625.out; subst eo32) | ((with_reducible refine gate_callee (f := 98) rfl ?_); refine gl (some 11) Try.func98 #[.slice Ao32 t623.length co32, .int .i64 a1] ?_; (with_reducible refine (spec_HasNumber.calls k _ _ t623 a1 false _ ?side1 ?side2 A4.out).mono ?_); (case side1 => exact co (Kd.R_reads' HO625.out).2.2); (case side2 => exact (Kd.R_reads' HO625.out).2.1); rintro e w' ⟨rfl, ⟨nd, rfl⟩⟩; refine ⟨_, rfl, ?_⟩; (try (rw [drewN_self w31]; generalize hq_ : World.drewN w31 _ = w31; have n0_ : Aside0 (Kd.R (Kd.int .i64) 3 w31 w.heap.size (fun _ => True) (.slice Ao32 t623.length co32) t623) := ⟨by rw [← hq_]; exact (ro HO625.out)⟩; have n1_ : Aside0 (w31.heap[gb621]? = some (.cells #[.slice A0_0 l0_0.length c0_0] 27 (0, 0))) := ⟨by rw [← hq_]; exact (bo BK621.out)⟩; have n2_ : Aside0 (w31.heap[gb622]? = some (.cells #[.slice none 0 0] 27 (0, 0))) := ⟨by rw [← hq_]; exact (bo BK622.out)⟩; have n3_ : Aside0 (Below w.heap.size w w31) := ⟨by rw [← hq_]; exact bw⟩; clear HO625 BK621 BK622 HB hq_; have HO625 := n0_; have BK621 := n1_; have BK622 := n2_; have HB := n3_; clear n0_ n1_ n2_ n3_)); have hcz33_0 := bc BK622 0 (.slice none 0 0); have hfz33_0 := blk_frozen BK622.out 0))
  refine bodyPost_ret (results_ct rfl _ _ gb622 27 #[.slice none 0 0] (0, 0) _ rfl (by (with_reducible repeat (first | refine blk_drewN ?_ _ | refine blk_drew ?_ | refine blk_alloc ?_ _)); refine blk_put (cs := #[.slice none 0 0]) ?_ 0 _ rfl; (with_reducible repeat (first | refine blk_drewN ?_ _ | refine blk_drew ?_ | refine blk_alloc ?_ _)); exact BK622.out) Try.underlying27 rfl (by kernel_rfl)) rfl ?_
  exact ⟨_, re, by first | exact Kd.R_nil _ _ _ _ _ | exact Kd.N_nil _ _ _ _ _ | exact Kd.V_nil _ _ _ _ _ | exact Kd.Q_nil _ _ _ _ _ | exact Kd.S_nil _ _ _ _ _, bw⟩


/-! ### impl_table: function 121 -/
def impl_table.l0 : Nat → List Int → List Bool → Int → Int → List Int → Option (List Bool)
 | 0, _, _, _, _, _ => none
 | k + 1, x5, x6, x19, x20, x639000 => if x20 < x19 then (if 0 < (x639000.length : Int) then (if (rd x639000 0) = 0 then (none) else (if 0 ≤ (Int.tmod x20 (rd x639000 0)) then (if (Int.tmod x20 (rd x639000 0)) < (x5.length : Int) then (if 0 ≤ x20 then (if x20 < (x6.length : Int) then (impl_table.l0 k x5 (x6.set (x20 : Int).toNat (decide ((rd x5 (Int.tmod x20 (rd x639000 0))) ≤ x20))) x19 (wrap64 (x20 + 1)) x639000) else (none)) else (none)) else (none)) else (none))) else (none)) else (some x6)
def impl_table.f (k : Nat) (l0_0 : List Int) (a1 : Int) : Option (List Bool) := if 0 < (l0_0.length : Int) then ((impl_leasts.f k l0_0 (rd l0_0 0)).bind fun t640 => (if 0 ≤ (wrap64 (a1 + 1)) then (if (wrap64 (a1 + 1) : Int).toNat ≤ 281474976710656 then ((some (List.replicate (wrap64 (a1 + 1) : Int).toNat false : List Bool)).bind fun y643 => (impl_table.l0 k t640 y643 (y643.length : Int) 0 l0_0)) else (none)) else (none))) else (none)
def impl_table.T1 : Bool × List (List Nat × List Nat) := (true, [([], []), ([0], [0]), ([], []), ([2], [2]), ([3], [3]), ([4], [4]), ([1, 5], [1, 5]), ([6, 6, 0, 1, 2, 3, 4, 5, 6], [6])])
def impl_table.B1 : List Nat := [0, 1, 0, 4, 12, 28, 63, 127]
theorem impl_table.tab1 : rtab .any (opsOf Try.f121 1) = impl_table.T1 := by kernel_rfl
theorem impl_table.bits1 : waitsOk impl_table.T1.2 impl_table.B1 = true := by kernel_rfl
set_option maxHeartbeats 8000000 in
set_option maxRecDepth 100000 in
theorem impl_table.calls (k : Nat) (A0_0 : Option Addr) (c0_0 : Nat) (l0_0 : List Int) (a1 : Int) (r : List Bool) (w : World) (hr0_0 : Kd.C (Kd.int .i64) w A0_0 l0_0.length l0_0) (hc0_0 : l0_0.length ≤ c0_0) (h : impl_table.f k l0_0 a1 = some r) :
  Calls Try.prog 121 #[.agg #[.slice A0_0 l0_0.length c0_0], .int .i64 a1] w fun e w' => ∃ v0_ : Value, e = .returned (v0_) ∧ Kd.R Kd.bool 4 w' w.heap.size (fun _ => True) v0_ r ∧ Below w.heap.size w w' := by
 have hu27 := Try.underlying27
 have HR0_0 := Aside0.mk hr0_0
 have HC0_0 := Aside0.mk hc0_0
 clear hr0_0 hc0_0
 have HB := Aside0.mk (Below.refl w.heap.size w)
 have H : (if 0 < (l0_0.length : Int) then ((impl_leasts.f k l0_0 (rd l0_0 0)).bind fun t640 => (if 0 ≤ (wrap64 (a1 + 1)) then (if (wrap64 (a1 + 1) : Int).toNat ≤ 281474976710656 then ((some (List.replicate (wrap64 (a1 + 1) : Int).toNat false : List Bool)).bind fun y643 => (impl_table.l0 k t640 y643 (y643.length : Int) 0 l0_0)) else (none)) else (none))) else (none)) = some r := h
 clear h
 replace H := gp H; obtain ⟨c3, H⟩ := H
 have c3b0 : decide (0 < (l0_0.length : Int)) = true := decide_eq_true c3
 have c3b1 : decide (0 < l0_0.length) = true := decide_eq_true (by omega)
 clear c3
 replace H := ga H; obtain ⟨t640, A4, H⟩ := H
 obtain ⟨ji5, hji5⟩ : ∃ j_ : Int, (wrap64 (a1 + 1)) = j_ := ⟨_, rfl⟩
 replace H : (if 0 ≤ (ji5) then (if (ji5 : Int).toNat ≤ 281474976710656 then ((some (List.replicate (ji5 : Int).toNat false : List Bool)).bind fun y643 => (impl_table.l0 k t640 y643 (y643.length : Int) 0 l0_0)) else (none)) else (none)) = some r := by first | (rw [hji5] at H; exact H) | (simp only [hji5] at H ⊢; exact H)
 (try rw [hji5] at A4)
 have hji5w : (IntKind.i64.wrap (a1 + 1)) = ji5 := (i64_w _).trans hji5
 replace H := gp H; obtain ⟨c6, H⟩ := H
 have c6b0 := eq_true c6
 have c6b1 : decide (0 ≤ (ji5)) = true := decide_eq_true c6
 clear c6
 replace H := gp H; obtain ⟨c7, H⟩ := H
 have c7b0 := eq_true c7
 have c7b1 : decide ((ji5 : Int).toNat ≤ 281474976710656) = true := decide_eq_true c7
 clear c7
 obtain ⟨y643, hy643⟩ : ∃ y_ : List Bool, y_ = (List.replicate (ji5 : Int).toNat false) := ⟨_, rfl⟩
 replace H : (impl_table.l0 k t640 y643 (y643.length : Int) 0 l0_0) = some r := by first | (rw [hy643]; with_reducible exact H) | (have H2_ := (Option.bind_some _ _).symm.trans H; rw [hy643]; with_reducible exact H2_) | (have H2_ := (Option.bind_some _ _).symm.trans H; with_reducible exact H2_) | with_reducible exact H | (rw [hy643]; exact H) | exact H
 have Ny643 := Aside0.mk hy643
 clear hy643
 have H' := Aside0.mk H
 clear H
 go_enter Try.func121, Try.ntmps121
 try go_wp2_with (first | ((with_reducible refine gate_dst (N := 2) rfl ?_); refine bx 2 #[.slice A0_0 l0_0.length c0_0] 27 ?_; intro gb638 hg w8 hbox hb; have BK638 := Aside0.mk (hbox); have GW638 := Aside0.mk (gs hg : w.heap.size ≤ gb638); have GE638 := Aside0.mk (gs hg : w.heap.size ≤ gb638); replace HB := Aside0.mk (below_step bw hb); clear hb hbox hg))
 replace BK638 := Aside0.mk (blk_drew BK638.out)
 replace HB := Aside0.mk (below_drew1 HB.out)
 have p639 : 0 ≤ (0 : Int) := (by omega)
 have q639 : 0 < (l0_0.length : Int) := of_decide_eq_true (by first | (with_reducible assumption) | assumption)
 obtain ⟨ad639, e639, hx639_0⟩ := Kd.at_int HR0_0.out 0 p639 q639
 have hw639_0 := hx639_0
 (try rw [show ((0 : Int)).toNat = 0 from rfl] at hw639_0)
 (try rw [show 0 * 1 = 0 from rfl] at hw639_0)
 (try rw [Addr.add_zero'] at hw639_0)
 cases e639
 have qi639 : (0 < l0_0.length) = True := eq_true (by omega)
 (try rw [show ((0 : Int)).toNat = 0 from rfl] at hx639_0)
 (try rw [Addr.add_zero'] at hx639_0)
 replace hx639_0 := (HB.out.cell (World.block_lt_of_cell? w _ hx639_0)).trans hx639_0
 replace p639 := eq_true p639
 replace q639 := eq_true q639
 refine start_ (n := 8) (S := fun w' => w'.cell? ⟨gb638, 0, none⟩ = some (.slice (some ad639) l0_0.length c0_0) ∧ w'.cell? ad639 = some (.int .i64 (rd l0_0 0))) (ds := []) #[Z,Z,Z,Z,Z,Z,Z,Z] (by kernel_rfl) rfl rfl ⟨(blk_cell BK638.out 0).trans rfl, ((HB.out.cell (World.block_lt_of_cell? w _ hw639_0)).trans hw639_0)⟩ (fun hHeld => ?_); refine with_tabW impl_table.tab1 impl_table.bits1 (fun HT_ HW_ => ?_)
 generalize w8.drew = w9 at BK638 HB hx639_0 hHeld ⊢
 refine pa 0 (some 8) #[Y,Z,Z,Z,Z,Z,Z,Z] HT_ ?_
 refine pa 2 (some 10) #[Y,Z,Y,Z,Z,Z,Z,Z] HT_ ?_
 refine take_ (i := 1) (N := some 9) (v := ?_) (a' := ?_) #[Y,Y,Y,Z,Z,Z,Z,Z] rfl rfl (take_ofW HT_.out HW_.out (by kernel_rfl)) (fun _ _ _ h => h) (Or.inl ⟨by rfl, ?_⟩) hHeld ?_ ?_
 rotate_left
 ·rintro w' ⟨s0, s1⟩
  go_simp
  with_reducible rfl
 rotate_left
 ·simp only [Act.put, qa, qb, qc, i64_w, i32_w]
  rfl
 refine take_ (i := 3) (N := some 11) (v := ?_) (a' := ?_) #[Y,Y,Y,Y,Z,Z,Z,Z] rfl rfl (take_ofW HT_.out HW_.out (by kernel_rfl)) (fun _ _ _ h => h) (Or.inl ⟨by rfl, ?_⟩) hHeld ?_ ?_
 rotate_left
 ·rintro w' ⟨s0, s1⟩
  go_simp
  with_reducible rfl
 rotate_left
 ·simp only [Act.put, qa, qb, qc, i64_w, i32_w]
  rfl
 refine pa 4 (some 12) #[Y,Y,Y,Y,Y,Z,Z,Z] HT_ ?_
 refine take_ (i := 5) (N := some 13) (v := ?_) (a' := ?_) #[Y,Y,Y,Y,Y,Y,Z,Z] rfl rfl (take_ofW HT_.out HW_.out (by kernel_rfl)) (fun _ _ _ h => h) (Or.inl ⟨by rfl, ?_⟩) hHeld ?_ ?_
 rotate_left
 ·rintro w' ⟨s0, s1⟩
  go_simp
  with_reducible rfl
 rotate_left
 ·simp only [Act.put, qa, qb, qc, i64_w, i32_w]
  rfl
 refine oa 6 (some 14) #[Y,Y,Y,Y,Y,Y,Y,Z] HT_ (fun K hK => ?_)
 refine gm Try.func116 #[.slice (some ad639) l0_0.length c0_0, .int .i64 (rd l0_0 0)] ?_
 with_reducible refine (impl_leasts.calls k _ _ l0_0 (rd l0_0 0) t640 _ ?side1 ?side2 A4.out).mono ?_
 (case side1 => exact co (Kd.C_below HR0_0.out HB.out))
 (case side2 => exact HC0_0.out)
 rintro e w10 ⟨v641, rfl, ho0, hb⟩
 refine ⟨_, rfl, ?_⟩
 have HO642 := Aside0.mk (Kd.R_lower ho0 (below_size bw))
 replace BK638 := Aside0.mk (blk_below (g := gb638) (o := .cells #[.slice (some ad639) l0_0.length c0_0] 27 (0, 0)) (bo BK638.out) hb)
 replace HB := Aside0.mk (below_step bw hb)
 clear hb ho0
 refine hK.out _ _ ⟨(blk_cell BK638.out 0).trans rfl, ((HB.out.cell (World.block_lt_of_cell? w _ hw639_0)).trans hw639_0)⟩ (fun hHeld => ?_)
 clear hK K
 refine norm_ (a' := ?_) ?_ ?_
 rotate_left
 ·show Act.put _ (some 14) _ = _
  simp only [Act.put, qa, qb, qc, i64_w, i32_w]
  rfl
 refine pa 7 (some 5) #[Y,Y,Y,Y,Y,Y,Y,Y] HT_ ?_
 refine done_ (done_of HT_.out (by kernel_rfl)) ?_
 try go_wp2_with (first | ((with_reducible refine gate_dst (N := 17) rfl ?_); refine Kd.R_make Kd.bool _ 4 rfl (N := 17) rfl 90 _ _ rfl ji5 rfl rfl Try.underlying90 (.bool false) 1 info4 rfl (by decide) (by omega) false (ok := fun _ => True) (okp := fun _ => True) rfl (fun _ hk => hk) trivial (of_decide_eq_true (by first | (with_reducible assumption) | assumption)) (Nat.le_trans (Nat.mul_le_mul_right _ (of_decide_eq_true (by first | (with_reducible assumption) | assumption) : ji5.toNat ≤ 281474976710656)) (by omega)) (Below.refl _ _) (Nat.le_refl _) ?_; intro v644 w11 ho12 hb hg_ hnew_; clear hg_ hnew_; (first | rw [← Ny643.out] at ho12 | (simp only [Int.reduceToNat] at ho12; rw [← Ny643.out] at ho12)); replace HO642 := Aside0.mk (Kd.R_below (ro HO642.out) hb); have HO645 := Aside0.mk (Kd.R_lower ho12 (below_size bw)); replace BK638 := Aside0.mk (blk_below (g := gb638) (o := .cells #[.slice (some ad639) l0_0.length c0_0] 27 (0, 0)) (bo BK638.out) hb); replace HB := Aside0.mk (below_step bw hb); clear hb ho12; obtain ⟨Ao13, co13, eo13⟩ := Kd.R_slice HO645.out; subst eo13))
 go_loopg [20] k (fun kq v20 w' => ∃ (x6_1 : List Bool) (x20_1 : Int), v20 = .int .i64 x20_1 ∧ Aside0 (impl_table.l0 kq t640 x6_1 (y643.length : Int) x20_1 l0_0 = some r) ∧ Aside0 (kq ≤ k) ∧ Aside0 (Kd.R (Kd.int .i64) 3 w' w.heap.size (fun _ => True) v641 t640) ∧ Aside0 (Kd.R Kd.bool 4 w' w.heap.size (fun _ => True) (.slice Ao13 y643.length co13) x6_1) ∧ Aside0 (w'.heap[gb638]? = some (.cells #[(.slice (some ad639) l0_0.length c0_0)] 27 (0, 0))) ∧ Aside0 (Below w.heap.size w w'))
 case atStart => exact ⟨(y643), (0), rr, H', ⟨Nat.le_refl _⟩, ⟨ro HO642.out⟩, ⟨ro HO645.out⟩, ⟨bo BK638.out⟩, ⟨bw⟩⟩
 case round =>
  clear H'
  try clear c3; try clear c3b0; try clear c3b1; try clear c6; try clear c6b0; try clear c6b1; try clear c7; try clear c7b0; try clear c7b1; try clear hx639_0; try clear p639; try clear q639
  obtain ⟨x6_1, x20_1, rfl, HA, HK1, HO_5, HO_6, BK638, HB⟩ := hrel
  have hl6_1 := (Kd.R_reads' HO_6.out).1
  rw [hl6_1] at HO_6
  (try simp only [hl6_1])
  (try simp only [hl6_1] at BK638)
  (try simp only [hl6_1] at HO_5)
  cases gk with
  | zero => exact absurd HA.out (by simp [impl_table.l0])
  | succ k1 =>
   have H := HA.out
   clear HA
   simp only [impl_table.l0] at H
   by_cases c14 : x20_1 < (y643.length : Int)
   ·rw [if_pos c14] at H
    have c14b0 : decide (x20_1 < (y643.length : Int)) = true := decide_eq_true c14
    (try simp only [hl6_1] at c14b0)
    clear c14
    replace H := gp H; obtain ⟨c15, H⟩ := H
    have c15b0 : decide (0 < (l0_0.length : Int)) = true := decide_eq_true c15
    have c15b1 : decide (0 < l0_0.length) = true := decide_eq_true (by omega)
    clear c15
    by_cases c16 : (rd l0_0 0) = 0
    ·rw [if_pos c16] at H
     exact absurd H (by simp)
    ·rw [if_neg c16] at H
     have c16b0 : ((rd l0_0 0) == 0) = false := beq_eq_false_iff_ne.mpr c16
     have c16b1 : ((rd l0_0 0) != 0) = true := bne_iff_ne.mpr c16
     obtain ⟨ji17, hji17⟩ : ∃ j_ : Int, (Int.tmod x20_1 (rd l0_0 0)) = j_ := ⟨_, rfl⟩
     replace H : (if 0 ≤ (ji17) then (if (ji17) < (t640.length : Int) then (if 0 ≤ x20_1 then (if x20_1 < (x6_1.length : Int) then (impl_table.l0 k1 t640 (x6_1.set (x20_1 : Int).toNat (decide ((rd t640 (ji17)) ≤ x20_1))) (y643.length : Int) (wrap64 (x20_1 + 1)) l0_0) else (none)) else (none)) else (none)) else (none)) = some r := by first | (rw [hji17] at H; exact H) | (simp only [hji17] at H ⊢; exact H)
     replace H := gd H; obtain ⟨c18b0, H⟩ := H
     replace H := gd H; obtain ⟨c19b0, H⟩ := H
     replace H := gd H; obtain ⟨c20b0, H⟩ := H
     by_cases c21 : x20_1 < (x6_1.length : Int)
     rotate_left
     ·rw [if_neg c21] at H
      exact absurd H (by simp)
     rw [if_pos c21] at H
     have c21b0 : decide (x20_1 < (x6_1.length : Int)) = true := decide_eq_true c21
     (try simp only [hl6_1] at c21b0)
     clear c21
     obtain ⟨y648, hy648⟩ : ∃ y_ : List Bool, y_ = (x6_1.set (x20_1 : Int).toNat (decide ((rd t640 (ji17)) ≤ x20_1))) := ⟨_, rfl⟩
     replace H : (impl_table.l0 k1 t640 y648 (y643.length : Int) (wrap64 (x20_1 + 1)) l0_0) = some r := by first | (rw [hy648]; with_reducible exact H) | (have H2_ := (Option.bind_some _ _).symm.trans H; rw [hy648]; with_reducible exact H2_) | (have H2_ := (Option.bind_some _ _).symm.trans H; with_reducible exact H2_) | with_reducible exact H | (rw [hy648]; exact H) | exact H
     have Ny648 := Aside0.mk hy648
     clear hy648
     have H' := Aside0.mk H
     clear H
     have hcz23_0 := bc BK638 0 (.slice (some ad639) l0_0.length c0_0)
     have hfz23_0 := blk_frozen BK638.out 0
     have p646 : 0 ≤ (0 : Int) := (by omega)
     have q646 : 0 < (l0_0.length : Int) := of_decide_eq_true (by first | (with_reducible assumption) | assumption)
     obtain ⟨ad646, e646, hx646_0⟩ := Kd.at_int HR0_0.out 0 p646 q646
     obtain rfl : ad639 = ad646 := (by injection e646)
     have qi646 : (0 < l0_0.length) = True := eq_true (by omega)
     (try rw [show ((0 : Int)).toNat = 0 from rfl] at hx646_0)
     (try rw [Addr.add_zero'] at hx646_0)
     replace hx646_0 := (HB.out.cell (World.block_lt_of_cell? w _ hx646_0)).trans hx646_0
     replace p646 := eq_true p646
     replace q646 := eq_true q646
     obtain ⟨Ao24, co24, eo24⟩ := Kd.R_slice HO_5.out
     subst eo24
     obtain ⟨⟨ad647, e647, hx647_0⟩, p647, q647⟩ := pq (Kd.at_int (Kd.R_reads' HO_5.out).2.2 (ji17))
     cases e647
     have p22 : 0 ≤ (x20_1 : Int) := of_decide_eq_true (by first | (with_reducible assumption) | assumption)
     have q22 : (x20_1 : Int) < ((x6_1.length : Int) : Int) := of_decide_eq_true (by first | (with_reducible assumption) | assumption)
     obtain ⟨go22, co22, eo22, gb22, gl22, cl22, HG22⟩ := Kd.R_form HO_6.out (by omega)
     (first | cases eo22 | (injection eo22 with ea_ en_ ec_; (first | subst ea_ | (injection ea_ with ea_; subst ea_)); subst ec_; clear en_))
     have GB22 := Aside0.mk gb22
     have GG22 := Aside0.mk HG22
     clear gb22 gl22 HG22
     obtain ⟨hx22_0, hf22_0⟩ := Kd.R_celln false HO_6.out (x20_1 : Int) p22 q22
     replace p22 := eq_true p22
     replace q22 := eq_true q22
     have HP25 := Kd.R_putg HO_6.out (x20_1 : Int) (decide ((rd t640 (ji17)) ≤ x20_1))
     go_wp2_with (first | ((with_reducible refine gate_store (t := 4) (p := 36) rfl ?_); refine store_event (t := 4) (p := 36) (v := ?vo_w26) (w1 := (wr.setCell ⟨go22, (x20_1 : Int).toNat, none⟩ (.bool (decide ((rd t640 (ji17)) ≤ x20_1))))) ?hg ?ho ?hn ?hr ?_; (case ho => rfl); (case hg => rfl); (case hn => rfl); (case hr => first | (go_simp; done) | (go_simp; rfl)); intro w26 hw; have hg : wr.grownBy w26 (some go22) := (by rw [hw]; exact HP25.2); have hp_ : Kd.R Kd.bool 4 w26 w.heap.size (fun _ => True) (.slice (some ⟨go22, 0, none⟩) x6_1.length co13) y648 := (by rw [hw, Ny648.out]; exact HP25.1); clear HP25; replace HO_5 := Aside0.mk (Kd.R_over' (v := (.slice (some ⟨go22, 0, none⟩) x6_1.length co13)) (ro HO_5.out) (Kd.R_typed HO_6.out) (by decide) hg); replace BK638 := Aside0.mk (blk_grown (g := gb638) (o := .cells #[.slice (some ad639) l0_0.length c0_0] 27 (0, 0)) (bo BK638.out) hg (Kd.R_ne HO_6.out BK638.out (by decide))); replace HO_6 := Aside0.mk (hp_); replace HB := Aside0.mk ((by rw [hw]; exact below_set (HB.out) GB22.out : Below w.heap.size w w26)); clear hg hw hp_))
     (try simp only [← hl6_1])
     go_roundg k1
     case measure => have := HK1.out; omega
     case rel => exact ⟨(y648), (wrap64 (x20_1 + 1)), rr, H', ⟨by have := HK1.out; omega⟩, ⟨by (try simp only [hl6_1]); (with_reducible repeat (first | apply Kd.R_alloc | apply Kd.R_drewN | apply Kd.R_drew)); exact HO_5.out⟩, ⟨by (try simp only [hl6_1]); (with_reducible repeat (first | apply Kd.R_alloc | apply Kd.R_drewN | apply Kd.R_drew)); exact HO_6.out⟩, ⟨by (try simp only [hl6_1]); (with_reducible repeat (first | refine blk_drewN ?_ _ | refine blk_drew ?_ | refine blk_alloc ?_ _)); exact BK638.out⟩, ⟨bw⟩⟩
   ·rw [if_neg c14] at H
    have c14b0 : decide (x20_1 < (y643.length : Int)) = false := decide_eq_false c14
    (try simp only [hl6_1] at c14b0)
    clear c14
    obtain rfl := Option.some.inj H
    go_wp2
    go_ret
    exact ⟨_, by first | rfl | (simp [errW_none, errW_some] <;> rfl) | (simp only [← hji5]; first | rfl | (simp [errW_none, errW_some] <;> rfl)) | (simp [*, errW_none, errW_some] <;> rfl), ro HO_6.out, bw⟩


/-! ### impl_Gaps: function 79 -/
def impl_Gaps.l0 : Nat → List Int → List Bool → Int → Int → Option (List Int)
 | 0, _, _, _, _ => none
 | k + 1, x3, x11, x12, x13 => if x13 < x12 then (if 0 ≤ x13 then (if x13 < (x11.length : Int) then (if rdOf false x11 x13 = true then (impl_Gaps.l0 k x3 x11 x12 (wrap64 (x13 + 1))) else (if x3.length < 17592186044416 then (impl_Gaps.l0 k (x3 ++ [x13]) x11 x12 (wrap64 (x13 + 1))) else (none))) else (none)) else (none)) else (some x3)
def impl_Gaps.f (k : Nat) (l0_0 : List Int) : Option (List Int) := (impl_IsSemigroup.f k l0_0).bind fun t650 => (if t650 = true then ((impl_table.f k l0_0 200).bind fun t654 => (impl_Gaps.l0 k (([] : List Int)) t654 (t654.length : Int) 0)) else (some ([] : List Int)))
set_option maxHeartbeats 8000000 in
set_option maxRecDepth 100000 in
theorem impl_Gaps.calls (k : Nat) (A0_0 : Option Addr) (c0_0 : Nat) (l0_0 : List Int) (r : List Int) (w : World) (hr0_0 : Kd.C (Kd.int .i64) w A0_0 l0_0.length l0_0) (hc0_0 : l0_0.length ≤ c0_0) (h : impl_Gaps.f k l0_0 = some r) :
  Calls Try.prog 79 #[.agg #[.slice A0_0 l0_0.length c0_0]] w fun e w' => ∃ v0_ : Value, e = .returned (v0_) ∧ Kd.R (Kd.int .i64) 3 w' w.heap.size (fun _ => True) v0_ r ∧ Below w.heap.size w w' := by
 have hu27 := Try.underlying27
 have HR0_0 := Aside0.mk hr0_0
 have HC0_0 := Aside0.mk hc0_0
 clear hr0_0 hc0_0
 have HB := Aside0.mk (Below.refl w.heap.size w)
 have H : ((impl_IsSemigroup.f k l0_0).bind fun t650 => (if t650 = true then ((impl_table.f k l0_0 200).bind fun t654 => (impl_Gaps.l0 k (([] : List Int)) t654 (t654.length : Int) 0)) else (some ([] : List Int)))) = some r := h
 clear h
 replace H := ga H; obtain ⟨t650, A2, H⟩ := H
 replace H := gb H; obtain ⟨rfl, H⟩ | ⟨rfl, H⟩ := H
 ·obtain ⟨y651, hy651⟩ : ∃ y_ : List Int, y_ = (([] : List Int)) := ⟨_, rfl⟩
  replace H : ((impl_table.f k l0_0 200).bind fun t654 => (impl_Gaps.l0 k y651 t654 (t654.length : Int) 0)) = some r := by first | (rw [hy651]; with_reducible exact H) | (have H2_ := (Option.bind_some _ _).symm.trans H; rw [hy651]; with_reducible exact H2_) | (have H2_ := (Option.bind_some _ _).symm.trans H; with_reducible exact H2_) | with_reducible exact H | (rw [hy651]; exact H) | exact H
  have Ny651 := Aside0.mk hy651
  clear hy651
  replace H := ga H; obtain ⟨t654, A4, H⟩ := H
  have H' := Aside0.mk H
  clear H
  go_enter Try.func79, Try.ntmps79
  go_wp2_with (first | ((with_reducible refine gate_dst (N := 1) rfl ?_); refine bx 1 #[.slice A0_0 l0_0.length c0_0] 27 ?_; intro gb649 hg w5 hbox hb; have BK649 := Aside0.mk (hbox); have GW649 := Aside0.mk (gs hg : w.heap.size ≤ gb649); have GE649 := Aside0.mk (gs hg : w.heap.size ≤ gb649); replace HB := Aside0.mk (below_step bw hb); clear hb hbox hg; have hcz6_0 := bc BK649 0 (.slice A0_0 l0_0.length c0_0); have hfz6_0 := blk_frozen BK649.out 0) | ((with_reducible refine gate_callee (f := 62) rfl ?_); refine gl (some 7) Try.func62 #[.agg #[.slice A0_0 l0_0.length c0_0]] ?_; (with_reducible refine (impl_IsSemigroup.calls k _ _ l0_0 true _ ?side1 ?side2 A2.out).mono ?_); (case side1 => exact co (Kd.C_below HR0_0.out HB.out)); (case side2 => exact HC0_0.out); rintro e w7 ⟨rfl, hb⟩; refine ⟨_, rfl, ?_⟩; replace BK649 := Aside0.mk (blk_below (g := gb649) (o := .cells #[.slice A0_0 l0_0.length c0_0] 27 (0, 0)) (bo BK649.out) hb); replace HB := Aside0.mk (below_step bw hb); clear hb) | ((with_reducible refine gate_dst (N := 9) rfl ?_); refine Kd.R_lit (Kd.int .i64) _ 3 ?hg (N := 9) ?hd (xs := ([] : List Int)) (inner := []) (ok := fun _ => True) (okp := fun _ => True) ?hr ?hp (fun _ hk => hk) trivial (Below.refl _ _) (Nat.le_refl _) (by simp) ?_; (case hd => rfl); (case hg => rfl); (case hr => first | (go_simp; done) | (go_simp; rfl)); (case hp => exact (Reps.none _ _)); intro v652 w8 ho9 hb hg_ hnew_; clear hg_ hnew_; (first | rw [← Ny651.out] at ho9 | (simp only [Int.reduceToNat] at ho9; rw [← Ny651.out] at ho9)); have HO653 := Aside0.mk (Kd.R_lower ho9 (below_size bw)); replace BK649 := Aside0.mk (blk_below (g := gb649) (o := .cells #[.slice A0_0 l0_0.length c0_0] 27 (0, 0)) (bo BK649.out) hb); replace HB := Aside0.mk (below_step bw hb); clear hb ho9; have hcz10_0 := bc BK649 0 (.slice A0_0 l0_0.length c0_0); have hfz10_0 := blk_frozen BK649.out 0) | ((with_reducible refine gate_callee (f := 121) rfl ?_); refine gl (some 11) Try.func121 #[.agg #[.slice A0_0 l0_0.length c0_0], .int .i64 200] ?_; (with_reducible refine (impl_table.calls k _ _ l0_0 200 t654 _ ?side1 ?side2 A4.out).mono ?_); (case side1 => exact co (Kd.C_below HR0_0.out HB.out)); (case side2 => exact HC0_0.out); rintro e w11 ⟨v655, rfl, ho0, hb⟩; refine ⟨_, rfl, ?_⟩; replace HO653 := Aside0.mk (Kd.R_below (ro HO653.out) hb); have HO656 := Aside0.mk (Kd.R_lower ho0 (below_size bw)); replace BK649 := Aside0.mk (blk_below (g := gb649) (o := .cells #[.slice A0_0 l0_0.length c0_0] 27 (0, 0)) (bo BK649.out) hb); replace HB := Aside0.mk (below_step bw hb); clear hb ho0; obtain ⟨Ao12, co12, eo12⟩ := Kd.R_slice HO656.out; subst eo12))
  go_loopg [3, 13] k (fun kq v3 v13 w' => ∃ (x3_1 : List Int) (x13_1 : Int), v13 = .int .i64 x13_1 ∧ Aside0 (impl_Gaps.l0 kq x3_1 t654 (t654.length : Int) x13_1 = some r) ∧ Aside0 (kq ≤ k) ∧ Aside0 (Kd.R (Kd.int .i64) 3 w' w.heap.size (fun _ => True) v3 x3_1) ∧ Aside0 (Kd.R Kd.bool 4 w' w.heap.size (fun _ => True) (.slice Ao12 t654.length co12) t654) ∧ Aside0 (w'.heap[gb649]? = some (.cells #[(.slice A0_0 l0_0.length c0_0)] 27 (0, 0))) ∧ Aside0 (Below w.heap.size w w'))
  case atStart => exact ⟨(y651), (0), rr, H', ⟨Nat.le_refl _⟩, ⟨ro HO653.out⟩, ⟨ro HO656.out⟩, ⟨bo BK649.out⟩, ⟨bw⟩⟩
  case round =>
   clear H'
   try clear hcz10_0; try clear hcz6_0; try clear hfz10_0; try clear hfz6_0
   obtain ⟨x3_1, x13_1, rfl, HA, HK1, HO_3, HO_11, BK649, HB⟩ := hrel
   cases gk with
   | zero => exact absurd HA.out (by simp [impl_Gaps.l0])
   | succ k1 =>
    have H := HA.out
    clear HA
    simp only [impl_Gaps.l0] at H
    replace H := gi H; obtain ⟨c13b0, H⟩ | ⟨c13b0, H⟩ := H
    ·replace H := gd H; obtain ⟨c14b0, H⟩ := H
     replace H := gd H; obtain ⟨c15b0, H⟩ := H
     obtain ⟨bq16, hbq16⟩ : ∃ b_ : Bool, b_ = (rdOf false t654 x13_1) := ⟨_, rfl⟩
     replace H : (if bq16 = true then (impl_Gaps.l0 k1 x3_1 t654 (t654.length : Int) (wrap64 (x13_1 + 1))) else (if x3_1.length < 17592186044416 then (impl_Gaps.l0 k1 (x3_1 ++ [x13_1]) t654 (t654.length : Int) (wrap64 (x13_1 + 1))) else (none))) = some r := by rw [← hbq16] at H; exact H
     have Nbq16 := Aside0.mk hbq16
     clear hbq16
     replace H := gb H; obtain ⟨rfl, H⟩ | ⟨rfl, H⟩ := H
     ·have H' := Aside0.mk H
      clear H
      obtain ⟨⟨ad657, e657, hx657_0⟩, p657, q657⟩ := pq (Kd.at_bool (Kd.R_reads' HO_11.out).2.2 x13_1)
      (try rw [← Nbq16.out] at hx657_0)
      cases e657
      go_wp2
      go_roundg k1
      case measure => have := HK1.out; omega
      case rel => exact ⟨(x3_1), (wrap64 (x13_1 + 1)), rr, H', ⟨by have := HK1.out; omega⟩, ⟨ro HO_3.out⟩, ⟨ro HO_11.out⟩, ⟨bo BK649.out⟩, ⟨bw⟩⟩
     ·by_cases c18 : x3_1.length < 17592186044416
      rotate_left
      ·rw [if_neg c18] at H
       exact absurd H (by simp)
      rw [if_pos c18] at H
      have LMc18 := Aside0.mk c18
      clear c18
      obtain ⟨y658, hy658⟩ : ∃ y_ : List Int, y_ = (x3_1 ++ [x13_1]) := ⟨_, rfl⟩
      replace H : (impl_Gaps.l0 k1 y658 t654 (t654.length : Int) (wrap64 (x13_1 + 1))) = some r := by first | (rw [hy658]; with_reducible exact H) | (have H2_ := (Option.bind_some _ _).symm.trans H; rw [hy658]; with_reducible exact H2_) | (have H2_ := (Option.bind_some _ _).symm.trans H; with_reducible exact H2_) | with_reducible exact H | (rw [hy658]; exact H) | exact H
      have Ny658 := Aside0.mk hy658
      clear hy658
      have H' := Aside0.mk H
      clear H
      obtain ⟨⟨ad657, e657, hx657_0⟩, p657, q657⟩ := pq (Kd.at_bool (Kd.R_reads' HO_11.out).2.2 x13_1)
      (try rw [← Nbq16.out] at hx657_0)
      cases e657
      go_wp2_with (first | ((with_reducible refine gate_builtin (b := .append) (xs := #[.tmp 20, .tmp 22]) rfl ?_); at_builtin; refine Kd.R_append (Kd.int .i64) (w0 := w) w.heap.size rfl (.tmp 20) (.tmp 22) 22 3 (.int .i64 0) 8 rfl Try.underlying22 info3 rfl (by decide) (by omega) u3 x3_1 x13_1 [.int .i64 x13_1] (fun _ => True) (fun _ => False) rfl rfl ?aP (fun _ hk => hk.elim) ?aF ?aO ?aB ?aS ?aL ?_; (case aP => exact rfl); (case aB => exact bw); (case aF => exact (fun _ _ => trivial)); (case aO => exact (ro HO_3.out)); (case aS => exact (below_size bw)); (case aL => have := LMc18.out; omega); intro v659 w19 ho hb hg hat; rw [← Ny658.out] at ho; replace HO_11 := Aside0.mk (Kd.R_over' (ro HO_11.out) (Kd.R_typed (ro HO_3.out)) (by decide) hg); replace BK649 := Aside0.mk (blk_grown (g := gb649) (o := .cells #[.slice A0_0 l0_0.length c0_0] 27 (0, 0)) (bo BK649.out) hg (Kd.R_ne HO_3.out BK649.out (by decide))); replace HB := Aside0.mk (hb); have HO660 := Aside0.mk (ho); clear HO_3 ho hb hg hat))
      go_roundg k1
      case measure => have := HK1.out; omega
      case rel => exact ⟨(y658), (wrap64 (x13_1 + 1)), rr, H', ⟨by have := HK1.out; omega⟩, ⟨ro HO660.out⟩, ⟨ro HO_11.out⟩, ⟨bo BK649.out⟩, ⟨bw⟩⟩
    ·obtain rfl := Option.some.inj H
     go_wp2
     go_ret
     exact ⟨_, re, ro HO_3.out, bw⟩
 ·obtain rfl := Option.some.inj H
  go_enter Try.func79, Try.ntmps79
  go_wp2_with (first | ((with_reducible refine gate_dst (N := 1) rfl ?_); refine bx 1 #[.slice A0_0 l0_0.length c0_0] 27 ?_; intro gb649 hg w20 hbox hb; have BK649 := Aside0.mk (hbox); have GW649 := Aside0.mk (gs hg : w.heap.size ≤ gb649); have GE649 := Aside0.mk (gs hg : w.heap.size ≤ gb649); replace HB := Aside0.mk (below_step bw hb); clear hb hbox hg; have hcz21_0 := bc BK649 0 (.slice A0_0 l0_0.length c0_0); have hfz21_0 := blk_frozen BK649.out 0) | ((with_reducible refine gate_callee (f := 62) rfl ?_); refine gl (some 7) Try.func62 #[.agg #[.slice A0_0 l0_0.length c0_0]] ?_; (with_reducible refine (impl_IsSemigroup.calls k _ _ l0_0 false _ ?side1 ?side2 A2.out).mono ?_); (case side1 => exact co (Kd.C_below HR0_0.out HB.out)); (case side2 => exact HC0_0.out); rintro e w22 ⟨rfl, hb⟩; refine ⟨_, rfl, ?_⟩; replace BK649 := Aside0.mk (blk_below (g := gb649) (o := .cells #[.slice A0_0 l0_0.length c0_0] 27 (0, 0)) (bo BK649.out) hb); replace HB := Aside0.mk (below_step bw hb); clear hb))
  go_ret
  exact ⟨_, re, by first | exact Kd.R_nil _ _ _ _ _ | exact Kd.N_nil _ _ _ _ _ | exact Kd.V_nil _ _ _ _ _ | exact Kd.Q_nil _ _ _ _ _ | exact Kd.S_nil _ _ _ _ _, bw⟩

end Go.Proofs.Ytlfdipnhlmjiaaa.C
