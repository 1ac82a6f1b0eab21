/- Contracts of functions of the program: spec_BettiElements, impl_BettiElements, laws_FnExactBettiElements. -/
import Derived.Test.YtlfdipnhlmjiaaaC0
import Derived.Test.YtlfdipnhlmjiaaaC1
import Derived.Test.YtlfdipnhlmjiaaaC3
import Derived.Test.YtlfdipnhlmjiaaaC5
import Derived.Test.YtlfdipnhlmjiaaaC7
import Derived.Test.YtlfdipnhlmjiaaaC9
namespace Go.Proofs.Ytlfdipnhlmjiaaa.C
open Go.RowKit Go.Proofs.YtlfdipnhlmjiaaaW.PrintWords Go.Proofs.YtlfdipnhlmjiaaaW.PrintLast Go.Proofs.YtlfdipnhlmjiaaaW.PrintMore
attribute [local go_sem] max2_int min2_int max_two min_two max_three min_three max_four min_four
set_option linter.unusedVariables false
set_option linter.unusedSimpArgs false

/-! ### spec_BettiElements: function 35 -/
def spec_BettiElements.l0 : Nat → Int → List Int → Int → List Int → Option (List Int × Bool)
 | 0, _, _, _, _ => none
 | k + 1, x4, x5, x6, x674000 => if x6 ≤ x4 then ((spec_ClassesOf.f k x674000 x6).bind fun t687 => (if (t687.length : Int) > 1 then (if x5.length < 17592186044416 then (spec_BettiElements.l0 k x4 (x5 ++ [x6]) (wrap64 (x6 + 1)) x674000) else (none)) else (spec_BettiElements.l0 k x4 x5 (wrap64 (x6 + 1)) x674000))) else (some (x5, true))
def spec_BettiElements.f (k : Nat) (l0_0 : List Int) : Option (List Int × Bool) := (spec_IsSemigroup.f k l0_0).bind fun t674 => (if t674 = true then ((spec_FrobeniusOf.f k l0_0).bind fun t678 => (if 0 < (l0_0.length : Int) then (if 0 ≤ (wrap64 ((l0_0.length : Int) - 1)) then (if (wrap64 ((l0_0.length : Int) - 1)) < (l0_0.length : Int) then (if (wrap64 ((wrap64 (t678 + (rd l0_0 0))) + (wrap64 (2 * (rd l0_0 (wrap64 ((l0_0.length : Int) - 1))))))) > 100 then (some ((([] : List Int)), false)) else (spec_BettiElements.l0 k (wrap64 ((wrap64 (t678 + (rd l0_0 0))) + (wrap64 (2 * (rd l0_0 (wrap64 ((l0_0.length : Int) - 1))))))) (([] : List Int)) 1 l0_0)) else (none)) else (none)) else (none))) else (some ((([] : List Int)), false)))
def spec_BettiElements.T3 : Bool × List (List Nat × List Nat) := (true, [([], []), ([0], [0]), ([], []), ([2], [2]), ([3], [3]), ([4], [4]), ([1, 5], [1, 5]), ([], []), ([7], [7]), ([], []), ([9], [9]), ([10], [10]), ([11], [11]), ([8, 12], [8, 12]), ([13], [13]), ([14], [14]), ([6, 15], [6, 15]), ([16, 1, 0, 1, 2, 3, 4, 5, 6, 7, 8, 9, 10, 11, 12, 13, 14, 15, 16], [16])])
def spec_BettiElements.B3 : List Nat := [0, 1, 0, 4, 12, 28, 63, 0, 128, 0, 512, 1536, 3584, 8064, 16256, 32640, 65535, 131071]
theorem spec_BettiElements.tab3 : rtab .any (opsOf Try.f35 3) = spec_BettiElements.T3 := by kernel_rfl
theorem spec_BettiElements.bits3 : waitsOk spec_BettiElements.T3.2 spec_BettiElements.B3 = true := by kernel_rfl
set_option maxHeartbeats 8000000 in
set_option maxRecDepth 100000 in
theorem spec_BettiElements.calls (k : Nat) (A0_0 : Option Addr) (c0_0 : Nat) (l0_0 : List Int) (r1 : List Int) (r2 : Bool) (w : World) (hr0_0 : Kd.C (Kd.int .i64) w A0_0 l0_0.length l0_0) (hc0_0 : l0_0.length ≤ c0_0) (h : spec_BettiElements.f k l0_0 = some (r1, r2)) :
  Calls Try.prog 35 #[.agg #[.slice A0_0 l0_0.length c0_0]] w fun e w' => ∃ v0_ : Value, e = .returned (.tuple #[v0_, .bool r2]) ∧ Kd.R (Kd.int .i64) 3 w' w.heap.size (fun _ => True) v0_ r1 ∧ Below w.heap.size w w' := by
 have hu27 := Try.underlying27
 have HR0_0 := am hr0_0
 have HC0_0 := am hc0_0
 clear hr0_0 hc0_0
 have HB := am (Below.refl w.heap.size w)
 have H : ((spec_IsSemigroup.f k l0_0).bind fun t674 => (if t674 = true then ((spec_FrobeniusOf.f k l0_0).bind fun t678 => (if 0 < (l0_0.length : Int) then (if 0 ≤ (wrap64 ((l0_0.length : Int) - 1)) then (if (wrap64 ((l0_0.length : Int) - 1)) < (l0_0.length : Int) then (if (wrap64 ((wrap64 (t678 + (rd l0_0 0))) + (wrap64 (2 * (rd l0_0 (wrap64 ((l0_0.length : Int) - 1))))))) > 100 then (some ((([] : List Int)), false)) else (spec_BettiElements.l0 k (wrap64 ((wrap64 (t678 + (rd l0_0 0))) + (wrap64 (2 * (rd l0_0 (wrap64 ((l0_0.length : Int) - 1))))))) (([] : List Int)) 1 l0_0)) else (none)) else (none)) else (none))) else (some ((([] : List Int)), false)))) = some (r1, r2) := h
 clear h
 replace H := ga H; obtain ⟨t674, A2, H⟩ := H
 replace H := gb H; obtain ⟨rfl, H⟩ | ⟨rfl, H⟩ := H
 ·replace H := ga H; obtain ⟨t678, A4, H⟩ := H
  replace H := gp H; obtain ⟨c5, H⟩ := H
  have c5b0 : decide (0 < (l0_0.length : Int)) = true := decide_eq_true c5
  have c5b1 : decide (0 < l0_0.length) = true := decide_eq_true (by omega)
  clear c5
  obtain ⟨ji6, hji6⟩ : ∃ j_ : Int, (wrap64 ((l0_0.length : Int) - 1)) = j_ := ⟨_, rfl⟩
  replace H : (if 0 ≤ (ji6) then (if (ji6) < (l0_0.length : Int) then (if (wrap64 ((wrap64 (t678 + (rd l0_0 0))) + (wrap64 (2 * (rd l0_0 (ji6)))))) > 100 then (some ((([] : List Int)), false)) else (spec_BettiElements.l0 k (wrap64 ((wrap64 (t678 + (rd l0_0 0))) + (wrap64 (2 * (rd l0_0 (ji6)))))) (([] : List Int)) 1 l0_0)) else (none)) else (none)) = some (r1, r2) := by first | (rw [hji6] at H; exact H) | (simp only [hji6] at H ⊢; exact H)
  (try rw [hji6] at A2)
  (try rw [hji6] at A4)
  have hji6w : (IntKind.i64.wrap ((l0_0.length : Int) - 1)) = ji6 := (i64_w _).trans hji6
  replace H := gd H; obtain ⟨c7b0, H⟩ := H
  replace H := gd H; obtain ⟨c8b0, H⟩ := H
  replace H := gj H; obtain ⟨c9, H⟩ | ⟨c9, H⟩ := H
  ·have c9b0 : decide (100 < (wrap64 ((wrap64 (t678 + (rd l0_0 0))) + (wrap64 (2 * (rd l0_0 (ji6))))))) = true := decide_eq_true c9
   clear c9
   obtain ⟨y681, hy681⟩ : ∃ y_ : List Int, y_ = (([] : List Int)) := ⟨_, rfl⟩
   replace H : (some (y681, false)) = some (r1, r2) := by first | (rw [hy681]; with_reducible first | exact H | exact bs H) | (with_reducible first | exact bs H | exact H) | (rw [hy681]; exact H) | exact H
   have Ny681 := am hy681
   clear hy681
   simp only [Option.some.injEq, Prod.mk.injEq] at H
   obtain ⟨rfl, rfl⟩ := H
   go_enter Try.func35, Try.ntmps35
   try go_wp2_with (first | ((with_reducible refine gate_dst (N := 1) rfl ?_); refine bx 1 #[.slice A0_0 l0_0.length c0_0] 27 ?_; intro gb673 hg w10 hbox hb; have BK673 := am (hbox); have GW673 := am (gs hg : w.heap.size ≤ gb673); have GE673 := GW673; replace HB := am (below_step bw hb); clear hb hbox hg; have hcz11_0 := bc BK673 0 (.slice A0_0 l0_0.length c0_0); have hfz11_0 := blk_frozen BK673.out 0) | ((with_reducible refine gate_callee (f := 58) rfl ?_); refine gl (some 8) Try.func58 #[.agg #[.slice A0_0 l0_0.length c0_0]] ?_; (with_reducible refine (spec_IsSemigroup.calls k _ _ l0_0 true _ ?side1 ?side2 A2.out).mono ?_); (case side1 => exact co (Kd.C_below HR0_0.out HB.out)); (case side2 => exact HC0_0.out); rintro e w12 ⟨rfl, hb⟩; refine ⟨_, rfl, ?_⟩; replace BK673 := kb BK673 hb; replace HB := am (below_step bw hb); clear hb))
   replace BK673 := bd BK673
   replace HB := am (below_drew1 HB.out)
   have p679 : 0 ≤ (0 : Int) := (by omega)
   have q679 : 0 < (l0_0.length : Int) := of_decide_eq_true (by first | (with_reducible assumption) | assumption)
   obtain ⟨ad679, e679, hx679_0⟩ := Kd.at_int HR0_0.out 0 p679 q679
   have hw679_0 := hx679_0
   (try rw [show ((0 : Int)).toNat = 0 from rfl] at hw679_0)
   (try rw [show 0 * 1 = 0 from rfl] at hw679_0)
   (try rw [Addr.add_zero'] at hw679_0)
   cases e679
   have qi679 : (0 < l0_0.length) = True := eq_true (by omega)
   (try rw [show ((0 : Int)).toNat = 0 from rfl] at hx679_0)
   (try rw [Addr.add_zero'] at hx679_0)
   replace hx679_0 := hw HB hx679_0
   replace p679 := eq_true p679
   replace q679 := eq_true q679
   obtain ⟨⟨ad680, e680, hx680_0⟩, p680, q680⟩ := pq (Kd.at_int HR0_0.out (ji6))
   have hw680_0 := hx680_0
   obtain rfl : ad679 = ad680 := (by injection e680)
   replace hx680_0 := hw HB hx680_0
   refine start_ (n := 18) (S := fun w' => w'.cell? ⟨gb673, 0, none⟩ = some (.slice (some ad679) l0_0.length c0_0) ∧ w'.cell? ad679 = some (.int .i64 (rd l0_0 0)) ∧ w'.cell? (ad679.add ((ji6)).toNat) = some (.int .i64 (rd l0_0 (ji6)))) (ds := []) (yz 18 0) (by kernel_rfl) rfl rfl ⟨bc BK673 0 _, ((HB.out.cell (World.block_lt_of_cell? w _ hw679_0)).trans hw679_0), ((HB.out.cell (World.block_lt_of_cell? w _ hw680_0)).trans hw680_0)⟩ (fun hHeld => ?_); refine with_tabW spec_BettiElements.tab3 spec_BettiElements.bits3 (fun HT_ HW_ => ?_)
   generalize w12.drew = w13 at BK673 HB hx679_0 hx680_0 hHeld ⊢
   refine pa 2 (some 13) (yz 18 4) HT_ ?_
   refine pa 7 (some 18) (yz 18 132) HT_ ?_
   refine pa 9 (some 20) (yz 18 644) HT_ ?_
   refine tk 0 (some 11) (yz 18 645) HT_ HW_ hHeld ?_
   refine tk 3 (some 14) (yz 18 653) HT_ HW_ hHeld ?_
   refine pa 4 (some 15) (yz 18 669) HT_ ?_
   refine tk 5 (some 16) (yz 18 701) HT_ HW_ hHeld ?_
   refine tk 8 (some 19) (yz 18 957) HT_ HW_ hHeld ?_
   refine tk 10 (some 21) (yz 18 1981) HT_ HW_ hHeld ?_
   refine pa 11 (some 22) (yz 18 4029) HT_ ?_
   refine pa 12 (some 23) (yz 18 8125) HT_ ?_
   refine pa 13 (some 24) (yz 18 16317) HT_ ?_
   refine tk 14 (some 25) (yz 18 32701) HT_ HW_ hHeld ?_
   refine pa 15 (some 26) (yz 18 65469) HT_ ?_
   refine oa 1 (some 12) (yz 18 65471) HT_ (fun K hK => ?_)
   refine gm Try.func65 #[.agg #[.slice (some ad679) l0_0.length c0_0]] ?_
   with_reducible refine (spec_FrobeniusOf.calls k _ _ l0_0 t678 _ ?side1 ?side2 A4.out).mono ?_
   (case side1 => exact co (Kd.C_below HR0_0.out HB.out))
   (case side2 => exact HC0_0.out)
   rintro e w14 ⟨rfl, hb⟩
   refine ⟨_, rfl, ?_⟩
   replace BK673 := kb BK673 hb
   replace HB := am (below_step bw hb)
   clear hb
   refine hK.out _ _ ⟨bc BK673 0 _, ((HB.out.cell (World.block_lt_of_cell? w _ hw679_0)).trans hw679_0), ((HB.out.cell (World.block_lt_of_cell? w _ hw680_0)).trans hw680_0)⟩ (fun hHeld => ?_)
   clear hK K
   refine nm (some 12) ?_
   refine pa 6 (some 17) (yz 18 65535) HT_ ?_
   refine pa 16 (some 27) (yz 18 131071) HT_ ?_
   refine pa 17 (some 4) (yz 18 262143) HT_ ?_
   refine done_ (done_of HT_.out (by kernel_rfl)) ?_
   try go_wp2_with (first | ((with_reducible refine gate_dst (N := 30) rfl ?_); refine Kd.R_lit (Kd.int .i64) _ 3 ?hg (N := 30) ?hd (xs := ([] : List Int)) (inner := []) (ok := fun _ => True) (okp := fun _ => True) ?hr ?hp (fun _ hk => hk) trivial (Below.refl _ _) (Nat.le_refl _) (by simp) ?_; (case hd => rfl); (case hg => rfl); (case hr => first | (go_simp; done) | (go_simp; rfl)); (case hp => exact (Reps.none _ _)); intro v682 w15 ho16 hb hg_ hnew_; clear hg_ hnew_; (first | rw [← Ny681.out] at ho16 | (simp only [Int.reduceToNat] at ho16; rw [← Ny681.out] at ho16)); have HO683 := am (Kd.R_lower ho16 (below_size bw)); replace BK673 := kb BK673 hb; replace HB := am (below_step bw hb); clear hb ho16))
   go_ret2
   exact ⟨_, by first | rfl | (simp [errW_none, errW_some] <;> rfl) | (simp only [← hji6]; first | rfl | (simp [errW_none, errW_some] <;> rfl)) | (simp [*, errW_none, errW_some] <;> rfl), ro HO683.out, bw⟩
  have c9b0 : decide (100 < (wrap64 ((wrap64 (t678 + (rd l0_0 0))) + (wrap64 (2 * (rd l0_0 (ji6))))))) = false := decide_eq_false c9
  clear c9
  obtain ⟨y684, hy684⟩ : ∃ y_ : List Int, y_ = (([] : List Int)) := ⟨_, rfl⟩
  replace H : (spec_BettiElements.l0 k (wrap64 ((wrap64 (t678 + (rd l0_0 0))) + (wrap64 (2 * (rd l0_0 (ji6)))))) y684 1 l0_0) = some (r1, r2) := by first | (rw [hy684]; with_reducible first | exact H | exact bs H) | (with_reducible first | exact bs H | exact H) | (rw [hy684]; exact H) | exact H
  have Ny684 := am hy684
  clear hy684
  have H' := am H
  clear H
  go_enter Try.func35, Try.ntmps35
  try go_wp2_with (first | ((with_reducible refine gate_dst (N := 1) rfl ?_); refine bx 1 #[.slice A0_0 l0_0.length c0_0] 27 ?_; intro gb673 hg w17 hbox hb; have BK673 := am (hbox); have GW673 := am (gs hg : w.heap.size ≤ gb673); have GE673 := GW673; replace HB := am (below_step bw hb); clear hb hbox hg; have hcz18_0 := bc BK673 0 (.slice A0_0 l0_0.length c0_0); have hfz18_0 := blk_frozen BK673.out 0) | ((with_reducible refine gate_callee (f := 58) rfl ?_); refine gl (some 8) Try.func58 #[.agg #[.slice A0_0 l0_0.length c0_0]] ?_; (with_reducible refine (spec_IsSemigroup.calls k _ _ l0_0 true _ ?side1 ?side2 A2.out).mono ?_); (case side1 => exact co (Kd.C_below HR0_0.out HB.out)); (case side2 => exact HC0_0.out); rintro e w19 ⟨rfl, hb⟩; refine ⟨_, rfl, ?_⟩; replace BK673 := kb BK673 hb; replace HB := am (below_step bw hb); clear hb))
  replace BK673 := bd BK673
  replace HB := am (below_drew1 HB.out)
  have p679 : 0 ≤ (0 : Int) := (by omega)
  have q679 : 0 < (l0_0.length : Int) := of_decide_eq_true (by first | (with_reducible assumption) | assumption)
  obtain ⟨ad679, e679, hx679_0⟩ := Kd.at_int HR0_0.out 0 p679 q679
  have hw679_0 := hx679_0
  (try rw [show ((0 : Int)).toNat = 0 from rfl] at hw679_0)
  (try rw [show 0 * 1 = 0 from rfl] at hw679_0)
  (try rw [Addr.add_zero'] at hw679_0)
  cases e679
  have qi679 : (0 < l0_0.length) = True := eq_true (by omega)
  (try rw [show ((0 : Int)).toNat = 0 from rfl] at hx679_0)
  (try rw [Addr.add_zero'] at hx679_0)
  replace hx679_0 := hw HB hx679_0
  replace p679 := eq_true p679
  replace q679 := eq_true q679
  obtain ⟨⟨ad680, e680, hx680_0⟩, p680, q680⟩ := pq (Kd.at_int HR0_0.out (ji6))
  have hw680_0 := hx680_0
  obtain rfl : ad679 = ad680 := (by injection e680)
  replace hx680_0 := hw HB hx680_0
  refine start_ (n := 18) (S := fun w' => w'.cell? ⟨gb673, 0, none⟩ = some (.slice (some ad679) l0_0.length c0_0) ∧ w'.cell? ad679 = some (.int .i64 (rd l0_0 0)) ∧ w'.cell? (ad679.add ((ji6)).toNat) = some (.int .i64 (rd l0_0 (ji6)))) (ds := []) (yz 18 0) (by kernel_rfl) rfl rfl ⟨bc BK673 0 _, ((HB.out.cell (World.block_lt_of_cell? w _ hw679_0)).trans hw679_0), ((HB.out.cell (World.block_lt_of_cell? w _ hw680_0)).trans hw680_0)⟩ (fun hHeld => ?_); refine with_tabW spec_BettiElements.tab3 spec_BettiElements.bits3 (fun HT_ HW_ => ?_)
  generalize w19.drew = w20 at BK673 HB hx679_0 hx680_0 hHeld ⊢
  refine pa 2 (some 13) (yz 18 4) HT_ ?_
  refine pa 7 (some 18) (yz 18 132) HT_ ?_
  refine pa 9 (some 20) (yz 18 644) HT_ ?_
  refine tk 0 (some 11) (yz 18 645) HT_ HW_ hHeld ?_
  refine tk 3 (some 14) (yz 18 653) HT_ HW_ hHeld ?_
  refine pa 4 (some 15) (yz 18 669) HT_ ?_
  refine tk 5 (some 16) (yz 18 701) HT_ HW_ hHeld ?_
  refine tk 8 (some 19) (yz 18 957) HT_ HW_ hHeld ?_
  refine tk 10 (some 21) (yz 18 1981) HT_ HW_ hHeld ?_
  refine pa 11 (some 22) (yz 18 4029) HT_ ?_
  refine pa 12 (some 23) (yz 18 8125) HT_ ?_
  refine pa 13 (some 24) (yz 18 16317) HT_ ?_
  refine tk 14 (some 25) (yz 18 32701) HT_ HW_ hHeld ?_
  refine pa 15 (some 26) (yz 18 65469) HT_ ?_
  refine oa 1 (some 12) (yz 18 65471) HT_ (fun K hK => ?_)
  refine gm Try.func65 #[.agg #[.slice (some ad679) l0_0.length c0_0]] ?_
  with_reducible refine (spec_FrobeniusOf.calls k _ _ l0_0 t678 _ ?side1 ?side2 A4.out).mono ?_
  (case side1 => exact co (Kd.C_below HR0_0.out HB.out))
  (case side2 => exact HC0_0.out)
  rintro e w21 ⟨rfl, hb⟩
  refine ⟨_, rfl, ?_⟩
  replace BK673 := kb BK673 hb
  replace HB := am (below_step bw hb)
  clear hb
  refine hK.out _ _ ⟨bc BK673 0 _, ((HB.out.cell (World.block_lt_of_cell? w _ hw679_0)).trans hw679_0), ((HB.out.cell (World.block_lt_of_cell? w _ hw680_0)).trans hw680_0)⟩ (fun hHeld => ?_)
  clear hK K
  refine nm (some 12) ?_
  refine pa 6 (some 17) (yz 18 65535) HT_ ?_
  refine pa 16 (some 27) (yz 18 131071) HT_ ?_
  refine pa 17 (some 4) (yz 18 262143) HT_ ?_
  refine done_ (done_of HT_.out (by kernel_rfl)) ?_
  try go_wp2_with (first | ((with_reducible refine gate_dst (N := 31) rfl ?_); refine Kd.R_lit (Kd.int .i64) _ 3 ?hg (N := 31) ?hd (xs := ([] : List Int)) (inner := []) (ok := fun _ => True) (okp := fun _ => True) ?hr ?hp (fun _ hk => hk) trivial (Below.refl _ _) (Nat.le_refl _) (by simp) ?_; (case hd => rfl); (case hg => rfl); (case hr => first | (go_simp; done) | (go_simp; rfl)); (case hp => exact (Reps.none _ _)); intro v685 w22 ho23 hb hg_ hnew_; clear hg_ hnew_; (first | rw [← Ny684.out] at ho23 | (simp only [Int.reduceToNat] at ho23; rw [← Ny684.out] at ho23)); have HO686 := am (Kd.R_lower ho23 (below_size bw)); replace BK673 := kb BK673 hb; replace HB := am (below_step bw hb); clear hb ho23))
  go_loopg [5, 6] k (fun kq v5 v6 w' => ∃ (x5_1 : List Int) (x6_1 : Int), v6 = .int .i64 x6_1 ∧ Aside0 (spec_BettiElements.l0 kq (wrap64 ((wrap64 (t678 + (rd l0_0 0))) + (wrap64 (2 * (rd l0_0 (ji6)))))) x5_1 x6_1 l0_0 = some (r1, r2)) ∧ Aside0 (kq ≤ k) ∧ Aside0 (Kd.R (Kd.int .i64) 3 w' w.heap.size (fun _ => True) v5 x5_1) ∧ Aside0 (w'.heap[gb673]? = some (.cells #[(.slice (some ad679) l0_0.length c0_0)] 27 (0, 0))) ∧ Aside0 (Below w.heap.size w w'))
  case atStart => exact ⟨(y684), (1), rr, H', ⟨Nat.le_refl _⟩, ⟨ro HO686.out⟩, ⟨bo BK673.out⟩, ⟨bw⟩⟩
  case round =>
   clear H'
   try clear c5; try clear c5b0; try clear c5b1; try clear c7b0; try clear c8b0; try clear c9; try clear c9b0; try clear hcz11_0; try clear hcz18_0; try clear hfz11_0; try clear hfz18_0; try clear hx679_0; try clear hx680_0; try clear p679; try clear p680; try clear q679; try clear q680
   obtain ⟨x5_1, x6_1, rfl, HA, HK1, HO_5, BK673, HB⟩ := hrel
   cases gk with
   | zero => exact absurd HA.out (by simp [spec_BettiElements.l0])
   | succ k1 =>
    have H := HA.out
    clear HA
    simp only [spec_BettiElements.l0] at H
    replace H := gi H; obtain ⟨c24b0, H⟩ | ⟨c24b0, H⟩ := H
    ·replace H := ga H; obtain ⟨t687, A25, H⟩ := H
     replace H := gj H; obtain ⟨c26, H⟩ | ⟨c26, H⟩ := H
     ·have c26b0 : decide (1 < (t687.length : Int)) = true := decide_eq_true c26
      have c26b1 : decide (1 < t687.length) = true := decide_eq_true (by omega)
      clear c26
      by_cases c27 : x5_1.length < 17592186044416
      rotate_left
      ·rw [if_neg c27] at H
       exact absurd H (by simp)
      rw [if_pos c27] at H
      have LMc27 := am c27
      clear c27
      obtain ⟨y690, hy690⟩ : ∃ y_ : List Int, y_ = (x5_1 ++ [x6_1]) := ⟨_, rfl⟩
      replace H : (spec_BettiElements.l0 k1 (wrap64 ((wrap64 (t678 + (rd l0_0 0))) + (wrap64 (2 * (rd l0_0 (ji6)))))) y690 (wrap64 (x6_1 + 1)) l0_0) = some (r1, r2) := by first | (rw [hy690]; with_reducible first | exact H | exact bs H) | (with_reducible first | exact bs H | exact H) | (rw [hy690]; exact H) | exact H
      have Ny690 := am hy690
      clear hy690
      have H' := am H
      clear H
      have hcz28_0 := bc BK673 0 (.slice (some ad679) l0_0.length c0_0)
      have hfz28_0 := blk_frozen BK673.out 0
      go_wp2_with (first | ((with_reducible refine gate_callee (f := 30) rfl ?_); refine gl (some 39) Try.func30 #[.agg #[.slice (some ad679) l0_0.length c0_0], .int .i64 x6_1] ?_; (with_reducible refine (spec_ClassesOf.calls k1 _ _ l0_0 x6_1 t687 _ ?side1 ?side2 A25.out).mono ?_); (case side1 => exact co (Kd.C_below HR0_0.out HB.out)); (case side2 => exact HC0_0.out); rintro e w29 ⟨v688, rfl, ho0, hb⟩; refine ⟨_, rfl, ?_⟩; have HO689 := am (Kd.N_lower (Kd.N_mono (ok' := fun k_ => some k_ ≠ (u5 : Value).ownBlock ∧ k_ ≠ gb673) ho0 (fun k_ hk_ => ⟨(Kd.fresh' (Kd.R_lt (ro HO_5.out)) k_ hk_), (Kd.freshB (g := gb673) (o := .cells #[.slice (some ad679) l0_0.length c0_0] 27 (0, 0)) (bo BK673.out) k_ hk_)⟩)) (below_size bw)); replace HO_5 := rK HO_5 hb; replace BK673 := kb BK673 hb; replace HB := am (below_step bw hb); clear hb ho0; obtain ⟨Ao30, co30, eo30⟩ := Kd.N_slice HO689.out; subst eo30) | ((with_reducible refine gate_builtin (b := .append) (xs := #[.tmp 42, .tmp 44]) rfl ?_); at_builtin; refine Kd.R_append (Kd.int .i64) (w0 := w) w.heap.size rfl (.tmp 42) (.tmp 44) 22 3 (.int .i64 0) 8 rfl Try.underlying22 info3 rfl (by decide) (by omega) u5 x5_1 x6_1 [.int .i64 x6_1] (fun _ => True) (fun _ => False) rfl rfl ?aP (fun _ hk => hk.elim) ?aF ?aO ?aB ?aS ?aL ?_; (case aP => exact rfl); (case aB => exact bw); (case aF => exact (fun _ _ => trivial)); (case aO => exact (ro HO_5.out)); (case aS => exact (below_size bw)); (case aL => have := LMc27.out; omega); intro v691 w31 ho hb hg hat; rw [← Ny690.out] at ho; replace BK673 := am (blk_grown (g := gb673) (o := .cells #[.slice (some ad679) l0_0.length c0_0] 27 (0, 0)) (bo BK673.out) hg (Kd.R_ne HO_5.out BK673.out (by decide))); replace HO689 := am (Kd.N_afterv (ok := (fun k_ => k_ ≠ gb673)) (by (with_reducible repeat (first | apply Kd.N_alloc | apply Kd.N_drewN | apply Kd.N_drew)); exact Kd.N_mono HO689.out (fun _ hk => by first | exact ⟨hk.2, hk.1⟩ | simp_all)) hg hat); replace HB := am (hb); have HO692 := am (ho); clear HO_5 ho hb hg hat))
      go_roundg k1
      case measure => have := HK1.out; omega
      case rel => exact ⟨(y690), (wrap64 (x6_1 + 1)), rr, H', ⟨by have := HK1.out; omega⟩, ⟨ro HO692.out⟩, ⟨bo BK673.out⟩, ⟨bw⟩⟩
     have c26b0 : decide (1 < (t687.length : Int)) = false := decide_eq_false c26
     have c26b1 : decide (1 < t687.length) = false := decide_eq_false (by omega)
     clear c26
     have H' := am H
     clear H
     have hcz32_0 := bc BK673 0 (.slice (some ad679) l0_0.length c0_0)
     have hfz32_0 := blk_frozen BK673.out 0
     go_wp2_with (first | ((with_reducible refine gate_callee (f := 30) rfl ?_); refine gl (some 39) Try.func30 #[.agg #[.slice (some ad679) l0_0.length c0_0], .int .i64 x6_1] ?_; (with_reducible refine (spec_ClassesOf.calls k1 _ _ l0_0 x6_1 t687 _ ?side1 ?side2 A25.out).mono ?_); (case side1 => exact co (Kd.C_below HR0_0.out HB.out)); (case side2 => exact HC0_0.out); rintro e w33 ⟨v688, rfl, ho0, hb⟩; refine ⟨_, rfl, ?_⟩; have HO689 := am (Kd.N_lower (Kd.N_mono (ok' := fun k_ => some k_ ≠ (u5 : Value).ownBlock ∧ k_ ≠ gb673) ho0 (fun k_ hk_ => ⟨(Kd.fresh' (Kd.R_lt (ro HO_5.out)) k_ hk_), (Kd.freshB (g := gb673) (o := .cells #[.slice (some ad679) l0_0.length c0_0] 27 (0, 0)) (bo BK673.out) k_ hk_)⟩)) (below_size bw)); replace HO_5 := rK HO_5 hb; replace BK673 := kb BK673 hb; replace HB := am (below_step bw hb); clear hb ho0; obtain ⟨Ao34, co34, eo34⟩ := Kd.N_slice HO689.out; subst eo34))
     go_roundg k1
     case measure => have := HK1.out; omega
     case rel => exact ⟨(x5_1), (wrap64 (x6_1 + 1)), rr, H', ⟨by have := HK1.out; omega⟩, ⟨ro HO_5.out⟩, ⟨bo BK673.out⟩, ⟨bw⟩⟩
    simp only [Option.some.injEq, Prod.mk.injEq] at H
    obtain ⟨rfl, rfl⟩ := H
    go_wp2
    go_ret2
    exact ⟨_, by first | rfl | (simp [errW_none, errW_some] <;> rfl) | (simp only [← hji6]; first | rfl | (simp [errW_none, errW_some] <;> rfl)) | (simp [*, errW_none, errW_some] <;> rfl), ro HO_5.out, bw⟩
 obtain ⟨y675, hy675⟩ : ∃ y_ : List Int, y_ = (([] : List Int)) := ⟨_, rfl⟩
 replace H : (some (y675, false)) = some (r1, r2) := by first | (rw [hy675]; with_reducible first | exact H | exact bs H) | (with_reducible first | exact bs H | exact H) | (rw [hy675]; exact H) | exact H
 have Ny675 := am hy675
 clear hy675
 simp only [Option.some.injEq, Prod.mk.injEq] at H
 obtain ⟨rfl, rfl⟩ := H
 go_enter Try.func35, Try.ntmps35
 go_wp2_with (first | ((with_reducible refine gate_dst (N := 1) rfl ?_); refine bx 1 #[.slice A0_0 l0_0.length c0_0] 27 ?_; intro gb673 hg w35 hbox hb; have BK673 := am (hbox); have GW673 := am (gs hg : w.heap.size ≤ gb673); have GE673 := GW673; replace HB := am (below_step bw hb); clear hb hbox hg; have hcz36_0 := bc BK673 0 (.slice A0_0 l0_0.length c0_0); have hfz36_0 := blk_frozen BK673.out 0) | ((with_reducible refine gate_callee (f := 58) rfl ?_); refine gl (some 8) Try.func58 #[.agg #[.slice A0_0 l0_0.length c0_0]] ?_; (with_reducible refine (spec_IsSemigroup.calls k _ _ l0_0 false _ ?side1 ?side2 A2.out).mono ?_); (case side1 => exact co (Kd.C_below HR0_0.out HB.out)); (case side2 => exact HC0_0.out); rintro e w37 ⟨rfl, hb⟩; refine ⟨_, rfl, ?_⟩; replace BK673 := kb BK673 hb; replace HB := am (below_step bw hb); clear hb) | ((with_reducible refine gate_dst (N := 10) rfl ?_); refine Kd.R_lit (Kd.int .i64) _ 3 ?hg (N := 10) ?hd (xs := ([] : List Int)) (inner := []) (ok := fun _ => True) (okp := fun _ => True) ?hr ?hp (fun _ hk => hk) trivial (Below.refl _ _) (Nat.le_refl _) (by simp) ?_; (case hd => rfl); (case hg => rfl); (case hr => first | (go_simp; done) | (go_simp; rfl)); (case hp => exact (Reps.none _ _)); intro v676 w38 ho39 hb hg_ hnew_; clear hg_ hnew_; (first | rw [← Ny675.out] at ho39 | (simp only [Int.reduceToNat] at ho39; rw [← Ny675.out] at ho39)); have HO677 := am (Kd.R_lower ho39 (below_size bw)); replace BK673 := kb BK673 hb; replace HB := am (below_step bw hb); clear hb ho39))
 go_ret2
 exact ⟨_, re, ro HO677.out, bw⟩


/-! ### impl_BettiElements: function 36 -/
def impl_BettiElements.l0 : Nat → Int → List Int → Int → List Int → Option (List Int × Bool)
 | 0, _, _, _, _ => none
 | k + 1, x4, x5, x6, x694000 => if x6 ≤ x4 then ((impl_ClassesOf.f k x694000 x6).bind fun t701 => (if (t701.length : Int) > 1 then (if x5.length < 17592186044416 then (impl_BettiElements.l0 k x4 (x5 ++ [x6]) (wrap64 (x6 + 1)) x694000) else (none)) else (impl_BettiElements.l0 k x4 x5 (wrap64 (x6 + 1)) x694000))) else (some (x5, true))
def impl_BettiElements.f (k : Nat) (l0_0 : List Int) : Option (List Int × Bool) := (impl_IsSemigroup.f k l0_0).bind fun t694 => (if t694 = true then ((impl_FrobeniusOf.f k l0_0).bind fun t695 => (if 0 < (l0_0.length : Int) then (if 0 ≤ (wrap64 ((l0_0.length : Int) - 1)) then (if (wrap64 ((l0_0.length : Int) - 1)) < (l0_0.length : Int) then (if (wrap64 ((wrap64 (t695 + (rd l0_0 0))) + (wrap64 (2 * (rd l0_0 (wrap64 ((l0_0.length : Int) - 1))))))) > 100 then (some (([] : List Int), false)) else (impl_BettiElements.l0 k (wrap64 ((wrap64 (t695 + (rd l0_0 0))) + (wrap64 (2 * (rd l0_0 (wrap64 ((l0_0.length : Int) - 1))))))) (([] : List Int)) 0 l0_0)) else (none)) else (none)) else (none))) else (some (([] : List Int), false)))
def impl_BettiElements.T3 : Bool × List (List Nat × List Nat) := (true, [([], []), ([0], [0]), ([], []), ([2], [2]), ([3], [3]), ([4], [4]), ([1, 5], [1, 5]), ([], []), ([7], [7]), ([], []), ([9], [9]), ([10], [10]), ([11], [11]), ([8, 12], [8, 12]), ([13], [13]), ([14], [14]), ([6, 15], [6, 15]), ([16, 1, 0, 1, 2, 3, 4, 5, 6, 7, 8, 9, 10, 11, 12, 13, 14, 15, 16], [16])])
def impl_BettiElements.B3 : List Nat := [0, 1, 0, 4, 12, 28, 63, 0, 128, 0, 512, 1536, 3584, 8064, 16256, 32640, 65535, 131071]
theorem impl_BettiElements.tab3 : rtab .any (opsOf Try.f36 3) = impl_BettiElements.T3 := by kernel_rfl
theorem impl_BettiElements.bits3 : waitsOk impl_BettiElements.T3.2 impl_BettiElements.B3 = true := by kernel_rfl
set_option maxHeartbeats 8000000 in
set_option maxRecDepth 100000 in
theorem impl_BettiElements.calls (k : Nat) (A0_0 : Option Addr) (c0_0 : Nat) (l0_0 : List Int) (r1 : List Int) (r2 : Bool) (w : World) (hr0_0 : Kd.C (Kd.int .i64) w A0_0 l0_0.length l0_0) (hc0_0 : l0_0.length ≤ c0_0) (h : impl_BettiElements.f k l0_0 = some (r1, r2)) :
  Calls Try.prog 36 #[.agg #[.slice A0_0 l0_0.length c0_0]] w fun e w' => ∃ v0_ : Value, e = .returned (.tuple #[v0_, .bool r2]) ∧ Kd.R (Kd.int .i64) 3 w' w.heap.size (fun _ => True) v0_ r1 ∧ Below w.heap.size w w' := by
 have hu27 := Try.underlying27
 have HR0_0 := am hr0_0
 have HC0_0 := am hc0_0
 clear hr0_0 hc0_0
 have HB := am (Below.refl w.heap.size w)
 have H : ((impl_IsSemigroup.f k l0_0).bind fun t694 => (if t694 = true then ((impl_FrobeniusOf.f k l0_0).bind fun t695 => (if 0 < (l0_0.length : Int) then (if 0 ≤ (wrap64 ((l0_0.length : Int) - 1)) then (if (wrap64 ((l0_0.length : Int) - 1)) < (l0_0.length : Int) then (if (wrap64 ((wrap64 (t695 + (rd l0_0 0))) + (wrap64 (2 * (rd l0_0 (wrap64 ((l0_0.length : Int) - 1))))))) > 100 then (some (([] : List Int), false)) else (impl_BettiElements.l0 k (wrap64 ((wrap64 (t695 + (rd l0_0 0))) + (wrap64 (2 * (rd l0_0 (wrap64 ((l0_0.length : Int) - 1))))))) (([] : List Int)) 0 l0_0)) else (none)) else (none)) else (none))) else (some (([] : List Int), false)))) = some (r1, r2) := h
 clear h
 replace H := ga H; obtain ⟨t694, A2, H⟩ := H
 replace H := gb H; obtain ⟨rfl, H⟩ | ⟨rfl, H⟩ := H
 ·replace H := ga H; obtain ⟨t695, A4, H⟩ := H
  replace H := gp H; obtain ⟨c5, H⟩ := H
  have c5b0 : decide (0 < (l0_0.length : Int)) = true := decide_eq_true c5
  have c5b1 : decide (0 < l0_0.length) = true := decide_eq_true (by omega)
  clear c5
  obtain ⟨ji6, hji6⟩ : ∃ j_ : Int, (wrap64 ((l0_0.length : Int) - 1)) = j_ := ⟨_, rfl⟩
  replace H : (if 0 ≤ (ji6) then (if (ji6) < (l0_0.length : Int) then (if (wrap64 ((wrap64 (t695 + (rd l0_0 0))) + (wrap64 (2 * (rd l0_0 (ji6)))))) > 100 then (some (([] : List Int), false)) else (impl_BettiElements.l0 k (wrap64 ((wrap64 (t695 + (rd l0_0 0))) + (wrap64 (2 * (rd l0_0 (ji6)))))) (([] : List Int)) 0 l0_0)) else (none)) else (none)) = some (r1, r2) := by first | (rw [hji6] at H; exact H) | (simp only [hji6] at H ⊢; exact H)
  (try rw [hji6] at A2)
  (try rw [hji6] at A4)
  have hji6w : (IntKind.i64.wrap ((l0_0.length : Int) - 1)) = ji6 := (i64_w _).trans hji6
  replace H := gd H; obtain ⟨c7b0, H⟩ := H
  replace H := gd H; obtain ⟨c8b0, H⟩ := H
  replace H := gj H; obtain ⟨c9, H⟩ | ⟨c9, H⟩ := H
  ·have c9b0 : decide (100 < (wrap64 ((wrap64 (t695 + (rd l0_0 0))) + (wrap64 (2 * (rd l0_0 (ji6))))))) = true := decide_eq_true c9
   clear c9
   simp only [Option.some.injEq, Prod.mk.injEq] at H
   obtain ⟨rfl, rfl⟩ := H
   go_enter Try.func36, Try.ntmps36
   try go_wp2_with (first | ((with_reducible refine gate_dst (N := 1) rfl ?_); refine bx 1 #[.slice A0_0 l0_0.length c0_0] 27 ?_; intro gb693 hg w10 hbox hb; have BK693 := am (hbox); have GW693 := am (gs hg : w.heap.size ≤ gb693); have GE693 := GW693; replace HB := am (below_step bw hb); clear hb hbox hg; have hcz11_0 := bc BK693 0 (.slice A0_0 l0_0.length c0_0); have hfz11_0 := blk_frozen BK693.out 0) | ((with_reducible refine gate_callee (f := 62) rfl ?_); refine gl (some 8) Try.func62 #[.agg #[.slice A0_0 l0_0.length c0_0]] ?_; (with_reducible refine (impl_IsSemigroup.calls k _ _ l0_0 true _ ?side1 ?side2 A2.out).mono ?_); (case side1 => exact co (Kd.C_below HR0_0.out HB.out)); (case side2 => exact HC0_0.out); rintro e w12 ⟨rfl, hb⟩; refine ⟨_, rfl, ?_⟩; replace BK693 := kb BK693 hb; replace HB := am (below_step bw hb); clear hb))
   replace BK693 := bd BK693
   replace HB := am (below_drew1 HB.out)
   have p696 : 0 ≤ (0 : Int) := (by omega)
   have q696 : 0 < (l0_0.length : Int) := of_decide_eq_true (by first | (with_reducible assumption) | assumption)
   obtain ⟨ad696, e696, hx696_0⟩ := Kd.at_int HR0_0.out 0 p696 q696
   have hw696_0 := hx696_0
   (try rw [show ((0 : Int)).toNat = 0 from rfl] at hw696_0)
   (try rw [show 0 * 1 = 0 from rfl] at hw696_0)
   (try rw [Addr.add_zero'] at hw696_0)
   cases e696
   have qi696 : (0 < l0_0.length) = True := eq_true (by omega)
   (try rw [show ((0 : Int)).toNat = 0 from rfl] at hx696_0)
   (try rw [Addr.add_zero'] at hx696_0)
   replace hx696_0 := hw HB hx696_0
   replace p696 := eq_true p696
   replace q696 := eq_true q696
   obtain ⟨⟨ad697, e697, hx697_0⟩, p697, q697⟩ := pq (Kd.at_int HR0_0.out (ji6))
   have hw697_0 := hx697_0
   obtain rfl : ad696 = ad697 := (by injection e697)
   replace hx697_0 := hw HB hx697_0
   refine start_ (n := 18) (S := fun w' => w'.cell? ⟨gb693, 0, none⟩ = some (.slice (some ad696) l0_0.length c0_0) ∧ w'.cell? ad696 = some (.int .i64 (rd l0_0 0)) ∧ w'.cell? (ad696.add ((ji6)).toNat) = some (.int .i64 (rd l0_0 (ji6)))) (ds := []) (yz 18 0) (by kernel_rfl) rfl rfl ⟨bc BK693 0 _, ((HB.out.cell (World.block_lt_of_cell? w _ hw696_0)).trans hw696_0), ((HB.out.cell (World.block_lt_of_cell? w _ hw697_0)).trans hw697_0)⟩ (fun hHeld => ?_); refine with_tabW impl_BettiElements.tab3 impl_BettiElements.bits3 (fun HT_ HW_ => ?_)
   generalize w12.drew = w13 at BK693 HB hx696_0 hx697_0 hHeld ⊢
   refine pa 2 (some 12) (yz 18 4) HT_ ?_
   refine pa 7 (some 17) (yz 18 132) HT_ ?_
   refine pa 9 (some 19) (yz 18 644) HT_ ?_
   refine tk 0 (some 10) (yz 18 645) HT_ HW_ hHeld ?_
   refine tk 3 (some 13) (yz 18 653) HT_ HW_ hHeld ?_
   refine pa 4 (some 14) (yz 18 669) HT_ ?_
   refine tk 5 (some 15) (yz 18 701) HT_ HW_ hHeld ?_
   refine tk 8 (some 18) (yz 18 957) HT_ HW_ hHeld ?_
   refine tk 10 (some 20) (yz 18 1981) HT_ HW_ hHeld ?_
   refine pa 11 (some 21) (yz 18 4029) HT_ ?_
   refine pa 12 (some 22) (yz 18 8125) HT_ ?_
   refine pa 13 (some 23) (yz 18 16317) HT_ ?_
   refine tk 14 (some 24) (yz 18 32701) HT_ HW_ hHeld ?_
   refine pa 15 (some 25) (yz 18 65469) HT_ ?_
   refine oa 1 (some 11) (yz 18 65471) HT_ (fun K hK => ?_)
   refine gm Try.func70 #[.agg #[.slice (some ad696) l0_0.length c0_0]] ?_
   with_reducible refine (impl_FrobeniusOf.calls k _ _ l0_0 t695 _ ?side1 ?side2 A4.out).mono ?_
   (case side1 => exact co (Kd.C_below HR0_0.out HB.out))
   (case side2 => exact HC0_0.out)
   rintro e w14 ⟨rfl, hb⟩
   refine ⟨_, rfl, ?_⟩
   replace BK693 := kb BK693 hb
   replace HB := am (below_step bw hb)
   clear hb
   refine hK.out _ _ ⟨bc BK693 0 _, ((HB.out.cell (World.block_lt_of_cell? w _ hw696_0)).trans hw696_0), ((HB.out.cell (World.block_lt_of_cell? w _ hw697_0)).trans hw697_0)⟩ (fun hHeld => ?_)
   clear hK K
   refine nm (some 11) ?_
   refine pa 6 (some 16) (yz 18 65535) HT_ ?_
   refine pa 16 (some 26) (yz 18 131071) HT_ ?_
   refine pa 17 (some 4) (yz 18 262143) HT_ ?_
   refine done_ (done_of HT_.out (by kernel_rfl)) ?_
   try go_wp2
   go_ret2
   exact ⟨_, by first | rfl | (simp [errW_none, errW_some] <;> rfl) | (simp only [← hji6]; first | rfl | (simp [errW_none, errW_some] <;> rfl)) | (simp [*, errW_none, errW_some] <;> rfl), by first | exact Kd.R_nil _ _ _ _ _ | exact Kd.N_nil _ _ _ _ _ | exact Kd.V_nil _ _ _ _ _ | exact Kd.Q_nil _ _ _ _ _ | exact Kd.S_nil _ _ _ _ _, bw⟩
  have c9b0 : decide (100 < (wrap64 ((wrap64 (t695 + (rd l0_0 0))) + (wrap64 (2 * (rd l0_0 (ji6))))))) = false := decide_eq_false c9
  clear c9
  obtain ⟨y698, hy698⟩ : ∃ y_ : List Int, y_ = (([] : List Int)) := ⟨_, rfl⟩
  replace H : (impl_BettiElements.l0 k (wrap64 ((wrap64 (t695 + (rd l0_0 0))) + (wrap64 (2 * (rd l0_0 (ji6)))))) y698 0 l0_0) = some (r1, r2) := by first | (rw [hy698]; with_reducible first | exact H | exact bs H) | (with_reducible first | exact bs H | exact H) | (rw [hy698]; exact H) | exact H
  have Ny698 := am hy698
  clear hy698
  have H' := am H
  clear H
  go_enter Try.func36, Try.ntmps36
  try go_wp2_with (first | ((with_reducible refine gate_dst (N := 1) rfl ?_); refine bx 1 #[.slice A0_0 l0_0.length c0_0] 27 ?_; intro gb693 hg w15 hbox hb; have BK693 := am (hbox); have GW693 := am (gs hg : w.heap.size ≤ gb693); have GE693 := GW693; replace HB := am (below_step bw hb); clear hb hbox hg; have hcz16_0 := bc BK693 0 (.slice A0_0 l0_0.length c0_0); have hfz16_0 := blk_frozen BK693.out 0) | ((with_reducible refine gate_callee (f := 62) rfl ?_); refine gl (some 8) Try.func62 #[.agg #[.slice A0_0 l0_0.length c0_0]] ?_; (with_reducible refine (impl_IsSemigroup.calls k _ _ l0_0 true _ ?side1 ?side2 A2.out).mono ?_); (case side1 => exact co (Kd.C_below HR0_0.out HB.out)); (case side2 => exact HC0_0.out); rintro e w17 ⟨rfl, hb⟩; refine ⟨_, rfl, ?_⟩; replace BK693 := kb BK693 hb; replace HB := am (below_step bw hb); clear hb))
  replace BK693 := bd BK693
  replace HB := am (below_drew1 HB.out)
  have p696 : 0 ≤ (0 : Int) := (by omega)
  have q696 : 0 < (l0_0.length : Int) := of_decide_eq_true (by first | (with_reducible assumption) | assumption)
  obtain ⟨ad696, e696, hx696_0⟩ := Kd.at_int HR0_0.out 0 p696 q696
  have hw696_0 := hx696_0
  (try rw [show ((0 : Int)).toNat = 0 from rfl] at hw696_0)
  (try rw [show 0 * 1 = 0 from rfl] at hw696_0)
  (try rw [Addr.add_zero'] at hw696_0)
  cases e696
  have qi696 : (0 < l0_0.length) = True := eq_true (by omega)
  (try rw [show ((0 : Int)).toNat = 0 from rfl] at hx696_0)
  (try rw [Addr.add_zero'] at hx696_0)
  replace hx696_0 := hw HB hx696_0
  replace p696 := eq_true p696
  replace q696 := eq_true q696
  obtain ⟨⟨ad697, e697, hx697_0⟩, p697, q697⟩ := pq (Kd.at_int HR0_0.out (ji6))
  have hw697_0 := hx697_0
  obtain rfl : ad696 = ad697 := (by injection e697)
  replace hx697_0 := hw HB hx697_0
  refine start_ (n := 18) (S := fun w' => w'.cell? ⟨gb693, 0, none⟩ = some (.slice (some ad696) l0_0.length c0_0) ∧ w'.cell? ad696 = some (.int .i64 (rd l0_0 0)) ∧ w'.cell? (ad696.add ((ji6)).toNat) = some (.int .i64 (rd l0_0 (ji6)))) (ds := []) (yz 18 0) (by kernel_rfl) rfl rfl ⟨bc BK693 0 _, ((HB.out.cell (World.block_lt_of_cell? w _ hw696_0)).trans hw696_0), ((HB.out.cell (World.block_lt_of_cell? w _ hw697_0)).trans hw697_0)⟩ (fun hHeld => ?_); refine with_tabW impl_BettiElements.tab3 impl_BettiElements.bits3 (fun HT_ HW_ => ?_)
  generalize w17.drew = w18 at BK693 HB hx696_0 hx697_0 hHeld ⊢
  refine pa 2 (some 12) (yz 18 4) HT_ ?_
  refine pa 7 (some 17) (yz 18 132) HT_ ?_
  refine pa 9 (some 19) (yz 18 644) HT_ ?_
  refine tk 0 (some 10) (yz 18 645) HT_ HW_ hHeld ?_
  refine tk 3 (some 13) (yz 18 653) HT_ HW_ hHeld ?_
  refine pa 4 (some 14) (yz 18 669) HT_ ?_
  refine tk 5 (some 15) (yz 18 701) HT_ HW_ hHeld ?_
  refine tk 8 (some 18) (yz 18 957) HT_ HW_ hHeld ?_
  refine tk 10 (some 20) (yz 18 1981) HT_ HW_ hHeld ?_
  refine pa 11 (some 21) (yz 18 4029) HT_ ?_
  refine pa 12 (some 22) (yz 18 8125) HT_ ?_
  refine pa 13 (some 23) (yz 18 16317) HT_ ?_
  refine tk 14 (some 24) (yz 18 32701) HT_ HW_ hHeld ?_
  refine pa 15 (some 25) (yz 18 65469) HT_ ?_
  refine oa 1 (some 11) (yz 18 65471) HT_ (fun K hK => ?_)
  refine gm Try.func70 #[.agg #[.slice (some ad696) l0_0.length c0_0]] ?_
  with_reducible refine (impl_FrobeniusOf.calls k _ _ l0_0 t695 _ ?side1 ?side2 A4.out).mono ?_
  (case side1 => exact co (Kd.C_below HR0_0.out HB.out))
  (case side2 => exact HC0_0.out)
  rintro e w19 ⟨rfl, hb⟩
  refine ⟨_, rfl, ?_⟩
  replace BK693 := kb BK693 hb
  replace HB := am (below_step bw hb)
  clear hb
  refine hK.out _ _ ⟨bc BK693 0 _, ((HB.out.cell (World.block_lt_of_cell? w _ hw696_0)).trans hw696_0), ((HB.out.cell (World.block_lt_of_cell? w _ hw697_0)).trans hw697_0)⟩ (fun hHeld => ?_)
  clear hK K
  refine nm (some 11) ?_
  refine pa 6 (some 16) (yz 18 65535) HT_ ?_
  refine pa 16 (some 26) (yz 18 131071) HT_ ?_
  refine pa 17 (some 4) (yz 18 262143) HT_ ?_
  refine done_ (done_of HT_.out (by kernel_rfl)) ?_
  try go_wp2_with (first | ((with_reducible refine gate_dst (N := 29) rfl ?_); refine Kd.R_lit (Kd.int .i64) _ 3 ?hg (N := 29) ?hd (xs := ([] : List Int)) (inner := []) (ok := fun _ => True) (okp := fun _ => True) ?hr ?hp (fun _ hk => hk) trivial (Below.refl _ _) (Nat.le_refl _) (by simp) ?_; (case hd => rfl); (case hg => rfl); (case hr => first | (go_simp; done) | (go_simp; rfl)); (case hp => exact (Reps.none _ _)); intro v699 w20 ho21 hb hg_ hnew_; clear hg_ hnew_; (first | rw [← Ny698.out] at ho21 | (simp only [Int.reduceToNat] at ho21; rw [← Ny698.out] at ho21)); have HO700 := am (Kd.R_lower ho21 (below_size bw)); replace BK693 := kb BK693 hb; replace HB := am (below_step bw hb); clear hb ho21))
  go_loopg [5, 6] k (fun kq v5 v6 w' => ∃ (x5_1 : List Int) (x6_1 : Int), v6 = .int .i64 x6_1 ∧ Aside0 (impl_BettiElements.l0 kq (wrap64 ((wrap64 (t695 + (rd l0_0 0))) + (wrap64 (2 * (rd l0_0 (ji6)))))) x5_1 x6_1 l0_0 = some (r1, r2)) ∧ Aside0 (kq ≤ k) ∧ Aside0 (Kd.R (Kd.int .i64) 3 w' w.heap.size (fun _ => True) v5 x5_1) ∧ Aside0 (w'.heap[gb693]? = some (.cells #[(.slice (some ad696) l0_0.length c0_0)] 27 (0, 0))) ∧ Aside0 (Below w.heap.size w w'))
  case atStart => exact ⟨(y698), (0), rr, H', ⟨Nat.le_refl _⟩, ⟨ro HO700.out⟩, ⟨bo BK693.out⟩, ⟨bw⟩⟩
  case round =>
   clear H'
   try clear c5; try clear c5b0; try clear c5b1; try clear c7b0; try clear c8b0; try clear c9; try clear c9b0; try clear hcz11_0; try clear hcz16_0; try clear hfz11_0; try clear hfz16_0; try clear hx696_0; try clear hx697_0; try clear p696; try clear p697; try clear q696; try clear q697
   obtain ⟨x5_1, x6_1, rfl, HA, HK1, HO_5, BK693, HB⟩ := hrel
   cases gk with
   | zero => exact absurd HA.out (by simp [impl_BettiElements.l0])
   | succ k1 =>
    have H := HA.out
    clear HA
    simp only [impl_BettiElements.l0] at H
    replace H := gi H; obtain ⟨c22b0, H⟩ | ⟨c22b0, H⟩ := H
    ·replace H := ga H; obtain ⟨t701, A23, H⟩ := H
     replace H := gj H; obtain ⟨c24, H⟩ | ⟨c24, H⟩ := H
     ·have c24b0 : decide (1 < (t701.length : Int)) = true := decide_eq_true c24
      have c24b1 : decide (1 < t701.length) = true := decide_eq_true (by omega)
      clear c24
      by_cases c25 : x5_1.length < 17592186044416
      rotate_left
      ·rw [if_neg c25] at H
       exact absurd H (by simp)
      rw [if_pos c25] at H
      have LMc25 := am c25
      clear c25
      obtain ⟨y704, hy704⟩ : ∃ y_ : List Int, y_ = (x5_1 ++ [x6_1]) := ⟨_, rfl⟩
      replace H : (impl_BettiElements.l0 k1 (wrap64 ((wrap64 (t695 + (rd l0_0 0))) + (wrap64 (2 * (rd l0_0 (ji6)))))) y704 (wrap64 (x6_1 + 1)) l0_0) = some (r1, r2) := by first | (rw [hy704]; with_reducible first | exact H | exact bs H) | (with_reducible first | exact bs H | exact H) | (rw [hy704]; exact H) | exact H
      have Ny704 := am hy704
      clear hy704
      have H' := am H
      clear H
      have hcz26_0 := bc BK693 0 (.slice (some ad696) l0_0.length c0_0)
      have hfz26_0 := blk_frozen BK693.out 0
      go_wp2_with (first | ((with_reducible refine gate_callee (f := 31) rfl ?_); refine gl (some 37) Try.func31 #[.agg #[.slice (some ad696) l0_0.length c0_0], .int .i64 x6_1] ?_; (with_reducible refine (impl_ClassesOf.calls k1 _ _ l0_0 x6_1 t701 _ ?side1 ?side2 A23.out).mono ?_); (case side1 => exact co (Kd.C_below HR0_0.out HB.out)); (case side2 => exact HC0_0.out); rintro e w27 ⟨v702, rfl, ho0, hb⟩; refine ⟨_, rfl, ?_⟩; have HO703 := am (Kd.R_lower (Kd.R_new' ho0 (Kd.R_lt (ro HO_5.out))) (below_size bw)); replace HO_5 := rK HO_5 hb; replace BK693 := kb BK693 hb; replace HB := am (below_step bw hb); clear hb ho0; obtain ⟨Ao28, co28, eo28⟩ := Kd.R_slice HO703.out; subst eo28) | ((with_reducible refine gate_builtin (b := .append) (xs := #[.tmp 40, .tmp 42]) rfl ?_); at_builtin; refine Kd.R_append (Kd.int .i64) (w0 := w) w.heap.size rfl (.tmp 40) (.tmp 42) 22 3 (.int .i64 0) 8 rfl Try.underlying22 info3 rfl (by decide) (by omega) u5 x5_1 x6_1 [.int .i64 x6_1] (fun _ => True) (fun _ => False) rfl rfl ?aP (fun _ hk => hk.elim) ?aF ?aO ?aB ?aS ?aL ?_; (case aP => exact rfl); (case aB => exact bw); (case aF => exact (fun _ _ => trivial)); (case aO => exact (ro HO_5.out)); (case aS => exact (below_size bw)); (case aL => have := LMc25.out; omega); intro v705 w29 ho hb hg hat; rw [← Ny704.out] at ho; replace BK693 := am (blk_grown (g := gb693) (o := .cells #[.slice (some ad696) l0_0.length c0_0] 27 (0, 0)) (bo BK693.out) hg (Kd.R_ne HO_5.out BK693.out (by decide))); replace HO703 := am (Kd.R_after (ok := (fun _ => True)) (ro HO703.out) hg hat); replace HB := am (hb); have HO706 := am (ho); clear HO_5 ho hb hg hat))
      go_roundg k1
      case measure => have := HK1.out; omega
      case rel => exact ⟨(y704), (wrap64 (x6_1 + 1)), rr, H', ⟨by have := HK1.out; omega⟩, ⟨ro HO706.out⟩, ⟨bo BK693.out⟩, ⟨bw⟩⟩
     have c24b0 : decide (1 < (t701.length : Int)) = false := decide_eq_false c24
     have c24b1 : decide (1 < t701.length) = false := decide_eq_false (by omega)
     clear c24
     have H' := am H
     clear H
     have hcz30_0 := bc BK693 0 (.slice (some ad696) l0_0.length c0_0)
     have hfz30_0 := blk_frozen BK693.out 0
     go_wp2_with (first | ((with_reducible refine gate_callee (f := 31) rfl ?_); refine gl (some 37) Try.func31 #[.agg #[.slice (some ad696) l0_0.length c0_0], .int .i64 x6_1] ?_; (with_reducible refine (impl_ClassesOf.calls k1 _ _ l0_0 x6_1 t701 _ ?side1 ?side2 A23.out).mono ?_); (case side1 => exact co (Kd.C_below HR0_0.out HB.out)); (case side2 => exact HC0_0.out); rintro e w31 ⟨v702, rfl, ho0, hb⟩; refine ⟨_, rfl, ?_⟩; have HO703 := am (Kd.R_lower (Kd.R_new' ho0 (Kd.R_lt (ro HO_5.out))) (below_size bw)); replace HO_5 := rK HO_5 hb; replace BK693 := kb BK693 hb; replace HB := am (below_step bw hb); clear hb ho0; obtain ⟨Ao32, co32, eo32⟩ := Kd.R_slice HO703.out; subst eo32))
     go_roundg k1
     case measure => have := HK1.out; omega
     case rel => exact ⟨(x5_1), (wrap64 (x6_1 + 1)), rr, H', ⟨by have := HK1.out; omega⟩, ⟨ro HO_5.out⟩, ⟨bo BK693.out⟩, ⟨bw⟩⟩
    simp only [Option.some.injEq, Prod.mk.injEq] at H
    obtain ⟨rfl, rfl⟩ := H
    go_wp2
    go_ret2
    exact ⟨_, by first | rfl | (simp [errW_none, errW_some] <;> rfl) | (simp only [← hji6]; first | rfl | (simp [errW_none, errW_some] <;> rfl)) | (simp [*, errW_none, errW_some] <;> rfl), ro HO_5.out, bw⟩
 simp only [Option.some.injEq, Prod.mk.injEq] at H
 obtain ⟨rfl, rfl⟩ := H
 go_enter Try.func36, Try.ntmps36
 go_wp2_with (first | ((with_reducible refine gate_dst (N := 1) rfl ?_); refine bx 1 #[.slice A0_0 l0_0.length c0_0] 27 ?_; intro gb693 hg w33 hbox hb; have BK693 := am (hbox); have GW693 := am (gs hg : w.heap.size ≤ gb693); have GE693 := GW693; replace HB := am (below_step bw hb); clear hb hbox hg; have hcz34_0 := bc BK693 0 (.slice A0_0 l0_0.length c0_0); have hfz34_0 := blk_frozen BK693.out 0) | ((with_reducible refine gate_callee (f := 62) rfl ?_); refine gl (some 8) Try.func62 #[.agg #[.slice A0_0 l0_0.length c0_0]] ?_; (with_reducible refine (impl_IsSemigroup.calls k _ _ l0_0 false _ ?side1 ?side2 A2.out).mono ?_); (case side1 => exact co (Kd.C_below HR0_0.out HB.out)); (case side2 => exact HC0_0.out); rintro e w35 ⟨rfl, hb⟩; refine ⟨_, rfl, ?_⟩; replace BK693 := kb BK693 hb; replace HB := am (below_step bw hb); clear hb))
 go_ret2
 exact ⟨_, re, by first | exact Kd.R_nil _ _ _ _ _ | exact Kd.N_nil _ _ _ _ _ | exact Kd.V_nil _ _ _ _ _ | exact Kd.Q_nil _ _ _ _ _ | exact Kd.S_nil _ _ _ _ _, bw⟩


/-! ### laws_FnExactBettiElements: function 8 -/
mutual
def laws_FnExactBettiElements.j0 : Nat → List Int → Bool → List Int → Bool → Bool → List Int → List Int → Option (Bool)
 | 0, _, _, _, _, _, _, _ => none
 | k + 1, x4, x5, x7, x8, x40, x708000, x720000 => if x40 = true then (some false) else ((laws_toSemigroup.f k x708000).bind fun t725 => ((laws_eqSemigroup.f k x720000 t725).bind fun t728 => (if t728 = true then ((laws_markSemigroup.f k x720000 1).bind fun bt729 => (if bt729.1 < 0 then (laws_FnExactBettiElements.j1 k x4 x5 x7 true x708000) else ((laws_eqIntS.f k x7 x4).bind fun t731 => (if t731 = true then (laws_FnExactBettiElements.j1 k x4 x5 x7 (x8 != x5) x708000) else (laws_FnExactBettiElements.j1 k x4 x5 x7 true x708000))))) else (some false))))
def laws_FnExactBettiElements.j1 : Nat → List Int → Bool → List Int → Bool → List Int → Option (Bool)
 | 0, _, _, _, _, _ => none
 | k + 1, x4, x5, x7, x61, x708000 => if x61 = true then (some false) else ((laws_markIntS.f k x7 1).bind fun bt732 => ((laws_heldIntS.f k bt732.2 1).bind fun t734 => (if t734 < 0 then (some false) else (if t734 = bt732.1 then ((laws_toSemigroup.f k x708000).bind fun t735 => ((impl_BettiElements.f k t735).bind fun bt738 => ((laws_eqIntS.f k bt738.1 x4).bind fun t742 => (if t742 = true then (laws_FnExactBettiElements.j2 k bt732.2 bt732.1 (bt738.2 != x5)) else (laws_FnExactBettiElements.j2 k bt732.2 bt732.1 true))))) else (some false)))))
def laws_FnExactBettiElements.j2 : Nat → List Int → Int → Bool → Option (Bool)
 | 0, _, _, _ => none
 | k + 1, x7, x10, x87 => if x87 = true then (some false) else ((laws_heldIntS.f k x7 1).bind fun t743 => (if t743 < 0 then (some false) else (if t743 = x10 then (some true) else (some false))))
end
def laws_FnExactBettiElements.f (k : Nat) (l0_0 : List Int) : Option (Bool) := (laws_szSemigroup.f l0_0 1048576).bind fun t708 => (if t708 < 0 then (some true) else ((laws_toSemigroup.f k l0_0).bind fun t709 => ((spec_BettiElements.f k t709).bind fun bt712 => ((laws_toSemigroup.f k l0_0).bind fun t716 => ((impl_BettiElements.f k t716).bind fun bt720 => ((laws_eqIntS.f k bt720.1 bt712.1).bind fun t724 => (if t724 = true then (laws_FnExactBettiElements.j0 k bt712.1 bt712.2 bt720.1 bt720.2 (bt720.2 != bt712.2) l0_0 t716) else (laws_FnExactBettiElements.j0 k bt712.1 bt712.2 bt720.1 bt720.2 true l0_0 t716))))))))
theorem laws_FnExactBettiElements.j0_no {k : Nat} : ∀ {a0} {a1} {a2} {a3} {a5} {a6}, laws_FnExactBettiElements.j0 k a0 a1 a2 a3 true a5 a6 ≠ some true := by
 intros
 cases k <;> simp [laws_FnExactBettiElements.j0]
theorem laws_FnExactBettiElements.j1_no {k : Nat} : ∀ {a0} {a1} {a2} {a4}, laws_FnExactBettiElements.j1 k a0 a1 a2 true a4 ≠ some true := by
 intros
 cases k <;> simp [laws_FnExactBettiElements.j1]
theorem laws_FnExactBettiElements.j2_no {k : Nat} : ∀ {a0} {a1}, laws_FnExactBettiElements.j2 k a0 a1 true ≠ some true := by
 intros
 cases k <;> simp [laws_FnExactBettiElements.j2]
set_option maxHeartbeats 8000000 in
set_option maxRecDepth 100000 in
theorem laws_FnExactBettiElements.calls (k : Nat) (A0_0 : Option Addr) (c0_0 : Nat) (l0_0 : List Int) (w : World) (hr0_0 : Kd.C (Kd.int .i64) w A0_0 l0_0.length l0_0) (hc0_0 : l0_0.length ≤ c0_0) (h : laws_FnExactBettiElements.f k l0_0 = some true) :
  Calls Try.prog 8 #[.agg #[.slice A0_0 l0_0.length c0_0]] w fun e w' => e = .returned (.bool true) ∧ Below w.heap.size w w' := by
 have hu24 := Try.underlying24
 have hu27 := Try.underlying27
 have HR0_0 := am hr0_0
 have HC0_0 := am hc0_0
 clear hr0_0 hc0_0
 have HB := am (Below.refl w.heap.size w)
 have H : ((laws_szSemigroup.f l0_0 1048576).bind fun t708 => (if t708 < 0 then (some true) else ((laws_toSemigroup.f k l0_0).bind fun t709 => ((spec_BettiElements.f k t709).bind fun bt712 => ((laws_toSemigroup.f k l0_0).bind fun t716 => ((impl_BettiElements.f k t716).bind fun bt720 => ((laws_eqIntS.f k bt720.1 bt712.1).bind fun t724 => (if t724 = true then (laws_FnExactBettiElements.j0 k bt712.1 bt712.2 bt720.1 bt720.2 (bt720.2 != bt712.2) l0_0 t716) else (laws_FnExactBettiElements.j0 k bt712.1 bt712.2 bt720.1 bt720.2 true l0_0 t716))))))))) = some true := h
 clear h
 replace H := ga H; obtain ⟨t708, A2, H⟩ := H
 replace H := gi H; obtain ⟨c3b0, H⟩ | ⟨c3b0, H⟩ := H
 ·skip
  go_enter Try.func8, Try.ntmps8
  go_wp2_with (first | ((with_reducible refine gate_dst (N := 1) rfl ?_); refine bx 1 #[.slice A0_0 l0_0.length c0_0] 24 ?_; intro gb707 hg w4 hbox hb; have BK707 := am (hbox); have GW707 := am (gs hg : w.heap.size ≤ gb707); have GE707 := GW707; replace HB := am (below_step bw hb); clear hb hbox hg; have hcz5_0 := bc BK707 0 (.slice A0_0 l0_0.length c0_0); have hfz5_0 := blk_frozen BK707.out 0) | ((with_reducible refine gate_callee (f := 14) rfl ?_); refine gl (some 16) Try.func14 #[.agg #[.slice A0_0 l0_0.length c0_0], .int .i64 1048576] ?_; (with_reducible refine (laws_szSemigroup.calls _ _ l0_0 1048576 t708 _ ?side1 ?side2 A2.out).mono ?_); (case side1 => exact co (Kd.C_below HR0_0.out HB.out)); (case side2 => exact HC0_0.out); rintro e w6 ⟨rfl, hb⟩; refine ⟨_, rfl, ?_⟩; replace BK707 := kb BK707 hb; replace HB := am (below_step bw hb); clear hb))
  go_ret
  exact ⟨re, bw⟩
 replace H := ga H; obtain ⟨t709, A7, H⟩ := H
 replace H := ga H; obtain ⟨⟨t712, t715⟩, A8, H⟩ := H
 replace H : ((laws_toSemigroup.f k l0_0).bind fun t716 => ((impl_BettiElements.f k t716).bind fun bt720 => ((laws_eqIntS.f k bt720.1 t712).bind fun t724 => (if t724 = true then (laws_FnExactBettiElements.j0 k t712 t715 bt720.1 bt720.2 (bt720.2 != t715) l0_0 t716) else (laws_FnExactBettiElements.j0 k t712 t715 bt720.1 bt720.2 true l0_0 t716))))) = some true := H
 replace H := ga H; obtain ⟨t716, A9, H⟩ := H
 replace H := ga H; obtain ⟨⟨t720, t723⟩, A10, H⟩ := H
 replace H : ((laws_eqIntS.f k t720 t712).bind fun t724 => (if t724 = true then (laws_FnExactBettiElements.j0 k t712 t715 t720 t723 (t723 != t715) l0_0 t716) else (laws_FnExactBettiElements.j0 k t712 t715 t720 t723 true l0_0 t716))) = some true := H
 have HC11 := am H
 clear H
 go_enter Try.func8, Try.ntmps8
 go_upto_region 8 with (first | ((with_reducible refine gate_dst (N := 1) rfl ?_); refine bx 1 #[.slice A0_0 l0_0.length c0_0] 24 ?_; intro gb707 hg w12 hbox hb; have BK707 := am (hbox); have GW707 := am (gs hg : w.heap.size ≤ gb707); have GE707 := GW707; replace HB := am (below_step bw hb); clear hb hbox hg; have hcz13_0 := bc BK707 0 (.slice A0_0 l0_0.length c0_0); have hfz13_0 := blk_frozen BK707.out 0) | ((with_reducible refine gate_callee (f := 14) rfl ?_); refine gl (some 16) Try.func14 #[.agg #[.slice A0_0 l0_0.length c0_0], .int .i64 1048576] ?_; (with_reducible refine (laws_szSemigroup.calls _ _ l0_0 1048576 t708 _ ?side1 ?side2 A2.out).mono ?_); (case side1 => exact co (Kd.C_below HR0_0.out HB.out)); (case side2 => exact HC0_0.out); rintro e w14 ⟨rfl, hb⟩; refine ⟨_, rfl, ?_⟩; replace BK707 := kb BK707 hb; replace HB := am (below_step bw hb); clear hb; have hcz15_0 := bc BK707 0 (.slice A0_0 l0_0.length c0_0); have hfz15_0 := blk_frozen BK707.out 0) | ((with_reducible refine gate_callee (f := 16) rfl ?_); refine gl (some 21) Try.func16 #[.agg #[.slice A0_0 l0_0.length c0_0]] ?_; (with_reducible refine (laws_toSemigroup.calls k _ _ l0_0 t709 _ ?side1 ?side2 A7.out).mono ?_); (case side1 => exact co (Kd.C_below HR0_0.out HB.out)); (case side2 => exact HC0_0.out); rintro e w16 ⟨v710, rfl, ho0, hb⟩; refine ⟨_, rfl, ?_⟩; have HO711 := am (Kd.R_lower ho0 (below_size bw)); replace BK707 := kb BK707 hb; replace HB := am (below_step bw hb); clear hb ho0; obtain ⟨Ao17, co17, eo17⟩ := Kd.R_slice HO711.out; subst eo17) | ((with_reducible refine gate_callee (f := 35) rfl ?_); refine gl (some 22) Try.func35 #[.agg #[.slice Ao17 t709.length co17]] ?_; (with_reducible refine (spec_BettiElements.calls k _ _ t709 t712 t715 _ ?side1 ?side2 A8.out).mono ?_); (case side1 => exact co (Kd.R_reads' HO711.out).2.2); (case side2 => exact (Kd.R_reads' HO711.out).2.1); rintro e w18 ⟨v713, rfl, ho0, hb⟩; refine ⟨_, rfl, ?_⟩; have HO714 := am (Kd.R_lower (Kd.R_new' ho0 (Kd.R_lt (ro HO711.out))) (below_size bw)); replace HO711 := am (Kd.R_elder' (ro HO711.out) (Kd.R_base ho0) hb); replace BK707 := kb BK707 hb; replace HB := am (below_step bw hb); clear hb ho0; have hcz19_0 := bc BK707 0 (.slice A0_0 l0_0.length c0_0); have hfz19_0 := blk_frozen BK707.out 0) | ((with_reducible refine gate_callee (f := 16) rfl ?_); refine gl (some 26) Try.func16 #[.agg #[.slice A0_0 l0_0.length c0_0]] ?_; (with_reducible refine (laws_toSemigroup.calls k _ _ l0_0 t716 _ ?side1 ?side2 A9.out).mono ?_); (case side1 => exact co (Kd.C_below HR0_0.out HB.out)); (case side2 => exact HC0_0.out); rintro e w20 ⟨v717, rfl, ho0, hb⟩; refine ⟨_, rfl, ?_⟩; have HO718 := am (Kd.R_lower (Kd.R_new' (Kd.R_new' ho0 (Kd.R_lt (ro HO711.out))) (Kd.R_lt (ro HO714.out))) (below_size bw)); replace HO711 := am (Kd.R_elder' (ro HO711.out) (Kd.R_base ho0) hb); replace HO714 := am (Kd.R_elder' (ro HO714.out) (Kd.R_base ho0) hb); replace BK707 := kb BK707 hb; replace HB := am (below_step bw hb); clear hb ho0) | ((with_reducible refine gate_dst (N := 6) rfl ?_); refine bx 6 #[.slice none 0 0] 27 ?_; intro gb719 hg w21 hbox hb; replace HO711 := rK HO711 hb; replace HO714 := rK HO714 hb; replace HO718 := rK HO718 hb; have BK719 := am (hbox); have GW719 := am (gs hg : w.heap.size ≤ gb719); have GE719 := GW719; replace HB := am (below_step bw hb); have NB707_719 := nl hg BK707; have NB719_707 := ns NB707_719; replace BK707 := kb BK707 hb; clear hb hbox hg; obtain ⟨Ao22, co22, eo22⟩ := Kd.R_slice HO718.out; subst eo22; have hnb23 := NB719_707.out; have hnc23 := NB707_719.out; have hcz24_0 := bc BK719 0 (.slice none 0 0); have hfz24_0 := blk_frozen BK719.out 0) | ((with_reducible refine gate_callee (f := 36) rfl ?_); refine gl (some 29) Try.func36 #[.agg #[.slice Ao22 t716.length co22]] ?_; (with_reducible refine (impl_BettiElements.calls k _ _ t716 t720 t723 _ ?side1 ?side2 A10.out).mono ?_); (case side1 => refine (Kd.R_reads' (e := 3) (base := w.heap.size) (ok := fun k_ => ((True ∧ nb k_ Ao17 t709 co17) ∧ some k_ ≠ (v713 : Value).ownBlock)) (n := t716.length) (c := co22) ?_).2.2; exact (rF HO718 BK719 (.slice Ao22 t716.length co22))); (case side2 => exact (Kd.R_reads' HO718.out).2.1); rintro e w25 ⟨v721, rfl, ho0, hb⟩; refine ⟨_, rfl, ?_⟩; have HO722 := am (Kd.R_lower (Kd.R_new' (Kd.R_new' (Kd.R_new' ho0 (Kd.R_lt (rF HO711 BK719 (.slice Ao22 t716.length co22)))) (Kd.R_lt (rF HO714 BK719 (.slice Ao22 t716.length co22)))) (Kd.R_lt (rF HO718 BK719 (.slice Ao22 t716.length co22)))) (below_size bw)); replace HO711 := am (Kd.R_elder' (rF HO711 BK719 (.slice Ao22 t716.length co22)) (Kd.R_base ho0) hb); replace HO714 := am (Kd.R_elder' (rF HO714 BK719 (.slice Ao22 t716.length co22)) (Kd.R_base ho0) hb); replace HO718 := am (Kd.R_elder' (rF HO718 BK719 (.slice Ao22 t716.length co22)) (Kd.R_base ho0) hb); replace BK707 := kb BK707 hb; replace BK719 := am (blk_below (g := gb719) (o := .cells #[.slice Ao22 t716.length co22] 27 (0, 0)) (by (with_reducible repeat (first | refine blk_drewN ?_ _ | refine blk_drew ?_ | refine blk_alloc ?_ _)); refine blk_put (cs := #[.slice none 0 0]) ?_ 0 _ rfl; (with_reducible repeat (first | refine blk_drewN ?_ _ | refine blk_drew ?_ | refine blk_alloc ?_ _)); exact BK719.out) hb); replace HB := am (below_step bw hb); clear hb ho0))
 (try simp only [Act.put, List.setIfInBounds_toArray, List.set_cons_zero, List.set_cons_succ])
 go_cut [40] (fun v40 wc => ∃ (kq : Nat) (x40_10 : Bool), v40 = .bool x40_10 ∧ Aside0 (laws_FnExactBettiElements.j0 kq t712 t715 t720 t723 x40_10 l0_0 t716 = some true) ∧ Aside0 (kq ≤ k) ∧ Aside0 (Kd.R (Kd.int .i64) 3 wc w.heap.size (fun k_ => some k_ ≠ (v721 : Value).ownBlock ∧ nb k_ Ao22 t716 co22) v713 t712) ∧ Aside0 (Kd.R (Kd.int .i64) 3 wc w.heap.size (fun k_ => some k_ ≠ (v713 : Value).ownBlock ∧ nb k_ Ao22 t716 co22) v721 t720) ∧ Aside0 (Kd.R (Kd.int .i64) 3 wc w.heap.size (fun k_ => some k_ ≠ (v713 : Value).ownBlock ∧ some k_ ≠ (v721 : Value).ownBlock) (.slice Ao22 t716.length co22) t716) ∧ Aside0 (wc.heap[gb707]? = some (.cells #[(.slice A0_0 l0_0.length c0_0)] 24 (0, 0))) ∧ Aside0 (wc.heap[gb719]? = some (.cells #[(.slice Ao22 t716.length co22)] 27 (0, 0))) ∧ Aside0 (Below w.heap.size w wc))
 case first =>
  have H := HC11.out
  clear HC11
  replace H := ga H; obtain ⟨t724, A26, H⟩ := H
  by_cases c27 : t724 = true
  ·subst c27
   have H1 : (laws_FnExactBettiElements.j0 k t712 t715 t720 t723 (t723 != t715) l0_0 t716) = some true := by rw [if_pos rfl] at H; exact H
   clear H
   have H := H1
   clear H1
   have H' := am H
   clear H
   obtain ⟨Ao28, co28, eo28⟩ := Kd.R_slice HO722.out
   subst eo28
   obtain ⟨Ao29, co29, eo29⟩ := Kd.R_slice HO714.out
   subst eo29
   go_wp2_with (first | ((with_reducible refine gate_callee (f := 21) rfl ?_); refine gl (some 34) Try.func21 #[.slice Ao28 t720.length co28, .slice Ao29 t712.length co29] ?_; (with_reducible refine (laws_eqIntS.calls k _ _ t720 _ _ t712 true _ ?side1 ?side2 ?side3 ?side4 A26.out).mono ?_); (case side1 => exact co (Kd.R_reads' HO722.out).2.2); (case side2 => exact (Kd.R_reads' HO722.out).2.1); (case side3 => exact co (Kd.R_reads' HO714.out).2.2); (case side4 => exact (Kd.R_reads' HO714.out).2.1); rintro e w' ⟨rfl, ⟨nd, rfl⟩⟩; refine ⟨_, rfl, ?_⟩))
   go_meet
   case rel => exact ⟨_, ((t723 != t715)), rr, H', ⟨om⟩, ⟨by (with_reducible repeat (first | apply Kd.R_alloc | apply Kd.R_drewN | apply Kd.R_drew)); exact Kd.R_mono HO714.out (fun _ hk => by first | exact ⟨hk.2, hk.1.2⟩ | simp_all)⟩, ⟨by (with_reducible repeat (first | apply Kd.R_alloc | apply Kd.R_drewN | apply Kd.R_drew)); exact Kd.R_mono HO722.out (fun _ hk => by first | exact ⟨hk.1.2, hk.2⟩ | simp_all)⟩, ⟨by (with_reducible repeat (first | apply Kd.R_alloc | apply Kd.R_drewN | apply Kd.R_drew)); exact Kd.R_mono HO718.out (fun _ hk => by first | exact ⟨hk.1.2, hk.2⟩ | simp_all)⟩, ⟨bo BK707.out⟩, ⟨bo BK719.out⟩, ⟨bw⟩⟩
  replace c27 := Bool.eq_false_iff.mpr c27
  subst c27
  exact absurd H (laws_FnExactBettiElements.j0_no)
 case rest =>
  clear HC11
  try clear c3b0; try clear c27; try clear hcz13_0; try clear hcz15_0; try clear hcz19_0; try clear hcz24_0; try clear hcz5_0; try clear hfz13_0; try clear hfz15_0; try clear hfz19_0; try clear hfz24_0; try clear hfz5_0
  obtain ⟨kq, x40_10, rfl, HA, HJ10, HO_4, HO_7, HO_720000, BK707, BK719, HB⟩ := hcut
  cases kq with
  | zero => exact absurd HA.out (by simp [laws_FnExactBettiElements.j0])
  | succ kj10 =>
   have H := HA.out
   clear HA
   simp only [laws_FnExactBettiElements.j0] at H
   replace H := gb H; obtain ⟨rfl, H⟩ | ⟨rfl, H⟩ := H
   ·exact absurd (Option.some.inj H) (by decide)
   replace H := ga H; obtain ⟨t725, A33, H⟩ := H
   replace H := ga H; obtain ⟨t728, A34, H⟩ := H
   replace H := gb H; obtain ⟨rfl, H⟩ | ⟨rfl, H⟩ := H
   ·replace H := ga H; obtain ⟨⟨t729, t730⟩, A36, H⟩ := H
    replace H : (if t729 < 0 then (laws_FnExactBettiElements.j1 kj10 t712 t715 t720 true l0_0) else ((laws_eqIntS.f kj10 t720 t712).bind fun t731 => (if t731 = true then (laws_FnExactBettiElements.j1 kj10 t712 t715 t720 (t723 != t715) l0_0) else (laws_FnExactBettiElements.j1 kj10 t712 t715 t720 true l0_0)))) = some true := H
    have HC37 := am H
    clear H
    try go_wp2
    replace HO_4 := am (Kd.R_drew HO_4.out)
    replace HO_7 := am (Kd.R_drew HO_7.out)
    replace HO_720000 := am (Kd.R_drew HO_720000.out)
    replace BK707 := bd BK707
    replace BK719 := bd BK719
    replace HB := am (below_drew1 HB.out)
    refine start_ (n := 5) (S := fun w' => w'.cell? ⟨gb719, 0, none⟩ = some (.slice Ao22 t716.length co22) ∧ w'.cell? ⟨gb707, 0, none⟩ = some (.slice A0_0 l0_0.length c0_0)) (ds := []) (yz 5 0) (by kernel_rfl) rfl rfl ⟨bc BK719 0 _, bc BK707 0 _⟩ (fun hHeld => ?_)
    generalize wc.drew = w38 at HO_4 HO_7 HO_720000 BK707 BK719 HB hHeld ⊢
    refine tq 0 (some 41) (yz 5 1) hHeld ?_
    refine tq 1 (some 42) (yz 5 3) hHeld ?_
    refine one_ (i := 2) (N := some 43) (yz 5 7) rfl rfl (by kernel_rfl) (by decide) (fun K hK => ?_)
    refine gm Try.func16 #[.agg #[.slice A0_0 l0_0.length c0_0]] ?_
    with_reducible refine (laws_toSemigroup.calls kj10 _ _ l0_0 t725 _ ?side1 ?side2 A33.out).mono ?_
    (case side1 => exact co (Kd.C_below HR0_0.out HB.out))
    (case side2 => exact HC0_0.out)
    rintro e w39 ⟨v726, rfl, ho0, hb⟩
    refine ⟨_, rfl, ?_⟩
    have HO727 := am (Kd.R_lower (Kd.R_new' (Kd.R_new' (Kd.R_new' ho0 (Kd.R_lt (ro HO_4.out))) (Kd.R_lt (ro HO_7.out))) (Kd.R_lt (ro HO_720000.out))) (below_size bw))
    replace HO_4 := am (Kd.R_elder' (ro HO_4.out) (Kd.R_base ho0) hb)
    replace HO_7 := am (Kd.R_elder' (ro HO_7.out) (Kd.R_base ho0) hb)
    replace HO_720000 := am (Kd.R_elder' (ro HO_720000.out) (Kd.R_base ho0) hb)
    replace BK707 := kb BK707 hb
    replace BK719 := kb BK719 hb
    replace HB := am (below_step bw hb)
    clear hb ho0
    obtain ⟨Ao40, co40, eo40⟩ := Kd.R_slice HO727.out
    (first | subst eo40 | (injection eo40 with f1_ f2_ f3_; have f4_ := f1_.symm; have f5_ := f3_.symm; clear f1_ f2_ f3_; subst f4_; subst f5_))
    refine hK.out _ _ ⟨bc BK719 0 _, bc BK707 0 _⟩ (fun hHeld => ?_)
    clear hK K
    refine nm (some 43) ?_
    refine one_ (i := 3) (N := some 44) (yz 5 15) rfl rfl (by kernel_rfl) (by decide) (fun K hK => ?_)
    refine gm Try.func18 #[.agg #[.slice Ao22 t716.length co22], .agg #[.slice Ao40 t725.length co40]] ?_
    with_reducible refine (laws_eqSemigroup.calls kj10 _ _ t716 _ _ t725 true _ ?side1 ?side2 ?side3 ?side4 A34.out).mono ?_
    (case side1 => exact co (Kd.R_reads' HO_720000.out).2.2)
    (case side2 => exact (Kd.R_reads' HO_720000.out).2.1)
    (case side3 => exact co (Kd.R_reads' HO727.out).2.2)
    (case side4 => exact (Kd.R_reads' HO727.out).2.1)
    rintro e w41 ⟨rfl, hb⟩
    refine ⟨_, rfl, ?_⟩
    replace HO_4 := rK HO_4 hb
    replace HO_7 := rK HO_7 hb
    replace HO_720000 := rK HO_720000 hb
    replace HO727 := rK HO727 hb
    replace BK707 := kb BK707 hb
    replace BK719 := kb BK719 hb
    replace HB := am (below_step bw hb)
    clear hb
    refine hK.out _ _ ⟨bc BK719 0 _, bc BK707 0 _⟩ (fun hHeld => ?_)
    clear hK K
    refine nm (some 44) ?_
    refine pure_ (i := 4) (N := some 45) (v := ?_) (a' := ?_) (yz 5 31) rfl rfl (by kernel_rfl) (fun _ _ _ h => h) (Or.inl ⟨by rfl, ?_⟩) ?_ ?_
    rotate_left
    ·intro w'
     go_simp
     with_reducible rfl
    rotate_left
    ·simp only [Act.put, qa, qb, qc, i64_w, i32_w]
     rfl
    refine done_ (by kernel_rfl) ?_
    have hnb42 := NB719_707.out
    have hnc42 := NB707_719.out
    have hcz43_0 := bc BK719 0 (.slice Ao22 t716.length co22)
    have hfz43_0 := blk_frozen BK719.out 0
    go_upto_region 14 with (first | ((with_reducible refine gate_callee (f := 22) rfl ?_); refine gl (some 48) Try.func22 #[.agg #[.slice Ao22 t716.length co22], .int .i64 1] ?_; (with_reducible refine (laws_markSemigroup.calls kj10 (fun k_ => some k_ = (.slice Ao22 t716.length co22 : Value).ownBlock) (.slice Ao22 t716.length co22) t716 1 t729 t730 w _ ?side1 ?side2 A36.out).mono ?_); (case side1 => exact bw); (case side2 => exact Kd.R_tight rfl HO_720000.out); rintro e w44 ⟨rfl, hy0, hb, hkp⟩; refine ⟨_, rfl, ?_⟩; replace HO_4 := am (Kd.R_mono (ok' := fun k_ => some k_ ≠ (v721 : Value).ownBlock ∧ nb k_ Ao22 t716 co22 ∧ nb k_ Ao40 t725 co40) (Kd.R_keptB (HO_4.out) hkp (fun k_ hk_ hs_ => by first | exact (hk_.1.2) hs_ | simp_all)) (fun k_ hk_ => by first | exact ⟨hk_.1.1.1, hk_.1.1.2, hk_.1.2⟩ | simp_all)); replace HO_7 := am (Kd.R_mono (ok' := fun k_ => some k_ ≠ (v713 : Value).ownBlock ∧ nb k_ Ao22 t716 co22 ∧ nb k_ Ao40 t725 co40) (Kd.R_keptB (HO_7.out) hkp (fun k_ hk_ hs_ => by first | exact (hk_.1.2) hs_ | simp_all)) (fun k_ hk_ => by first | exact ⟨hk_.1.1.1, hk_.1.1.2, hk_.1.2⟩ | simp_all)); replace BK707 := am (blk_kept (bo BK707.out) hkp (fun hs_ => (fun e_ => (Kd.R_ne HO_720000.out BK707.out (by decide)) e_) hs_)); replace BK719 := am (blk_kept (bo BK719.out) hkp (fun hs_ => (fun e_ => (Kd.R_ne HO_720000.out BK719.out (by decide)) e_) hs_)); replace HO_720000 := am (Kd.R_reok rfl hy0 (fun k_ e_ => HO_720000.out.1 k_ e_)); replace HO727 := am (Kd.R_mono (ok' := fun k_ => some k_ ≠ (v713 : Value).ownBlock ∧ some k_ ≠ (v721 : Value).ownBlock ∧ nb k_ Ao22 t716 co22) (Kd.R_keptB (HO727.out) hkp (fun k_ hk_ hs_ => by first | exact (hk_.2) hs_ | simp_all)) (fun k_ hk_ => by first | exact ⟨hk_.1.1.1.2, hk_.1.1.2, hk_.1.2⟩ | simp_all)); replace HB := am (hb); clear hb hkp hy0))
    (try simp only [Act.put, List.setIfInBounds_toArray, List.set_cons_zero, List.set_cons_succ])
    go_cut [61] (fun v61 wc => ∃ (kq : Nat) (x61_36 : Bool), v61 = .bool x61_36 ∧ Aside0 (laws_FnExactBettiElements.j1 kq t712 t715 t720 x61_36 l0_0 = some true) ∧ Aside0 (kq ≤ kj10) ∧ Aside0 (Kd.R (Kd.int .i64) 3 wc w.heap.size (fun k_ => some k_ ≠ (v721 : Value).ownBlock ∧ nb k_ Ao22 t716 co22) v713 t712) ∧ Aside0 (Kd.R (Kd.int .i64) 3 wc w.heap.size (fun k_ => some k_ ≠ (v713 : Value).ownBlock ∧ nb k_ Ao22 t716 co22) v721 t720) ∧ Aside0 (Kd.R (Kd.int .i64) 3 wc w.heap.size (fun k_ => some k_ ≠ (v713 : Value).ownBlock ∧ some k_ ≠ (v721 : Value).ownBlock) (.slice Ao22 t716.length co22) t730) ∧ Aside0 (wc.heap[gb707]? = some (.cells #[(.slice A0_0 l0_0.length c0_0)] 24 (0, 0))) ∧ Aside0 (wc.heap[gb719]? = some (.cells #[(.slice Ao22 t716.length co22)] 27 (0, 0))) ∧ Aside0 (Below w.heap.size w wc))
    case first =>
     have H := HC37.out
     clear HC37
     by_cases c45 : t729 < 0
     ·rw [if_pos c45] at H
      exact absurd H (laws_FnExactBettiElements.j1_no)
     rw [if_neg c45] at H
     have c45b0 : decide (t729 < 0) = false := decide_eq_false c45
     clear c45
     (first | rw [c45b0] | (simp only [i64_w, i32_w]; rw [c45b0]) | skip)
     replace H := ga H; obtain ⟨t731, A46, H⟩ := H
     by_cases c47 : t731 = true
     ·subst c47
      have H1 : (laws_FnExactBettiElements.j1 kj10 t712 t715 t720 (t723 != t715) l0_0) = some true := by rw [if_pos rfl] at H; exact H
      clear H
      have H := H1
      clear H1
      have H' := am H
      clear H
      obtain ⟨Ao48, co48, eo48⟩ := Kd.R_slice HO_7.out
      subst eo48
      obtain ⟨Ao49, co49, eo49⟩ := Kd.R_slice HO_4.out
      subst eo49
      go_wp2_with (first | (go_at_call 21; (with_reducible refine (laws_eqIntS.calls kj10 _ _ t720 _ _ t712 true _ ?side1 ?side2 ?side3 ?side4 A46.out).mono ?_); (case side1 => exact co (Kd.R_reads' HO_7.out).2.2); (case side2 => exact (Kd.R_reads' HO_7.out).2.1); (case side3 => exact co (Kd.R_reads' HO_4.out).2.2); (case side4 => exact (Kd.R_reads' HO_4.out).2.1); rintro e w' ⟨rfl, ⟨nd, rfl⟩⟩))
      go_meet
      case rel => exact ⟨_, ((t723 != t715)), rr, H', ⟨by have := HJ10.out; first | omega | exact Nat.le_refl _⟩, ⟨by (with_reducible repeat (first | apply Kd.R_alloc | apply Kd.R_drewN | apply Kd.R_drew)); exact Kd.R_mono HO_4.out (fun _ hk => by first | exact ⟨hk.1, hk.2.1⟩ | simp_all)⟩, ⟨by (with_reducible repeat (first | apply Kd.R_alloc | apply Kd.R_drewN | apply Kd.R_drew)); exact Kd.R_mono HO_7.out (fun _ hk => by first | exact ⟨hk.1, hk.2.1⟩ | simp_all)⟩, ⟨by (with_reducible repeat (first | apply Kd.R_alloc | apply Kd.R_drewN | apply Kd.R_drew)); exact Kd.R_mono HO_720000.out (fun _ hk => by first | exact ⟨hk.1.1, hk.1.2⟩ | simp_all)⟩, ⟨bo BK707.out⟩, ⟨bo BK719.out⟩, ⟨bw⟩⟩
     replace c47 := Bool.eq_false_iff.mpr c47
     subst c47
     exact absurd H (laws_FnExactBettiElements.j1_no)
    case rest =>
     clear HC37
     try clear c3b0; try clear c27; try clear c45; try clear c45b0; try clear c47; try clear hcz13_0; try clear hcz15_0; try clear hcz19_0; try clear hcz24_0; try clear hcz43_0; try clear hcz5_0; try clear hfz13_0; try clear hfz15_0; try clear hfz19_0; try clear hfz24_0; try clear hfz43_0; try clear hfz5_0
     obtain ⟨kq, x61_36, rfl, HA, HJ36, HO_4, HO_7, HO_720000, BK707, BK719, HB⟩ := hcut
     have hl720000_36 := (Kd.R_reads' HO_720000.out).1
     rw [hl720000_36] at HO_720000
     (try simp only [nb, hl720000_36])
     (try simp only [nb, hl720000_36] at BK707)
     (try simp only [nb, hl720000_36] at BK719)
     (try simp only [nb, hl720000_36] at HO_4)
     (try simp only [nb, hl720000_36] at HO_7)
     cases kq with
     | zero => exact absurd HA.out (by simp [laws_FnExactBettiElements.j1])
     | succ kj36 =>
      have H := HA.out
      clear HA
      simp only [laws_FnExactBettiElements.j1] at H
      replace H := gb H; obtain ⟨rfl, H⟩ | ⟨rfl, H⟩ := H
      ·exact absurd (Option.some.inj H) (by decide)
      replace H := ga H; obtain ⟨⟨t732, t733⟩, A53, H⟩ := H
      replace H : ((laws_heldIntS.f kj36 t733 1).bind fun t734 => (if t734 < 0 then (some false) else (if t734 = t732 then ((laws_toSemigroup.f kj36 l0_0).bind fun t735 => ((impl_BettiElements.f kj36 t735).bind fun bt738 => ((laws_eqIntS.f kj36 bt738.1 t712).bind fun t742 => (if t742 = true then (laws_FnExactBettiElements.j2 kj36 t733 t732 (bt738.2 != t715)) else (laws_FnExactBettiElements.j2 kj36 t733 t732 true))))) else (some false)))) = some true := H
      replace H := ga H; obtain ⟨t734, A54, H⟩ := H
      replace H := gi H; obtain ⟨c55b0, H⟩ | ⟨c55b0, H⟩ := H
      ·exact absurd (Option.some.inj H) (by decide)
      by_cases c58 : t734 = t732
      ·rw [if_pos c58] at H
       have c58b0 : (t734 == t732) = true := beq_iff_eq.mpr c58
       have c58b1 : (t734 != t732) = false := bne_eq_false_iff_eq.mpr c58
       clear c58
       replace H := ga H; obtain ⟨t735, A59, H⟩ := H
       replace H := ga H; obtain ⟨⟨t738, t741⟩, A60, H⟩ := H
       replace H : ((laws_eqIntS.f kj36 t738 t712).bind fun t742 => (if t742 = true then (laws_FnExactBettiElements.j2 kj36 t733 t732 (t741 != t715)) else (laws_FnExactBettiElements.j2 kj36 t733 t732 true))) = some true := H
       have HC61 := am H
       clear H
       obtain ⟨Ao62, co62, eo62⟩ := Kd.R_slice HO_7.out
       subst eo62
       go_upto_region 25 with (first | ((with_reducible refine gate_callee (f := 23) rfl ?_); refine gl (some 64) Try.func23 #[.slice Ao62 t720.length co62, .int .i64 1] ?_; (with_reducible refine (laws_markIntS.calls kj36 (fun k_ => some k_ = (.slice Ao62 t720.length co62 : Value).ownBlock) (.slice Ao62 t720.length co62) t720 1 t732 t733 w _ ?side1 ?side2 A53.out).mono ?_); (case side1 => exact bw); (case side2 => exact Kd.R_tight rfl HO_7.out); rintro e w63 ⟨rfl, hy0, hb, hkp⟩; refine ⟨_, rfl, ?_⟩; replace HO_4 := am (Kd.R_mono (ok' := fun k_ => nb k_ Ao62 t720 co62 ∧ nb k_ Ao22 t730 co22) (Kd.R_keptB (HO_4.out) hkp (fun k_ hk_ hs_ => by first | exact (hk_.1) hs_ | simp_all)) (fun k_ hk_ => by first | exact ⟨hk_.1.1, hk_.1.2⟩ | simp_all)); replace HO_720000 := am (Kd.R_mono (ok' := fun k_ => some k_ ≠ (v713 : Value).ownBlock ∧ nb k_ Ao62 t720 co62) (Kd.R_keptB (HO_720000.out) hkp (fun k_ hk_ hs_ => by first | exact (hk_.2) hs_ | simp_all)) (fun k_ hk_ => by first | exact ⟨hk_.1.1, hk_.1.2⟩ | simp_all)); replace BK707 := am (blk_kept (bo BK707.out) hkp (fun hs_ => (fun e_ => (Kd.R_ne HO_7.out BK707.out (by decide)) e_) hs_)); replace BK719 := am (blk_kept (bo BK719.out) hkp (fun hs_ => (fun e_ => (Kd.R_ne HO_7.out BK719.out (by decide)) e_) hs_)); replace HO_7 := am (Kd.R_reok rfl hy0 (fun k_ e_ => HO_7.out.1 k_ e_)); replace HB := am (hb); clear hb hkp hy0) | ((with_reducible refine gate_callee (f := 24) rfl ?_); refine goesL_ (some 67) rfl rfl Try.func24 (by kernel_rfl) rfl #[.slice Ao62 t733.length co62, .int .i64 1] rfl (by (try simp only [List.map_toArray, List.map_cons, List.map_nil]); first | done | (rw [show t733.length = t720.length from (Kd.R_reads' HO_7.out).1.symm] <;> rfl) | rfl | (simp only [List.length_drop, List.length_take]; rfl)) ?_; (with_reducible refine (laws_heldIntS.calls kj36 _ _ t733 1 t734 _ ?side1 ?side2 A54.out).mono ?_); (case side1 => exact co (Kd.R_reads' HO_7.out).2.2); (case side2 => rw [show t733.length = t720.length from (Kd.R_reads' HO_7.out).1.symm]; exact (Kd.R_reads' HO_7.out).2.1); rintro e w' ⟨rfl, ⟨nd, rfl⟩⟩; refine ⟨_, rfl, ?_⟩; have hnb64 := NB707_719.out; have hnc64 := NB719_707.out; have hcz65_0 := bc BK707 0 (.slice A0_0 l0_0.length c0_0); have hfz65_0 := blk_frozen BK707.out 0) | ((with_reducible refine gate_callee (f := 16) rfl ?_); refine gl (some 75) Try.func16 #[.agg #[.slice A0_0 l0_0.length c0_0]] ?_; (with_reducible refine (laws_toSemigroup.calls kj36 _ _ l0_0 t735 _ ?side1 ?side2 A59.out).mono ?_); (case side1 => exact co (Kd.C_below HR0_0.out bw)); (case side2 => exact HC0_0.out); rintro e w66 ⟨v736, rfl, ho0, hb⟩; refine ⟨_, rfl, ?_⟩; have HO737 := am (Kd.R_lower (Kd.R_new' (Kd.R_new' (Kd.R_new' ho0 (Kd.R_lt (ro HO_4.out))) (Kd.R_lt (ro HO_7.out))) (Kd.R_lt (ro HO_720000.out))) (below_size bw)); replace HO_4 := am (Kd.R_elder' (ro HO_4.out) (Kd.R_base ho0) hb); replace HO_7 := am (Kd.R_elder' (ro HO_7.out) (Kd.R_base ho0) hb); replace HO_720000 := am (Kd.R_elder' (ro HO_720000.out) (Kd.R_base ho0) hb); replace BK707 := kb BK707 hb; replace BK719 := kb BK719 hb; replace HB := am (below_step bw hb); clear hb ho0; obtain ⟨Ao67, co67, eo67⟩ := Kd.R_slice HO737.out; subst eo67) | ((with_reducible refine gate_callee (f := 36) rfl ?_); refine gl (some 76) Try.func36 #[.agg #[.slice Ao67 t735.length co67]] ?_; (with_reducible refine (impl_BettiElements.calls kj36 _ _ t735 t738 t741 _ ?side1 ?side2 A60.out).mono ?_); (case side1 => exact co (Kd.R_reads' HO737.out).2.2); (case side2 => exact (Kd.R_reads' HO737.out).2.1); rintro e w68 ⟨v739, rfl, ho0, hb⟩; refine ⟨_, rfl, ?_⟩; have HO740 := am (Kd.R_lower (Kd.R_new' (Kd.R_new' (Kd.R_new' (Kd.R_new' ho0 (Kd.R_lt (ro HO_4.out))) (Kd.R_lt (ro HO_7.out))) (Kd.R_lt (ro HO_720000.out))) (Kd.R_lt (ro HO737.out))) (below_size bw)); replace HO_4 := am (Kd.R_elder' (ro HO_4.out) (Kd.R_base ho0) hb); replace HO_7 := am (Kd.R_elder' (ro HO_7.out) (Kd.R_base ho0) hb); replace HO_720000 := am (Kd.R_elder' (ro HO_720000.out) (Kd.R_base ho0) hb); replace HO737 := am (Kd.R_elder' (ro HO737.out) (Kd.R_base ho0) hb); replace BK707 := kb BK707 hb; replace BK719 := kb BK719 hb; replace HB := am (below_step bw hb); clear hb ho0))
       (try simp only [Act.put, List.setIfInBounds_toArray, List.set_cons_zero, List.set_cons_succ])
       go_cut [87] (fun v87 wc => ∃ (kq : Nat) (x87_60 : Bool), v87 = .bool x87_60 ∧ Aside0 (laws_FnExactBettiElements.j2 kq t733 t732 x87_60 = some true) ∧ Aside0 (kq ≤ kj36) ∧ Aside0 (Kd.R (Kd.int .i64) 3 wc w.heap.size (fun k_ => nb k_ Ao22 t730 co22) (.slice Ao62 t720.length co62) t733) ∧ Aside0 (Kd.R (Kd.int .i64) 3 wc w.heap.size (fun k_ => nb k_ Ao62 t720 co62) (.slice Ao22 t730.length co22) t730) ∧ Aside0 (wc.heap[gb707]? = some (.cells #[(.slice A0_0 l0_0.length c0_0)] 24 (0, 0))) ∧ Aside0 (wc.heap[gb719]? = some (.cells #[(.slice Ao22 t730.length co22)] 27 (0, 0))) ∧ Aside0 (Below w.heap.size w wc))
       case first =>
        have H := HC61.out
        clear HC61
        replace H := ga H; obtain ⟨t742, A69, H⟩ := H
        by_cases c70 : t742 = true
        ·subst c70
         have H1 : (laws_FnExactBettiElements.j2 kj36 t733 t732 (t741 != t715)) = some true := by rw [if_pos rfl] at H; exact H
         clear H
         have H := H1
         clear H1
         have H' := am H
         clear H
         obtain ⟨Ao71, co71, eo71⟩ := Kd.R_slice HO740.out
         subst eo71
         obtain ⟨Ao72, co72, eo72⟩ := Kd.R_slice HO_4.out
         subst eo72
         go_wp2_with (first | ((with_reducible refine gate_callee (f := 21) rfl ?_); refine gl (some 81) Try.func21 #[.slice Ao71 t738.length co71, .slice Ao72 t712.length co72] ?_; (with_reducible refine (laws_eqIntS.calls kj36 _ _ t738 _ _ t712 true _ ?side1 ?side2 ?side3 ?side4 A69.out).mono ?_); (case side1 => exact co (Kd.R_reads' HO740.out).2.2); (case side2 => exact (Kd.R_reads' HO740.out).2.1); (case side3 => exact co (Kd.R_reads' HO_4.out).2.2); (case side4 => exact (Kd.R_reads' HO_4.out).2.1); rintro e w' ⟨rfl, ⟨nd, rfl⟩⟩; refine ⟨_, rfl, ?_⟩))
         go_meet
         case rel => exact ⟨_, ((t741 != t715)), rr, H', ⟨by have := HJ10.out; have := HJ36.out; first | omega | exact Nat.le_refl _⟩, ⟨by (try simp only [nb, hl720000_36]); (with_reducible repeat (first | apply Kd.R_alloc | apply Kd.R_drewN | apply Kd.R_drew)); exact Kd.R_mono HO_7.out (fun _ hk => by first | exact hk.1.1.2 | simp_all)⟩, ⟨by (try simp only [nb, hl720000_36]); (with_reducible repeat (first | apply Kd.R_alloc | apply Kd.R_drewN | apply Kd.R_drew)); exact Kd.R_mono HO_720000.out (fun _ hk => by first | exact hk.1.1.2 | simp_all)⟩, ⟨by (try simp only [nb, hl720000_36]); (with_reducible repeat (first | refine blk_drewN ?_ _ | refine blk_drew ?_ | refine blk_alloc ?_ _)); exact BK707.out⟩, ⟨by (try simp only [nb, hl720000_36]); (with_reducible repeat (first | refine blk_drewN ?_ _ | refine blk_drew ?_ | refine blk_alloc ?_ _)); exact BK719.out⟩, ⟨bw⟩⟩
        replace c70 := Bool.eq_false_iff.mpr c70
        subst c70
        exact absurd H (laws_FnExactBettiElements.j2_no)
       case rest =>
        clear HC61
        try clear c3b0; try clear c27; try clear c45; try clear c45b0; try clear c47; try clear c55b0; try clear c58; try clear c58b0; try clear c58b1; try clear c70; try clear hcz13_0; try clear hcz15_0; try clear hcz19_0; try clear hcz24_0; try clear hcz43_0; try clear hcz5_0; try clear hcz65_0; try clear hfz13_0; try clear hfz15_0; try clear hfz19_0; try clear hfz24_0; try clear hfz43_0; try clear hfz5_0; try clear hfz65_0
        obtain ⟨kq, x87_60, rfl, HA, HJ60, HO_7, HO_720000, BK707, BK719, HB⟩ := hcut
        have hl7_60 := (Kd.R_reads' HO_7.out).1
        rw [hl7_60] at HO_7
        (try simp only [nb, hl7_60])
        (try simp only [nb, hl7_60] at BK707)
        (try simp only [nb, hl7_60] at BK719)
        (try simp only [nb, hl7_60] at HO_720000)
        cases kq with
        | zero => exact absurd HA.out (by simp [laws_FnExactBettiElements.j2])
        | succ kj60 =>
         have H := HA.out
         clear HA
         simp only [laws_FnExactBettiElements.j2] at H
         replace H := gb H; obtain ⟨rfl, H⟩ | ⟨rfl, H⟩ := H
         ·exact absurd (Option.some.inj H) (by decide)
         replace H := ga H; obtain ⟨t743, A76, H⟩ := H
         replace H := gi H; obtain ⟨c77b0, H⟩ | ⟨c77b0, H⟩ := H
         ·exact absurd (Option.some.inj H) (by decide)
         by_cases c78 : t743 = t732
         ·rw [if_pos c78] at H
          have c78b0 : (t743 == t732) = true := beq_iff_eq.mpr c78
          have c78b1 : (t743 != t732) = false := bne_eq_false_iff_eq.mpr c78
          clear c78
          skip
          go_wp2_with (first | ((with_reducible refine gate_callee (f := 24) rfl ?_); refine gl (some 90) Try.func24 #[.slice Ao62 t733.length co62, .int .i64 1] ?_; (with_reducible refine (laws_heldIntS.calls kj60 _ _ t733 1 t743 _ ?side1 ?side2 A76.out).mono ?_); (case side1 => exact co (Kd.R_reads' HO_7.out).2.2); (case side2 => exact (Kd.R_reads' HO_7.out).2.1); rintro e w' ⟨rfl, ⟨nd, rfl⟩⟩; refine ⟨_, rfl, ?_⟩))
          go_ret
          exact ⟨re, bw⟩
         rw [if_neg c78] at H
         have c78b0 : (t743 == t732) = false := beq_eq_false_iff_ne.mpr c78
         have c78b1 : (t743 != t732) = true := bne_iff_ne.mpr c78
         exact absurd (Option.some.inj H) (by decide)
      rw [if_neg c58] at H
      have c58b0 : (t734 == t732) = false := beq_eq_false_iff_ne.mpr c58
      have c58b1 : (t734 != t732) = true := bne_iff_ne.mpr c58
      exact absurd (Option.some.inj H) (by decide)
   exact absurd (Option.some.inj H) (by decide)
end Go.Proofs.Ytlfdipnhlmjiaaa.C
