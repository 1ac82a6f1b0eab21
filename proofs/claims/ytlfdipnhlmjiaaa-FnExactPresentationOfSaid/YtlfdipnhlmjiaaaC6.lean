/- Contracts of functions of the program: spec_BettiElements, slices_Clone_int_int. -/
import Derived.Test.YtlfdipnhlmjiaaaC0
import Derived.Test.YtlfdipnhlmjiaaaC3
import Derived.Test.YtlfdipnhlmjiaaaC5
namespace Go.Proofs.Ytlfdipnhlmjiaaa.C
open Go.RowKit Go.Proofs.YtlfdipnhlmjiaaaW.PrintWords Go.Proofs.YtlfdipnhlmjiaaaW.PrintLast Go.Proofs.YtlfdipnhlmjiaaaW.PrintMore
attribute [local go_sem] max2_int min2_int max_two min_two max_three min_three max_four min_four
set_option linter.unusedVariables false
set_option linter.unusedSimpArgs false

/-! ### spec_BettiElements: function 35 -/
def spec_BettiElements.l0 : Nat → Int → List Int → Int → List Int → Option (List Int × Bool)
 | 0, _, _, _, _ => none
 | k + 1, x4, x5, x6, x374000 => if x6 ≤ x4 then ((spec_ClassesOf.f k x374000 x6).bind fun t387 => (if (t387.length : Int) > 1 then (if x5.length < 17592186044416 then (spec_BettiElements.l0 k x4 (x5 ++ [x6]) (wrap64 (x6 + 1)) x374000) else (none)) else (spec_BettiElements.l0 k x4 x5 (wrap64 (x6 + 1)) x374000))) else (some (x5, true))
def spec_BettiElements.f (k : Nat) (l0_0 : List Int) : Option (List Int × Bool) := (spec_IsSemigroup.f k l0_0).bind fun t374 => (if t374 = true then ((spec_FrobeniusOf.f k l0_0).bind fun t378 => (if 0 < (l0_0.length : Int) then (if 0 ≤ (wrap64 ((l0_0.length : Int) - 1)) then (if (wrap64 ((l0_0.length : Int) - 1)) < (l0_0.length : Int) then (if (wrap64 ((wrap64 (t378 + (rd l0_0 0))) + (wrap64 (2 * (rd l0_0 (wrap64 ((l0_0.length : Int) - 1))))))) > 100 then (some ((([] : List Int)), false)) else (spec_BettiElements.l0 k (wrap64 ((wrap64 (t378 + (rd l0_0 0))) + (wrap64 (2 * (rd l0_0 (wrap64 ((l0_0.length : Int) - 1))))))) (([] : List Int)) 1 l0_0)) else (none)) else (none)) else (none))) else (some ((([] : List Int)), false)))
def spec_BettiElements.T3 : Bool × List (List Nat × List Nat) := (true, [([], []), ([0], [0]), ([], []), ([2], [2]), ([3], [3]), ([4], [4]), ([1, 5], [1, 5]), ([], []), ([7], [7]), ([], []), ([9], [9]), ([10], [10]), ([11], [11]), ([8, 12], [8, 12]), ([13], [13]), ([14], [14]), ([6, 15], [6, 15]), ([16, 1, 0, 1, 2, 3, 4, 5, 6, 7, 8, 9, 10, 11, 12, 13, 14, 15, 16], [16])])
def spec_BettiElements.B3 : List Nat := [0, 1, 0, 4, 12, 28, 63, 0, 128, 0, 512, 1536, 3584, 8064, 16256, 32640, 65535, 131071]
theorem spec_BettiElements.tab3 : rtab .any (opsOf Try.f35 3) = spec_BettiElements.T3 := by kernel_rfl
theorem spec_BettiElements.bits3 : waitsOk spec_BettiElements.T3.2 spec_BettiElements.B3 = true := by kernel_rfl
set_option maxHeartbeats 8000000 in
set_option maxRecDepth 100000 in
theorem spec_BettiElements.calls (k : Nat) (A0_0 : Option Addr) (c0_0 : Nat) (l0_0 : List Int) (r1 : List Int) (r2 : Bool) (w : World) (hr0_0 : Kd.C (Kd.int .i64) w A0_0 l0_0.length l0_0) (hc0_0 : l0_0.length ≤ c0_0) (h : spec_BettiElements.f k l0_0 = some (r1, r2)) :
  Calls Try.prog 35 #[.agg #[.slice A0_0 l0_0.length c0_0]] w fun e w' => ∃ v0_ : Value, e = .returned (.tuple #[v0_, .bool r2]) ∧ Kd.R (Kd.int .i64) 3 w' w.heap.size (fun _ => True) v0_ r1 ∧ Below w.heap.size w w' := by
 have hu27 := Try.underlying27
 have HR0_0 := am hr0_0
 have HC0_0 := am hc0_0
 clear hr0_0 hc0_0
 have HB := am (Below.refl w.heap.size w)
 have H : ((spec_IsSemigroup.f k l0_0).bind fun t374 => (if t374 = true then ((spec_FrobeniusOf.f k l0_0).bind fun t378 => (if 0 < (l0_0.length : Int) then (if 0 ≤ (wrap64 ((l0_0.length : Int) - 1)) then (if (wrap64 ((l0_0.length : Int) - 1)) < (l0_0.length : Int) then (if (wrap64 ((wrap64 (t378 + (rd l0_0 0))) + (wrap64 (2 * (rd l0_0 (wrap64 ((l0_0.length : Int) - 1))))))) > 100 then (some ((([] : List Int)), false)) else (spec_BettiElements.l0 k (wrap64 ((wrap64 (t378 + (rd l0_0 0))) + (wrap64 (2 * (rd l0_0 (wrap64 ((l0_0.length : Int) - 1))))))) (([] : List Int)) 1 l0_0)) else (none)) else (none)) else (none))) else (some ((([] : List Int)), false)))) = some (r1, r2) := h
 clear h
 replace H := ga H; obtain ⟨t374, A2, H⟩ := H
 replace H := gb H; obtain ⟨rfl, H⟩ | ⟨rfl, H⟩ := H
 ·replace H := ga H; obtain ⟨t378, A4, H⟩ := H
  replace H := gp H; obtain ⟨c5, H⟩ := H
  have c5b0 : decide (0 < (l0_0.length : Int)) = true := decide_eq_true c5
  have c5b1 : decide (0 < l0_0.length) = true := decide_eq_true (by omega)
  clear c5
  obtain ⟨ji6, hji6⟩ : ∃ j_ : Int, (wrap64 ((l0_0.length : Int) - 1)) = j_ := ⟨_, rfl⟩
  replace H : (if 0 ≤ (ji6) then (if (ji6) < (l0_0.length : Int) then (if (wrap64 ((wrap64 (t378 + (rd l0_0 0))) + (wrap64 (2 * (rd l0_0 (ji6)))))) > 100 then (some ((([] : List Int)), false)) else (spec_BettiElements.l0 k (wrap64 ((wrap64 (t378 + (rd l0_0 0))) + (wrap64 (2 * (rd l0_0 (ji6)))))) (([] : List Int)) 1 l0_0)) else (none)) else (none)) = some (r1, r2) := by first | (rw [hji6] at H; exact H) | (simp only [hji6] at H ⊢; exact H)
  (try rw [hji6] at A2)
  (try rw [hji6] at A4)
  have hji6w : (IntKind.i64.wrap ((l0_0.length : Int) - 1)) = ji6 := (i64_w _).trans hji6
  replace H := gd H; obtain ⟨c7b0, H⟩ := H
  replace H := gd H; obtain ⟨c8b0, H⟩ := H
  replace H := gj H; obtain ⟨c9, H⟩ | ⟨c9, H⟩ := H
  ·have c9b0 : decide (100 < (wrap64 ((wrap64 (t378 + (rd l0_0 0))) + (wrap64 (2 * (rd l0_0 (ji6))))))) = true := decide_eq_true c9
   clear c9
   obtain ⟨y381, hy381⟩ : ∃ y_ : List Int, y_ = (([] : List Int)) := ⟨_, rfl⟩
   replace H : (some (y381, false)) = some (r1, r2) := by first | (rw [hy381]; with_reducible first | exact H | exact bs H) | (with_reducible first | exact bs H | exact H) | (rw [hy381]; exact H) | exact H
   have Ny381 := am hy381
   clear hy381
   simp only [Option.some.injEq, Prod.mk.injEq] at H
   obtain ⟨rfl, rfl⟩ := H
   go_enter Try.func35, Try.ntmps35
   try go_wp2_with (first | ((with_reducible refine gate_dst (N := 1) rfl ?_); refine bx 1 #[.slice A0_0 l0_0.length c0_0] 27 ?_; intro gb373 hg w10 hbox hb; have BK373 := am (hbox); have GW373 := am (gs hg : w.heap.size ≤ gb373); have GE373 := GW373; replace HB := am (below_step bw hb); clear hb hbox hg; have hcz11_0 := bc BK373 0 (.slice A0_0 l0_0.length c0_0); have hfz11_0 := blk_frozen BK373.out 0) | ((with_reducible refine gate_callee (f := 58) rfl ?_); refine gl (some 8) Try.func58 #[.agg #[.slice A0_0 l0_0.length c0_0]] ?_; (with_reducible refine (spec_IsSemigroup.calls k _ _ l0_0 true _ ?side1 ?side2 A2.out).mono ?_); (case side1 => exact co (Kd.C_below HR0_0.out HB.out)); (case side2 => exact HC0_0.out); rintro e w12 ⟨rfl, hb⟩; refine ⟨_, rfl, ?_⟩; replace BK373 := kb BK373 hb; replace HB := am (below_step bw hb); clear hb))
   replace BK373 := bd BK373
   replace HB := am (below_drew1 HB.out)
   have p379 : 0 ≤ (0 : Int) := (by omega)
   have q379 : 0 < (l0_0.length : Int) := of_decide_eq_true (by first | (with_reducible assumption) | assumption)
   obtain ⟨ad379, e379, hx379_0⟩ := Kd.at_int HR0_0.out 0 p379 q379
   have hw379_0 := hx379_0
   (try rw [show ((0 : Int)).toNat = 0 from rfl] at hw379_0)
   (try rw [show 0 * 1 = 0 from rfl] at hw379_0)
   (try rw [Addr.add_zero'] at hw379_0)
   cases e379
   have qi379 : (0 < l0_0.length) = True := eq_true (by omega)
   (try rw [show ((0 : Int)).toNat = 0 from rfl] at hx379_0)
   (try rw [Addr.add_zero'] at hx379_0)
   replace hx379_0 := hw HB hx379_0
   replace p379 := eq_true p379
   replace q379 := eq_true q379
   obtain ⟨⟨ad380, e380, hx380_0⟩, p380, q380⟩ := pq (Kd.at_int HR0_0.out (ji6))
   have hw380_0 := hx380_0
   obtain rfl : ad379 = ad380 := (by injection e380)
   replace hx380_0 := hw HB hx380_0
   refine start_ (n := 18) (S := fun w' => w'.cell? ⟨gb373, 0, none⟩ = some (.slice (some ad379) l0_0.length c0_0) ∧ w'.cell? ad379 = some (.int .i64 (rd l0_0 0)) ∧ w'.cell? (ad379.add ((ji6)).toNat) = some (.int .i64 (rd l0_0 (ji6)))) (ds := []) (yz 18 0) (by kernel_rfl) rfl rfl ⟨bc BK373 0 _, ((HB.out.cell (World.block_lt_of_cell? w _ hw379_0)).trans hw379_0), ((HB.out.cell (World.block_lt_of_cell? w _ hw380_0)).trans hw380_0)⟩ (fun hHeld => ?_); refine with_tabW spec_BettiElements.tab3 spec_BettiElements.bits3 (fun HT_ HW_ => ?_)
   generalize w12.drew = w13 at BK373 HB hx379_0 hx380_0 hHeld ⊢
   refine pa 2 (some 13) (yz 18 4) HT_ ?_
   refine pa 7 (some 18) (yz 18 132) HT_ ?_
   refine pa 9 (some 20) (yz 18 644) HT_ ?_
   refine tk 0 (some 11) (yz 18 645) HT_ HW_ hHeld ?_
   refine tk 3 (some 14) (yz 18 653) HT_ HW_ hHeld ?_
   refine pa 4 (some 15) (yz 18 669) HT_ ?_
   refine tk 5 (some 16) (yz 18 701) HT_ HW_ hHeld ?_
   refine tk 8 (some 19) (yz 18 957) HT_ HW_ hHeld ?_
   refine tk 10 (some 21) (yz 18 1981) HT_ HW_ hHeld ?_
   refine pa 11 (some 22) (yz 18 4029) HT_ ?_
   refine pa 12 (some 23) (yz 18 8125) HT_ ?_
   refine pa 13 (some 24) (yz 18 16317) HT_ ?_
   refine tk 14 (some 25) (yz 18 32701) HT_ HW_ hHeld ?_
   refine pa 15 (some 26) (yz 18 65469) HT_ ?_
   refine oa 1 (some 12) (yz 18 65471) HT_ (fun K hK => ?_)
   refine gm Try.func65 #[.agg #[.slice (some ad379) l0_0.length c0_0]] ?_
   with_reducible refine (spec_FrobeniusOf.calls k _ _ l0_0 t378 _ ?side1 ?side2 A4.out).mono ?_
   (case side1 => exact co (Kd.C_below HR0_0.out HB.out))
   (case side2 => exact HC0_0.out)
   rintro e w14 ⟨rfl, hb⟩
   refine ⟨_, rfl, ?_⟩
   replace BK373 := kb BK373 hb
   replace HB := am (below_step bw hb)
   clear hb
   refine hK.out _ _ ⟨bc BK373 0 _, ((HB.out.cell (World.block_lt_of_cell? w _ hw379_0)).trans hw379_0), ((HB.out.cell (World.block_lt_of_cell? w _ hw380_0)).trans hw380_0)⟩ (fun hHeld => ?_)
   clear hK K
   refine nm (some 12) ?_
   refine pa 6 (some 17) (yz 18 65535) HT_ ?_
   refine pa 16 (some 27) (yz 18 131071) HT_ ?_
   refine pa 17 (some 4) (yz 18 262143) HT_ ?_
   refine done_ (done_of HT_.out (by kernel_rfl)) ?_
   try go_wp2_with (first | ((with_reducible refine gate_dst (N := 30) rfl ?_); refine Kd.R_lit (Kd.int .i64) _ 3 ?hg (N := 30) ?hd (xs := ([] : List Int)) (inner := []) (ok := fun _ => True) (okp := fun _ => True) ?hr ?hp (fun _ hk => hk) trivial (Below.refl _ _) (Nat.le_refl _) (by simp) ?_; (case hd => rfl); (case hg => rfl); (case hr => first | (go_simp; done) | (go_simp; rfl)); (case hp => exact (Reps.none _ _)); intro v382 w15 ho16 hb hg_ hnew_; clear hg_ hnew_; (first | rw [← Ny381.out] at ho16 | (simp only [Int.reduceToNat] at ho16; rw [← Ny381.out] at ho16)); have HO383 := am (Kd.R_lower ho16 (below_size bw)); replace BK373 := kb BK373 hb; replace HB := am (below_step bw hb); clear hb ho16))
   go_ret2
   exact ⟨_, by first | rfl | (simp [errW_none, errW_some] <;> rfl) | (simp only [← hji6]; first | rfl | (simp [errW_none, errW_some] <;> rfl)) | (simp [*, errW_none, errW_some] <;> rfl), ro HO383.out, bw⟩
  have c9b0 : decide (100 < (wrap64 ((wrap64 (t378 + (rd l0_0 0))) + (wrap64 (2 * (rd l0_0 (ji6))))))) = false := decide_eq_false c9
  clear c9
  obtain ⟨y384, hy384⟩ : ∃ y_ : List Int, y_ = (([] : List Int)) := ⟨_, rfl⟩
  replace H : (spec_BettiElements.l0 k (wrap64 ((wrap64 (t378 + (rd l0_0 0))) + (wrap64 (2 * (rd l0_0 (ji6)))))) y384 1 l0_0) = some (r1, r2) := by first | (rw [hy384]; with_reducible first | exact H | exact bs H) | (with_reducible first | exact bs H | exact H) | (rw [hy384]; exact H) | exact H
  have Ny384 := am hy384
  clear hy384
  have H' := am H
  clear H
  go_enter Try.func35, Try.ntmps35
  try go_wp2_with (first | ((with_reducible refine gate_dst (N := 1) rfl ?_); refine bx 1 #[.slice A0_0 l0_0.length c0_0] 27 ?_; intro gb373 hg w17 hbox hb; have BK373 := am (hbox); have GW373 := am (gs hg : w.heap.size ≤ gb373); have GE373 := GW373; replace HB := am (below_step bw hb); clear hb hbox hg; have hcz18_0 := bc BK373 0 (.slice A0_0 l0_0.length c0_0); have hfz18_0 := blk_frozen BK373.out 0) | ((with_reducible refine gate_callee (f := 58) rfl ?_); refine gl (some 8) Try.func58 #[.agg #[.slice A0_0 l0_0.length c0_0]] ?_; (with_reducible refine (spec_IsSemigroup.calls k _ _ l0_0 true _ ?side1 ?side2 A2.out).mono ?_); (case side1 => exact co (Kd.C_below HR0_0.out HB.out)); (case side2 => exact HC0_0.out); rintro e w19 ⟨rfl, hb⟩; refine ⟨_, rfl, ?_⟩; replace BK373 := kb BK373 hb; replace HB := am (below_step bw hb); clear hb))
  replace BK373 := bd BK373
  replace HB := am (below_drew1 HB.out)
  have p379 : 0 ≤ (0 : Int) := (by omega)
  have q379 : 0 < (l0_0.length : Int) := of_decide_eq_true (by first | (with_reducible assumption) | assumption)
  obtain ⟨ad379, e379, hx379_0⟩ := Kd.at_int HR0_0.out 0 p379 q379
  have hw379_0 := hx379_0
  (try rw [show ((0 : Int)).toNat = 0 from rfl] at hw379_0)
  (try rw [show 0 * 1 = 0 from rfl] at hw379_0)
  (try rw [Addr.add_zero'] at hw379_0)
  cases e379
  have qi379 : (0 < l0_0.length) = True := eq_true (by omega)
  (try rw [show ((0 : Int)).toNat = 0 from rfl] at hx379_0)
  (try rw [Addr.add_zero'] at hx379_0)
  replace hx379_0 := hw HB hx379_0
  replace p379 := eq_true p379
  replace q379 := eq_true q379
  obtain ⟨⟨ad380, e380, hx380_0⟩, p380, q380⟩ := pq (Kd.at_int HR0_0.out (ji6))
  have hw380_0 := hx380_0
  obtain rfl : ad379 = ad380 := (by injection e380)
  replace hx380_0 := hw HB hx380_0
  refine start_ (n := 18) (S := fun w' => w'.cell? ⟨gb373, 0, none⟩ = some (.slice (some ad379) l0_0.length c0_0) ∧ w'.cell? ad379 = some (.int .i64 (rd l0_0 0)) ∧ w'.cell? (ad379.add ((ji6)).toNat) = some (.int .i64 (rd l0_0 (ji6)))) (ds := []) (yz 18 0) (by kernel_rfl) rfl rfl ⟨bc BK373 0 _, ((HB.out.cell (World.block_lt_of_cell? w _ hw379_0)).trans hw379_0), ((HB.out.cell (World.block_lt_of_cell? w _ hw380_0)).trans hw380_0)⟩ (fun hHeld => ?_); refine with_tabW spec_BettiElements.tab3 spec_BettiElements.bits3 (fun HT_ HW_ => ?_)
  generalize w19.drew = w20 at BK373 HB hx379_0 hx380_0 hHeld ⊢
  refine pa 2 (some 13) (yz 18 4) HT_ ?_
  refine pa 7 (some 18) (yz 18 132) HT_ ?_
  refine pa 9 (some 20) (yz 18 644) HT_ ?_
  refine tk 0 (some 11) (yz 18 645) HT_ HW_ hHeld ?_
  refine tk 3 (some 14) (yz 18 653) HT_ HW_ hHeld ?_
  refine pa 4 (some 15) (yz 18 669) HT_ ?_
  refine tk 5 (some 16) (yz 18 701) HT_ HW_ hHeld ?_
  refine tk 8 (some 19) (yz 18 957) HT_ HW_ hHeld ?_
  refine tk 10 (some 21) (yz 18 1981) HT_ HW_ hHeld ?_
  refine pa 11 (some 22) (yz 18 4029) HT_ ?_
  refine pa 12 (some 23) (yz 18 8125) HT_ ?_
  refine pa 13 (some 24) (yz 18 16317) HT_ ?_
  refine tk 14 (some 25) (yz 18 32701) HT_ HW_ hHeld ?_
  refine pa 15 (some 26) (yz 18 65469) HT_ ?_
  refine oa 1 (some 12) (yz 18 65471) HT_ (fun K hK => ?_)
  refine gm Try.func65 #[.agg #[.slice (some ad379) l0_0.length c0_0]] ?_
  with_reducible refine (spec_FrobeniusOf.calls k _ _ l0_0 t378 _ ?side1 ?side2 A4.out).mono ?_
  (case side1 => exact co (Kd.C_below HR0_0.out HB.out))
  (case side2 => exact HC0_0.out)
  rintro e w21 ⟨rfl, hb⟩
  refine ⟨_, rfl, ?_⟩
  replace BK373 := kb BK373 hb
  replace HB := am (below_step bw hb)
  clear hb
  refine hK.out _ _ ⟨bc BK373 0 _, ((HB.out.cell (World.block_lt_of_cell? w _ hw379_0)).trans hw379_0), ((HB.out.cell (World.block_lt_of_cell? w _ hw380_0)).trans hw380_0)⟩ (fun hHeld => ?_)
  clear hK K
  refine nm (some 12) ?_
  refine pa 6 (some 17) (yz 18 65535) HT_ ?_
  refine pa 16 (some 27) (yz 18 131071) HT_ ?_
  refine pa 17 (some 4) (yz 18 262143) HT_ ?_
  refine done_ (done_of HT_.out (by kernel_rfl)) ?_
  try go_wp2_with (first | ((with_reducible refine gate_dst (N := 31) rfl ?_); refine Kd.R_lit (Kd.int .i64) _ 3 ?hg (N := 31) ?hd (xs := ([] : List Int)) (inner := []) (ok := fun _ => True) (okp := fun _ => True) ?hr ?hp (fun _ hk => hk) trivial (Below.refl _ _) (Nat.le_refl _) (by simp) ?_; (case hd => rfl); (case hg => rfl); (case hr => first | (go_simp; done) | (go_simp; rfl)); (case hp => exact (Reps.none _ _)); intro v385 w22 ho23 hb hg_ hnew_; clear hg_ hnew_; (first | rw [← Ny384.out] at ho23 | (simp only [Int.reduceToNat] at ho23; rw [← Ny384.out] at ho23)); have HO386 := am (Kd.R_lower ho23 (below_size bw)); replace BK373 := kb BK373 hb; replace HB := am (below_step bw hb); clear hb ho23))
  go_loopg [5, 6] k (fun kq v5 v6 w' => ∃ (x5_1 : List Int) (x6_1 : Int), v6 = .int .i64 x6_1 ∧ Aside0 (spec_BettiElements.l0 kq (wrap64 ((wrap64 (t378 + (rd l0_0 0))) + (wrap64 (2 * (rd l0_0 (ji6)))))) x5_1 x6_1 l0_0 = some (r1, r2)) ∧ Aside0 (kq ≤ k) ∧ Aside0 (Kd.R (Kd.int .i64) 3 w' w.heap.size (fun _ => True) v5 x5_1) ∧ Aside0 (w'.heap[gb373]? = some (.cells #[(.slice (some ad379) l0_0.length c0_0)] 27 (0, 0))) ∧ Aside0 (Below w.heap.size w w'))
  case atStart => exact ⟨(y384), (1), rr, H', ⟨Nat.le_refl _⟩, ⟨ro HO386.out⟩, ⟨bo BK373.out⟩, ⟨bw⟩⟩
  case round =>
   clear H'
   try clear c5; try clear c5b0; try clear c5b1; try clear c7b0; try clear c8b0; try clear c9; try clear c9b0; try clear hcz11_0; try clear hcz18_0; try clear hfz11_0; try clear hfz18_0; try clear hx379_0; try clear hx380_0; try clear p379; try clear p380; try clear q379; try clear q380
   obtain ⟨x5_1, x6_1, rfl, HA, HK1, HO_5, BK373, HB⟩ := hrel
   cases gk with
   | zero => exact absurd HA.out (by simp [spec_BettiElements.l0])
   | succ k1 =>
    have H := HA.out
    clear HA
    simp only [spec_BettiElements.l0] at H
    replace H := gi H; obtain ⟨c24b0, H⟩ | ⟨c24b0, H⟩ := H
    ·replace H := ga H; obtain ⟨t387, A25, H⟩ := H
     replace H := gj H; obtain ⟨c26, H⟩ | ⟨c26, H⟩ := H
     ·have c26b0 : decide (1 < (t387.length : Int)) = true := decide_eq_true c26
      have c26b1 : decide (1 < t387.length) = true := decide_eq_true (by omega)
      clear c26
      by_cases c27 : x5_1.length < 17592186044416
      rotate_left
      ·rw [if_neg c27] at H
       exact absurd H (by simp)
      rw [if_pos c27] at H
      have LMc27 := am c27
      clear c27
      obtain ⟨y390, hy390⟩ : ∃ y_ : List Int, y_ = (x5_1 ++ [x6_1]) := ⟨_, rfl⟩
      replace H : (spec_BettiElements.l0 k1 (wrap64 ((wrap64 (t378 + (rd l0_0 0))) + (wrap64 (2 * (rd l0_0 (ji6)))))) y390 (wrap64 (x6_1 + 1)) l0_0) = some (r1, r2) := by first | (rw [hy390]; with_reducible first | exact H | exact bs H) | (with_reducible first | exact bs H | exact H) | (rw [hy390]; exact H) | exact H
      have Ny390 := am hy390
      clear hy390
      have H' := am H
      clear H
      have hcz28_0 := bc BK373 0 (.slice (some ad379) l0_0.length c0_0)
      have hfz28_0 := blk_frozen BK373.out 0
      go_wp2_with (first | ((with_reducible refine gate_callee (f := 30) rfl ?_); refine gl (some 39) Try.func30 #[.agg #[.slice (some ad379) l0_0.length c0_0], .int .i64 x6_1] ?_; (with_reducible refine (spec_ClassesOf.calls k1 _ _ l0_0 x6_1 t387 _ ?side1 ?side2 A25.out).mono ?_); (case side1 => exact co (Kd.C_below HR0_0.out HB.out)); (case side2 => exact HC0_0.out); rintro e w29 ⟨v388, rfl, ho0, hb⟩; refine ⟨_, rfl, ?_⟩; have HO389 := am (Kd.N_lower (Kd.N_mono (ok' := fun k_ => some k_ ≠ (u5 : Value).ownBlock ∧ k_ ≠ gb373) ho0 (fun k_ hk_ => ⟨(Kd.fresh' (Kd.R_lt (ro HO_5.out)) k_ hk_), (Kd.freshB (g := gb373) (o := .cells #[.slice (some ad379) l0_0.length c0_0] 27 (0, 0)) (bo BK373.out) k_ hk_)⟩)) (below_size bw)); replace HO_5 := rK HO_5 hb; replace BK373 := kb BK373 hb; replace HB := am (below_step bw hb); clear hb ho0; obtain ⟨Ao30, co30, eo30⟩ := Kd.N_slice HO389.out; subst eo30) | ((with_reducible refine gate_builtin (b := .append) (xs := #[.tmp 42, .tmp 44]) rfl ?_); at_builtin; refine Kd.R_append (Kd.int .i64) (w0 := w) w.heap.size rfl (.tmp 42) (.tmp 44) 22 3 (.int .i64 0) 8 rfl Try.underlying22 info3 rfl (by decide) (by omega) u5 x5_1 x6_1 [.int .i64 x6_1] (fun _ => True) (fun _ => False) rfl rfl ?aP (fun _ hk => hk.elim) ?aF ?aO ?aB ?aS ?aL ?_; (case aP => exact rfl); (case aB => exact bw); (case aF => exact (fun _ _ => trivial)); (case aO => exact (ro HO_5.out)); (case aS => exact (below_size bw)); (case aL => have := LMc27.out; omega); intro v391 w31 ho hb hg hat; rw [← Ny390.out] at ho; replace BK373 := am (blk_grown (g := gb373) (o := .cells #[.slice (some ad379) l0_0.length c0_0] 27 (0, 0)) (bo BK373.out) hg (Kd.R_ne HO_5.out BK373.out (by decide))); replace HO389 := am (Kd.N_afterv (ok := (fun k_ => k_ ≠ gb373)) (by (with_reducible repeat (first | apply Kd.N_alloc | apply Kd.N_drewN | apply Kd.N_drew)); exact Kd.N_mono HO389.out (fun _ hk => by first | exact ⟨hk.2, hk.1⟩ | simp_all)) hg hat); replace HB := am (hb); have HO392 := am (ho); clear HO_5 ho hb hg hat))
      go_roundg k1
      case measure => have := HK1.out; omega
      case rel => exact ⟨(y390), (wrap64 (x6_1 + 1)), rr, H', ⟨by have := HK1.out; omega⟩, ⟨ro HO392.out⟩, ⟨bo BK373.out⟩, ⟨bw⟩⟩
     have c26b0 : decide (1 < (t387.length : Int)) = false := decide_eq_false c26
     have c26b1 : decide (1 < t387.length) = false := decide_eq_false (by omega)
     clear c26
     have H' := am H
     clear H
     have hcz32_0 := bc BK373 0 (.slice (some ad379) l0_0.length c0_0)
     have hfz32_0 := blk_frozen BK373.out 0
     go_wp2_with (first | ((with_reducible refine gate_callee (f := 30) rfl ?_); refine gl (some 39) Try.func30 #[.agg #[.slice (some ad379) l0_0.length c0_0], .int .i64 x6_1] ?_; (with_reducible refine (spec_ClassesOf.calls k1 _ _ l0_0 x6_1 t387 _ ?side1 ?side2 A25.out).mono ?_); (case side1 => exact co (Kd.C_below HR0_0.out HB.out)); (case side2 => exact HC0_0.out); rintro e w33 ⟨v388, rfl, ho0, hb⟩; refine ⟨_, rfl, ?_⟩; have HO389 := am (Kd.N_lower (Kd.N_mono (ok' := fun k_ => some k_ ≠ (u5 : Value).ownBlock ∧ k_ ≠ gb373) ho0 (fun k_ hk_ => ⟨(Kd.fresh' (Kd.R_lt (ro HO_5.out)) k_ hk_), (Kd.freshB (g := gb373) (o := .cells #[.slice (some ad379) l0_0.length c0_0] 27 (0, 0)) (bo BK373.out) k_ hk_)⟩)) (below_size bw)); replace HO_5 := rK HO_5 hb; replace BK373 := kb BK373 hb; replace HB := am (below_step bw hb); clear hb ho0; obtain ⟨Ao34, co34, eo34⟩ := Kd.N_slice HO389.out; subst eo34))
     go_roundg k1
     case measure => have := HK1.out; omega
     case rel => exact ⟨(x5_1), (wrap64 (x6_1 + 1)), rr, H', ⟨by have := HK1.out; omega⟩, ⟨ro HO_5.out⟩, ⟨bo BK373.out⟩, ⟨bw⟩⟩
    simp only [Option.some.injEq, Prod.mk.injEq] at H
    obtain ⟨rfl, rfl⟩ := H
    go_wp2
    go_ret2
    exact ⟨_, by first | rfl | (simp [errW_none, errW_some] <;> rfl) | (simp only [← hji6]; first | rfl | (simp [errW_none, errW_some] <;> rfl)) | (simp [*, errW_none, errW_some] <;> rfl), ro HO_5.out, bw⟩
 obtain ⟨y375, hy375⟩ : ∃ y_ : List Int, y_ = (([] : List Int)) := ⟨_, rfl⟩
 replace H : (some (y375, false)) = some (r1, r2) := by first | (rw [hy375]; with_reducible first | exact H | exact bs H) | (with_reducible first | exact bs H | exact H) | (rw [hy375]; exact H) | exact H
 have Ny375 := am hy375
 clear hy375
 simp only [Option.some.injEq, Prod.mk.injEq] at H
 obtain ⟨rfl, rfl⟩ := H
 go_enter Try.func35, Try.ntmps35
 go_wp2_with (first | ((with_reducible refine gate_dst (N := 1) rfl ?_); refine bx 1 #[.slice A0_0 l0_0.length c0_0] 27 ?_; intro gb373 hg w35 hbox hb; have BK373 := am (hbox); have GW373 := am (gs hg : w.heap.size ≤ gb373); have GE373 := GW373; replace HB := am (below_step bw hb); clear hb hbox hg; have hcz36_0 := bc BK373 0 (.slice A0_0 l0_0.length c0_0); have hfz36_0 := blk_frozen BK373.out 0) | ((with_reducible refine gate_callee (f := 58) rfl ?_); refine gl (some 8) Try.func58 #[.agg #[.slice A0_0 l0_0.length c0_0]] ?_; (with_reducible refine (spec_IsSemigroup.calls k _ _ l0_0 false _ ?side1 ?side2 A2.out).mono ?_); (case side1 => exact co (Kd.C_below HR0_0.out HB.out)); (case side2 => exact HC0_0.out); rintro e w37 ⟨rfl, hb⟩; refine ⟨_, rfl, ?_⟩; replace BK373 := kb BK373 hb; replace HB := am (below_step bw hb); clear hb) | ((with_reducible refine gate_dst (N := 10) rfl ?_); refine Kd.R_lit (Kd.int .i64) _ 3 ?hg (N := 10) ?hd (xs := ([] : List Int)) (inner := []) (ok := fun _ => True) (okp := fun _ => True) ?hr ?hp (fun _ hk => hk) trivial (Below.refl _ _) (Nat.le_refl _) (by simp) ?_; (case hd => rfl); (case hg => rfl); (case hr => first | (go_simp; done) | (go_simp; rfl)); (case hp => exact (Reps.none _ _)); intro v376 w38 ho39 hb hg_ hnew_; clear hg_ hnew_; (first | rw [← Ny375.out] at ho39 | (simp only [Int.reduceToNat] at ho39; rw [← Ny375.out] at ho39)); have HO377 := am (Kd.R_lower ho39 (below_size bw)); replace BK373 := kb BK373 hb; replace HB := am (below_step bw hb); clear hb ho39))
 go_ret2
 exact ⟨_, re, ro HO377.out, bw⟩


/-! ### slices_Clone_int_int: function 84 -/
def slices_Clone_int_int.f (l0 : List Int) : Option (List Int) := if l0.length < 17592186044416 then some l0 else none
theorem slices_Clone_int_int.calls (A0 : Option Addr) (c0 : Nat) (l0 : List Int) (r : List Int) (w : World) (hr0 : Kd.C (Kd.int .i64) w A0 l0.length l0) (hc0 : l0.length ≤ c0) (h : slices_Clone_int_int.f l0 = some r) :
  Calls Try.prog 84 #[.slice A0 l0.length c0] w fun e w' => ∃ v0_ : Value, e = .returned (v0_) ∧ Kd.R (Kd.int .i64) 3 w' w.heap.size (fun _ => True) v0_ r ∧ Below w.heap.size w w' := by
 unfold slices_Clone_int_int.f at h
 by_cases c : l0.length < 17592186044416
 rotate_left
 ·rw [if_neg c] at h
  cases h
 rw [if_pos c] at h
 obtain rfl := Option.some.inj h
 rcases Nat.eq_zero_or_pos l0.length with e0 | hp
 ·have e1 : l0 = [] := List.eq_nil_of_length_eq_zero e0
  subst e1
  cases A0 with
  | none =>
   refine (Try.slices_Clone_int_nil 0 c0 w).mono ?_
   rintro e w' ⟨rfl, rfl⟩
   exact ⟨_, rfl, Kd.R_nil .., Below.refl _ _⟩
  | some a =>
   refine (Try.slices_Clone_int_zero a c0 w).mono ?_
   rintro e w' ⟨v', rfl, ho, _, hb⟩
   exact ⟨_, rfl, Kd.R_of_own ho (fun _ _ => trivial), hb⟩
 ·obtain ⟨ad, rfl, hc⟩ := hr0.2.2 hp
  obtain ⟨b, off, sp⟩ := ad
  have hcell : ∀ j (hj : j < l0.length), w.cell? (Addr.add ⟨b, off, sp⟩ j) = some (.int .i64 l0[j]) := fun j hj => by
   obtain ⟨c, _, e2, h2⟩ := hc j l0[j] (List.getElem?_eq_getElem hj)
   have := h2 0 (.int .i64 l0[j]) (by rw [show c = [.int .i64 l0[j]] from e2]; rfl)
   rwa [show (Kd.int .i64).sz = 1 from rfl, Nat.mul_one, Nat.add_zero] at this
  have hsp : sp = none := by
   have h1 := hcell 0 hp
   rw [Addr.add, if_pos rfl] at h1
   cases sp with
   | none => rfl
   | some x =>
    unfold World.cell? at h1
    simp only [Option.isSome_some, if_true] at h1
    split at h1 <;> cases h1
  subst hsp
  refine (Try.slices_Clone_int b off l0.length c0 l0 w (Nat.le_refl _) (by omega) (fun j hj => ?_)).mono ?_
  ·have := hcell j hj
   rw [Addr.add] at this
   rw [List.getD_eq_getElem?_getD, List.getElem?_eq_getElem hj, Option.getD_some]
   split at this
   ·rename_i hz
    subst hz
    exact this
   ·exact this
  ·rintro e w' ⟨v', rfl, ho, _, hb⟩
   rw [List.take_length] at ho
   exact ⟨_, rfl, Kd.R_of_own ho (fun _ _ => trivial), hb⟩

end Go.Proofs.Ytlfdipnhlmjiaaa.C
