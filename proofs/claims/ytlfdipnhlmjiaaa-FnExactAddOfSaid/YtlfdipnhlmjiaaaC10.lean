/- Contracts of functions of the program: spec_HasNumber, spec_l8Gaps, spec_GapClash, spec_FromGaps, spec_l19Without, spec_l4Gaps, spec_l3Has. -/
import Derived.Test.YtlfdipnhlmjiaaaC0
import Derived.Test.YtlfdipnhlmjiaaaC1
import Derived.Test.YtlfdipnhlmjiaaaC3
namespace Go.Proofs.Ytlfdipnhlmjiaaa.C
open Go.RowKit Go.Proofs.YtlfdipnhlmjiaaaW.PrintWords Go.Proofs.YtlfdipnhlmjiaaaW.PrintLast Go.Proofs.YtlfdipnhlmjiaaaW.PrintMore
attribute [local go_sem] max2_int min2_int max_two min_two max_three min_three max_four min_four
set_option linter.unusedVariables false
set_option linter.unusedSimpArgs false

/-! ### spec_HasNumber: function 98 -/
def spec_HasNumber.l0 : Nat → List Int → Int → Int → Option (Bool)
 | 0, _, _, _ => none
 | k + 1, x0, x1, x5 => if x5 < (x0.length : Int) then (if 0 ≤ x5 then (if (rd x0 x5) = x1 then (some true) else (spec_HasNumber.l0 k x0 x1 (wrap64 (x5 + 1)))) else (none)) else (some false)
def spec_HasNumber.f (k : Nat) (l0 : List Int) (a1 : Int) : Option (Bool) := spec_HasNumber.l0 k l0 a1 0
set_option maxHeartbeats 8000000 in
set_option maxRecDepth 100000 in
theorem spec_HasNumber.calls (k : Nat) (A0 : Option Addr) (c0 : Nat) (l0 : List Int) (a1 : Int) (r : Bool) (w : World) (hr0 : Kd.C (Kd.int .i64) w A0 l0.length l0) (hc0 : l0.length ≤ c0) (h : spec_HasNumber.f k l0 a1 = some r) :
  Calls Try.prog 98 #[.slice A0 l0.length c0, .int .i64 a1] w fun e w' => e = .returned (.bool r) ∧ Drawn0 w w' := by
 have HR0 := Aside0.mk hr0
 have HC0 := Aside0.mk hc0
 clear hr0 hc0
 have H : (spec_HasNumber.l0 k l0 a1 0) = some r := h
 clear h
 have H' := Aside0.mk H
 clear H
 go_enter Try.func98, Try.ntmps98
 go_wp2
 go_loopg [5] k (fun kq v5 w' => ∃ (x5_1 : Int), v5 = .int .i64 x5_1 ∧ Aside0 (spec_HasNumber.l0 kq l0 a1 x5_1 = some r) ∧ Aside0 (kq ≤ k) ∧ Drawn0 w w')
 case atStart => exact ⟨(0), rr, H', ⟨Nat.le_refl _⟩, dw⟩
 case round =>
  clear H'
  obtain ⟨x5_1, rfl, HA, HK1, ⟨m1, rfl⟩⟩ := hrel
  cases gk with
  | zero => exact absurd HA.out (by simp [spec_HasNumber.l0])
  | succ k1 =>
   have H := HA.out
   clear HA
   simp only [spec_HasNumber.l0] at H
   replace H := gi H; obtain ⟨c3b0, H⟩ | ⟨c3b0, H⟩ := H
   ·replace H := gd H; obtain ⟨c4b0, H⟩ := H
    by_cases c5 : (rd l0 x5_1) = a1
    ·rw [if_pos c5] at H
     have c5b0 : ((rd l0 x5_1) == a1) = true := beq_iff_eq.mpr c5
     have c5b1 : ((rd l0 x5_1) != a1) = false := bne_eq_false_iff_eq.mpr c5
     clear c5
     obtain rfl := Option.some.inj H
     obtain ⟨⟨ad524, e524, hx524_0⟩, p524, q524⟩ := pq (Kd.at_int HR0.out x5_1)
     cases e524
     go_wp2
     go_ret
     exact ⟨rr, dw⟩
    ·rw [if_neg c5] at H
     have c5b0 : ((rd l0 x5_1) == a1) = false := beq_eq_false_iff_ne.mpr c5
     have c5b1 : ((rd l0 x5_1) != a1) = true := bne_iff_ne.mpr c5
     have H' := Aside0.mk H
     clear H
     obtain ⟨⟨ad524, e524, hx524_0⟩, p524, q524⟩ := pq (Kd.at_int HR0.out x5_1)
     cases e524
     go_wp2
     go_roundg k1
     case measure => have := HK1.out; omega
     case rel => exact ⟨(wrap64 (x5_1 + 1)), rr, H', ⟨by have := HK1.out; omega⟩, dw⟩
   ·obtain rfl := Option.some.inj H
    go_wp2
    go_ret
    exact ⟨rr, dw⟩


/-! ### spec_l8Gaps: function 125 -/
def spec_l8Gaps.l0 : Nat → List Int → Int → Option (Bool)
 | 0, _, _ => none
 | k + 1, x0, x3 => if x3 < (x0.length : Int) then (if 0 ≤ x3 then ((spec_l1In.f (rd x0 x3) 1 199).bind fun t526 => (if t526 = true then (spec_l8Gaps.l0 k x0 (wrap64 (x3 + 1))) else (some false))) else (none)) else ((spec_IsAscending.f k x0).bind fun t527 => (some t527))
def spec_l8Gaps.f (k : Nat) (l0 : List Int) : Option (Bool) := spec_l8Gaps.l0 k l0 0
set_option maxHeartbeats 8000000 in
set_option maxRecDepth 100000 in
theorem spec_l8Gaps.calls (k : Nat) (A0 : Option Addr) (c0 : Nat) (l0 : List Int) (r : Bool) (w : World) (hr0 : Kd.C (Kd.int .i64) w A0 l0.length l0) (hc0 : l0.length ≤ c0) (h : spec_l8Gaps.f k l0 = some r) :
  Calls Try.prog 125 #[.slice A0 l0.length c0] w fun e w' => e = .returned (.bool r) ∧ Drawn0 w w' := by
 have HR0 := Aside0.mk hr0
 have HC0 := Aside0.mk hc0
 clear hr0 hc0
 have H : (spec_l8Gaps.l0 k l0 0) = some r := h
 clear h
 have H' := Aside0.mk H
 clear H
 go_enter Try.func125, Try.ntmps125
 go_wp2
 go_loopg [3] k (fun kq v3 w' => ∃ (x3_1 : Int), v3 = .int .i64 x3_1 ∧ Aside0 (spec_l8Gaps.l0 kq l0 x3_1 = some r) ∧ Aside0 (kq ≤ k) ∧ Drawn0 w w')
 case atStart => exact ⟨(0), rr, H', ⟨Nat.le_refl _⟩, dw⟩
 case round =>
  clear H'
  obtain ⟨x3_1, rfl, HA, HK1, ⟨m1, rfl⟩⟩ := hrel
  cases gk with
  | zero => exact absurd HA.out (by simp [spec_l8Gaps.l0])
  | succ k1 =>
   have H := HA.out
   clear HA
   simp only [spec_l8Gaps.l0] at H
   replace H := gi H; obtain ⟨c2b0, H⟩ | ⟨c2b0, H⟩ := H
   ·replace H := gd H; obtain ⟨c3b0, H⟩ := H
    replace H := ga H; obtain ⟨t526, A4, H⟩ := H
    replace H := gb H; obtain ⟨rfl, H⟩ | ⟨rfl, H⟩ := H
    ·have H' := Aside0.mk H
     clear H
     obtain ⟨⟨ad525, e525, hx525_0⟩, p525, q525⟩ := pq (Kd.at_int HR0.out x3_1)
     cases e525
     go_wp2_with (first | ((with_reducible refine gate_callee (f := 59) rfl ?_); refine gl (some 14) Try.func59 #[.int .i64 (rd l0 x3_1), .int .i64 1, .int .i64 199] ?_; (with_reducible refine (spec_l1In.calls (rd l0 x3_1) 1 199 true _ A4.out).mono ?_); rintro e w' ⟨rfl, ⟨nd, rfl⟩⟩; refine ⟨_, rfl, ?_⟩))
     go_roundg k1
     case measure => have := HK1.out; omega
     case rel => exact ⟨(wrap64 (x3_1 + 1)), rr, H', ⟨by have := HK1.out; omega⟩, dw⟩
    ·obtain rfl := Option.some.inj H
     obtain ⟨⟨ad525, e525, hx525_0⟩, p525, q525⟩ := pq (Kd.at_int HR0.out x3_1)
     cases e525
     go_wp2_with (first | ((with_reducible refine gate_callee (f := 59) rfl ?_); refine gl (some 14) Try.func59 #[.int .i64 (rd l0 x3_1), .int .i64 1, .int .i64 199] ?_; (with_reducible refine (spec_l1In.calls (rd l0 x3_1) 1 199 false _ A4.out).mono ?_); rintro e w' ⟨rfl, ⟨nd, rfl⟩⟩; refine ⟨_, rfl, ?_⟩))
     go_ret
     exact ⟨rr, dw⟩
   ·replace H := ga H; obtain ⟨t527, A6, H⟩ := H
    obtain rfl := Option.some.inj H
    go_wp2_with (first | ((with_reducible refine gate_callee (f := 107) rfl ?_); refine gl (some 17) Try.func107 #[.slice A0 l0.length c0] ?_; (with_reducible refine (spec_IsAscending.calls k1 _ _ l0 t527 _ ?side1 ?side2 A6.out).mono ?_); (case side1 => exact co HR0.out); (case side2 => exact HC0.out); rintro e w' ⟨rfl, ⟨nd, rfl⟩⟩; refine ⟨_, rfl, ?_⟩))
    go_ret
    exact ⟨rr, dw⟩


/-! ### spec_GapClash: function 124 -/
mutual
def spec_GapClash.j0 : Nat → List Int → Bool → Option (Int × Int × Bool)
 | 0, _, _ => none
 | k + 1, x0, x16 => if x16 = true then (some (0, 0, false)) else (if 0 ≤ (wrap64 ((x0.length : Int) - 1)) then (if (wrap64 ((x0.length : Int) - 1)) < (x0.length : Int) then (if 0 ≤ (wrap64 ((wrap64 (2 * (rd x0 (wrap64 ((x0.length : Int) - 1))))) + 1)) then (if (wrap64 ((wrap64 (2 * (rd x0 (wrap64 ((x0.length : Int) - 1))))) + 1) : Int).toNat ≤ 281474976710656 then (spec_GapClash.l0 k x0 (rd x0 (wrap64 ((x0.length : Int) - 1))) (List.replicate (wrap64 ((wrap64 (2 * (rd x0 (wrap64 ((x0.length : Int) - 1))))) + 1) : Int).toNat false) 0) else (none)) else (none)) else (none)) else (none))
def spec_GapClash.l0 : Nat → List Int → Int → List Bool → Int → Option (Int × Int × Bool)
 | 0, _, _, _, _ => none
 | k + 1, x0, x4, x5, x6 => if x6 < (x0.length : Int) then (if 0 ≤ x6 then (if 0 ≤ (rd x0 x6) then (if (rd x0 x6) < (x5.length : Int) then (spec_GapClash.l0 k x0 x4 (x5.set ((rd x0 x6) : Int).toNat true) (wrap64 (x6 + 1))) else (none)) else (none)) else (none)) else (spec_GapClash.l1 k x4 x5 1)
def spec_GapClash.l1 : Nat → Int → List Bool → Int → Option (Int × Int × Bool)
 | 0, _, _, _ => none
 | k + 1, x4, x5, x7 => if x7 ≤ x4 then (spec_GapClash.l2 k x4 x5 x7 x7) else (some (0, 0, false))
def spec_GapClash.l2 : Nat → Int → List Bool → Int → Int → Option (Int × Int × Bool)
 | 0, _, _, _, _ => none
 | k + 1, x4, x5, x7, x8 => if (wrap64 (x7 + x8)) ≤ x4 then (if 0 ≤ x7 then (if x7 < (x5.length : Int) then (spec_GapClash.j4 k x4 x5 x7 x8 (!(rdOf false x5 x7))) else (none)) else (none)) else (spec_GapClash.j4 k x4 x5 x7 x8 false)
def spec_GapClash.j4 : Nat → Int → List Bool → Int → Int → Bool → Option (Int × Int × Bool)
 | 0, _, _, _, _, _ => none
 | k + 1, x4, x5, x7, x8, x57 => if x57 = true then (if 0 ≤ x8 then (if x8 < (x5.length : Int) then (if rdOf false x5 x8 = true then (spec_GapClash.l2 k x4 x5 x7 (wrap64 (x8 + 1))) else (if 0 ≤ (wrap64 (x7 + x8)) then (if (wrap64 (x7 + x8)) < (x5.length : Int) then (if rdOf false x5 (wrap64 (x7 + x8)) = true then (some (x7, x8, true)) else (spec_GapClash.l2 k x4 x5 x7 (wrap64 (x8 + 1)))) else (none)) else (none))) else (none)) else (none)) else (spec_GapClash.l1 k x4 x5 (wrap64 (x7 + 1)))
end
def spec_GapClash.f (k : Nat) (l0 : List Int) : Option (Int × Int × Bool) := (spec_l8Gaps.f k l0).bind fun t529 => (if t529 = true then (spec_GapClash.j0 k l0 ((l0.length : Int) == 0)) else (spec_GapClash.j0 k l0 true))
set_option maxHeartbeats 8000000 in
set_option maxRecDepth 100000 in
theorem spec_GapClash.calls (k : Nat) (A0 : Option Addr) (c0 : Nat) (l0 : List Int) (r1 : Int) (r2 : Int) (r3 : Bool) (w : World) (hr0 : Kd.C (Kd.int .i64) w A0 l0.length l0) (hc0 : l0.length ≤ c0) (h : spec_GapClash.f k l0 = some (r1, r2, r3)) :
  Calls Try.prog 124 #[.slice A0 l0.length c0] w fun e w' => e = .returned (.tuple #[.agg #[.int .i64 r1, .int .i64 r2], .bool r3]) ∧ Below w.heap.size w w' := by
 have hu94 := Try.underlying94
 have HR0 := Aside0.mk hr0
 have HC0 := Aside0.mk hc0
 clear hr0 hc0
 have HB := Aside0.mk (Below.refl w.heap.size w)
 have H : ((spec_l8Gaps.f k l0).bind fun t529 => (if t529 = true then (spec_GapClash.j0 k l0 ((l0.length : Int) == 0)) else (spec_GapClash.j0 k l0 true))) = some (r1, r2, r3) := h
 clear h
 have HC2 := Aside0.mk H
 clear H
 go_enter Try.func124, Try.ntmps124
 go_upto_region 1 with (first | ((with_reducible refine gate_dst (N := 2) rfl ?_); (try (refine gate_guard (by rfl) ?_; dsimp only)); refine bx 2 #[.int .i64 0, .int .i64 0] 94 ?_; intro gb528 hg w3 hbox hb; have BK528 := Aside0.mk (hbox); have GW528 := Aside0.mk (gs hg : w.heap.size ≤ gb528); have GE528 := Aside0.mk (gs hg : w.heap.size ≤ gb528); replace HB := Aside0.mk (below_step bw hb); clear hb hbox hg))
 (try simp only [Act.put, List.setIfInBounds_toArray, List.set_cons_zero, List.set_cons_succ])
 go_cut [16] (fun v16 wc => ∃ (kq : Nat) (x16_1 : Bool), v16 = .bool x16_1 ∧ Aside0 (spec_GapClash.j0 kq l0 x16_1 = some (r1, r2, r3)) ∧ Aside0 (kq ≤ k) ∧ Aside0 (wc.heap[gb528]? = some (.cells #[.int .i64 0, .int .i64 0] 94 (0, 0))) ∧ Aside0 (Below w.heap.size w wc))
 case first =>
  have H := HC2.out
  clear HC2
  replace H := ga H; obtain ⟨t529, A4, H⟩ := H
  replace H := gb H; obtain ⟨rfl, H⟩ | ⟨rfl, H⟩ := H
  ·have H' := Aside0.mk H
   clear H
   go_wp2_with (first | ((with_reducible refine gate_callee (f := 125) rfl ?_); refine gl (some 10) Try.func125 #[.slice A0 l0.length c0] ?_; (with_reducible refine (spec_l8Gaps.calls k _ _ l0 true _ ?side1 ?side2 A4.out).mono ?_); (case side1 => exact co (Kd.C_below HR0.out HB.out)); (case side2 => exact HC0.out); rintro e w' ⟨rfl, ⟨nd, rfl⟩⟩; refine ⟨_, rfl, ?_⟩))
   go_meet
   case rel => exact ⟨_, (((l0.length : Int) == 0)), rr, H', ⟨om⟩, ⟨bo BK528.out⟩, ⟨bw⟩⟩
  ·have H' := Aside0.mk H
   clear H
   go_wp2_with (first | ((with_reducible refine gate_callee (f := 125) rfl ?_); refine gl (some 10) Try.func125 #[.slice A0 l0.length c0] ?_; (with_reducible refine (spec_l8Gaps.calls k _ _ l0 false _ ?side1 ?side2 A4.out).mono ?_); (case side1 => exact co (Kd.C_below HR0.out HB.out)); (case side2 => exact HC0.out); rintro e w' ⟨rfl, ⟨nd, rfl⟩⟩; refine ⟨_, rfl, ?_⟩))
   go_meet
   case rel => exact ⟨_, (true), rr, H', ⟨om⟩, ⟨bo BK528.out⟩, ⟨bw⟩⟩
 case rest =>
  clear HC2
  obtain ⟨kq, x16_1, rfl, HA, HJ1, BK528, HB⟩ := hcut
  cases kq with
  | zero => exact absurd HA.out (by simp [spec_GapClash.j0])
  | succ kj1 =>
   have H := HA.out
   clear HA
   simp only [spec_GapClash.j0] at H
   replace H := gb H; obtain ⟨rfl, H⟩ | ⟨rfl, H⟩ := H
   ·simp only [Option.some.injEq, Prod.mk.injEq] at H
    obtain ⟨rfl, rfl, rfl⟩ := H
    have hcz7_0 := bc BK528 0 (.int .i64 0)
    have hcz7_1 := bc BK528 1 (.int .i64 0)
    have hfz7_0 := blk_frozen BK528.out 0
    have hfz7_1 := blk_frozen BK528.out 1
    go_wp2
    refine bodyPost_ret (results_ct rfl _ _ gb528 94 #[.int .i64 0, .int .i64 0] (0, 0) _ rfl (by (with_reducible repeat (first | refine blk_drewN ?_ _ | refine blk_drew ?_ | refine blk_alloc ?_ _)); refine blk_put (cs := #[.int .i64 0, .int .i64 0]) ?_ 1 _ rfl; (with_reducible repeat (first | refine blk_drewN ?_ _ | refine blk_drew ?_ | refine blk_alloc ?_ _)); refine blk_put (cs := #[.int .i64 0, .int .i64 0]) ?_ 0 _ rfl; (with_reducible repeat (first | refine blk_drewN ?_ _ | refine blk_drew ?_ | refine blk_alloc ?_ _)); exact BK528.out) Try.underlying94 rfl (by kernel_rfl)) rfl ?_
    exact ⟨re, bw⟩
   ·obtain ⟨ji8, hji8⟩ : ∃ j_ : Int, (wrap64 ((l0.length : Int) - 1)) = j_ := ⟨_, rfl⟩
    replace H : (if 0 ≤ (ji8) then (if (ji8) < (l0.length : Int) then (if 0 ≤ (wrap64 ((wrap64 (2 * (rd l0 (ji8)))) + 1)) then (if (wrap64 ((wrap64 (2 * (rd l0 (ji8)))) + 1) : Int).toNat ≤ 281474976710656 then (spec_GapClash.l0 kj1 l0 (rd l0 (ji8)) (List.replicate (wrap64 ((wrap64 (2 * (rd l0 (ji8)))) + 1) : Int).toNat false) 0) else (none)) else (none)) else (none)) else (none)) = some (r1, r2, r3) := by first | (rw [hji8] at H; exact H) | (simp only [hji8] at H ⊢; exact H)
    have hji8w : (IntKind.i64.wrap ((l0.length : Int) - 1)) = ji8 := (i64_w _).trans hji8
    replace H := gd H; obtain ⟨c9b0, H⟩ := H
    replace H := gd H; obtain ⟨c10b0, H⟩ := H
    obtain ⟨ji11, hji11⟩ : ∃ j_ : Int, (wrap64 ((wrap64 (2 * (rd l0 (ji8)))) + 1)) = j_ := ⟨_, rfl⟩
    replace H : (if 0 ≤ (ji11) then (if (ji11 : Int).toNat ≤ 281474976710656 then (spec_GapClash.l0 kj1 l0 (rd l0 (ji8)) (List.replicate (ji11 : Int).toNat false) 0) else (none)) else (none)) = some (r1, r2, r3) := by first | (rw [hji11] at H; exact H) | (simp only [hji11] at H ⊢; exact H)
    have hji11w : (IntKind.i64.wrap ((wrap64 (2 * (rd l0 (ji8)))) + 1)) = ji11 := (i64_w _).trans hji11
    replace H := gp H; obtain ⟨c12, H⟩ := H
    have c12b0 := eq_true c12
    have c12b1 : decide (0 ≤ (ji11)) = true := decide_eq_true c12
    clear c12
    replace H := gp H; obtain ⟨c13, H⟩ := H
    have c13b0 := eq_true c13
    have c13b1 : decide ((ji11 : Int).toNat ≤ 281474976710656) = true := decide_eq_true c13
    clear c13
    obtain ⟨y531, hy531⟩ : ∃ y_ : List Bool, y_ = (List.replicate (ji11 : Int).toNat false) := ⟨_, rfl⟩
    replace H : (spec_GapClash.l0 kj1 l0 (rd l0 (ji8)) y531 0) = some (r1, r2, r3) := by first | (rw [hy531]; with_reducible exact H) | (have H2_ := (Option.bind_some _ _).symm.trans H; rw [hy531]; with_reducible exact H2_) | (have H2_ := (Option.bind_some _ _).symm.trans H; with_reducible exact H2_) | with_reducible exact H | (rw [hy531]; exact H) | exact H
    have Ny531 := Aside0.mk hy531
    clear hy531
    have H' := Aside0.mk H
    clear H
    obtain ⟨⟨ad530, e530, hx530_0⟩, p530, q530⟩ := pq (Kd.at_int HR0.out (ji8))
    cases e530
    replace hx530_0 := (HB.out.cell (World.block_lt_of_cell? w _ hx530_0)).trans hx530_0
    go_wp2_with (first | ((with_reducible refine gate_dst (N := 27) rfl ?_); (try (refine gate_guard (by rfl) ?_; dsimp only)); refine Kd.R_make Kd.bool _ 4 rfl (N := 27) rfl 90 _ _ rfl ji11 rfl rfl Try.underlying90 (.bool false) 1 info4 rfl (by decide) (by omega) false (ok := fun _ => True) (okp := fun _ => True) rfl (fun _ hk => hk) trivial (of_decide_eq_true (by first | (with_reducible assumption) | assumption)) (Nat.le_trans (Nat.mul_le_mul_right _ (of_decide_eq_true (by first | (with_reducible assumption) | assumption) : ji11.toNat ≤ 281474976710656)) (by omega)) (Below.refl _ _) (Nat.le_refl _) ?_; intro v532 w14 ho15 hb hg_ hnew_; clear hg_ hnew_; (first | rw [← Ny531.out] at ho15 | (simp only [Int.reduceToNat] at ho15; rw [← Ny531.out] at ho15)); have HO533 := Aside0.mk (Kd.R_lower ho15 (below_size bw)); replace BK528 := Aside0.mk (blk_below (g := gb528) (o := .cells #[.int .i64 0, .int .i64 0] 94 (0, 0)) (bo BK528.out) hb); replace HB := Aside0.mk (below_step bw hb); clear hb ho15))
    go_loopg [6] kj1 (fun kq v6 w' => ∃ (x5_2 : List Bool) (x6_2 : Int), v6 = .int .i64 x6_2 ∧ Aside0 (spec_GapClash.l0 kq l0 (rd l0 (ji8)) x5_2 x6_2 = some (r1, r2, r3)) ∧ Aside0 (kq ≤ kj1) ∧ Aside0 (Kd.R Kd.bool 4 w' w.heap.size (fun _ => True) v532 x5_2) ∧ Aside0 (w'.heap[gb528]? = some (.cells #[.int .i64 0, .int .i64 0] 94 (0, 0))) ∧ Aside0 (Below w.heap.size w w'))
    case atStart => exact ⟨(y531), (0), rr, H', ⟨Nat.le_refl _⟩, ⟨ro HO533.out⟩, ⟨bo BK528.out⟩, ⟨bw⟩⟩
    case round =>
     clear H'
     try clear c9b0; try clear c10b0; try clear c12; try clear c12b0; try clear c12b1; try clear c13; try clear c13b0; try clear c13b1; try clear hcz7_0; try clear hcz7_1; try clear hfz7_0; try clear hfz7_1; try clear hx530_0; try clear p530; try clear q530
     obtain ⟨x5_2, x6_2, rfl, HA, HK2, HO_5, BK528, HB⟩ := hrel
     cases gk with
     | zero => exact absurd HA.out (by simp [spec_GapClash.l0])
     | succ k2 =>
      have H := HA.out
      clear HA
      simp only [spec_GapClash.l0] at H
      replace H := gi H; obtain ⟨c16b0, H⟩ | ⟨c16b0, H⟩ := H
      ·replace H := gd H; obtain ⟨c17b0, H⟩ := H
       replace H := gd H; obtain ⟨c18b0, H⟩ := H
       replace H := gd H; obtain ⟨c19b0, H⟩ := H
       obtain ⟨y535, hy535⟩ : ∃ y_ : List Bool, y_ = (x5_2.set ((rd l0 x6_2) : Int).toNat true) := ⟨_, rfl⟩
       replace H : (spec_GapClash.l0 k2 l0 (rd l0 (ji8)) y535 (wrap64 (x6_2 + 1))) = some (r1, r2, r3) := by first | (rw [hy535]; with_reducible exact H) | (have H2_ := (Option.bind_some _ _).symm.trans H; rw [hy535]; with_reducible exact H2_) | (have H2_ := (Option.bind_some _ _).symm.trans H; with_reducible exact H2_) | with_reducible exact H | (rw [hy535]; exact H) | exact H
       have Ny535 := Aside0.mk hy535
       clear hy535
       have H' := Aside0.mk H
       clear H
       obtain ⟨⟨ad534, e534, hx534_0⟩, p534, q534⟩ := pq (Kd.at_int HR0.out x6_2)
       obtain rfl : ad530 = ad534 := (by injection e534)
       replace hx534_0 := (HB.out.cell (World.block_lt_of_cell? w _ hx534_0)).trans hx534_0
       have p20 : 0 ≤ ((rd l0 x6_2) : Int) := of_decide_eq_true (by first | (with_reducible assumption) | assumption)
       have q20 : ((rd l0 x6_2) : Int) < ((x5_2.length : Int) : Int) := of_decide_eq_true (by first | (with_reducible assumption) | assumption)
       obtain ⟨go20, co20, eo20, gb20, gl20, cl20, HG20⟩ := Kd.R_form HO_5.out (by omega)
       (first | cases eo20 | (injection eo20 with ea_ en_ ec_; (first | subst ea_ | (injection ea_ with ea_; subst ea_)); subst ec_; clear en_))
       have GB20 := Aside0.mk gb20
       have GG20 := Aside0.mk HG20
       clear gb20 gl20 HG20
       obtain ⟨hx20_0, hf20_0⟩ := Kd.R_celln false HO_5.out ((rd l0 x6_2) : Int) p20 q20
       replace p20 := eq_true p20
       replace q20 := eq_true q20
       have HP21 := Kd.R_putg HO_5.out ((rd l0 x6_2) : Int) true
       go_wp2_with (first | ((with_reducible refine gate_store (t := 4) (p := 39) rfl ?_); refine store_event (t := 4) (p := 39) (v := ?vo_w22) (w1 := (wr.setCell ⟨go20, ((rd l0 x6_2) : Int).toNat, none⟩ (.bool true))) ?hg ?ho ?hn ?hr ?_; (case ho => rfl); (case hg => rfl); (case hn => rfl); (case hr => first | (go_simp; done) | (go_simp; rfl)); intro w22 hw; have hg : wr.grownBy w22 (some go20) := (by rw [hw]; exact HP21.2); have hp_ : Kd.R Kd.bool 4 w22 w.heap.size (fun _ => True) (.slice (some ⟨go20, 0, none⟩) x5_2.length co20) y535 := (by rw [hw, Ny535.out]; exact HP21.1); clear HP21; replace BK528 := Aside0.mk (blk_grown (g := gb528) (o := .cells #[.int .i64 0, .int .i64 0] 94 (0, 0)) (bo BK528.out) hg (Kd.R_ne HO_5.out BK528.out (by decide))); replace HO_5 := Aside0.mk (hp_); replace HB := Aside0.mk ((by rw [hw]; exact below_set (HB.out) GB20.out : Below w.heap.size w w22)); clear hg hw hp_))
       go_roundg k2
       case measure => have := HJ1.out; have := HK2.out; omega
       case rel => exact ⟨(y535), (wrap64 (x6_2 + 1)), rr, H', ⟨by have := HJ1.out; have := HK2.out; omega⟩, ⟨ro HO_5.out⟩, ⟨bo BK528.out⟩, ⟨bw⟩⟩
      ·have H' := Aside0.mk H
       clear H
       go_wp2
       go_loopg [7] k2 (fun kq v7 w' => ∃ (x7_3 : Int) (x529000_3 : Int) (x529001_3 : Int), v7 = .int .i64 x7_3 ∧ Aside0 (spec_GapClash.l1 kq (rd l0 (ji8)) x5_2 x7_3 = some (r1, r2, r3)) ∧ Aside0 (kq ≤ k2) ∧ Aside0 (Kd.R Kd.bool 4 w' w.heap.size (fun _ => True) v532 x5_2) ∧ Aside0 (w'.heap[gb528]? = some (.cells #[.int .i64 x529000_3, .int .i64 x529001_3] 94 (0, 0))) ∧ Aside0 (Below w.heap.size w w'))
       case atStart => exact ⟨(1), (0), (0), rr, H', ⟨Nat.le_refl _⟩, ⟨ro HO_5.out⟩, ⟨bo BK528.out⟩, ⟨bw⟩⟩
       case round =>
        clear H'
        try clear c9b0; try clear c10b0; try clear c12; try clear c12b0; try clear c12b1; try clear c13; try clear c13b0; try clear c13b1; try clear c16b0; try clear c17b0; try clear c18b0; try clear c19b0; try clear p20; try clear q20; try clear hcz7_0; try clear hcz7_1; try clear hfz7_0; try clear hfz7_1; try clear hx20_0; try clear hx530_0; try clear hx534_0; try clear p530; try clear p534; try clear q530; try clear q534
        obtain ⟨x7_3, x529000_3, x529001_3, rfl, HA, HK3, HO_5, BK528, HB⟩ := hrel
        cases gk with
        | zero => exact absurd HA.out (by simp [spec_GapClash.l1])
        | succ k3 =>
         have H := HA.out
         clear HA
         simp only [spec_GapClash.l1] at H
         replace H := gi H; obtain ⟨c23b0, H⟩ | ⟨c23b0, H⟩ := H
         ·have H' := Aside0.mk H
          clear H
          go_wp2
          go_loopg [8] k3 (fun kq v8 w' => ∃ (x8_4 : Int) (x529000_4 : Int) (x529001_4 : Int), v8 = .int .i64 x8_4 ∧ Aside0 (spec_GapClash.l2 kq (rd l0 (ji8)) x5_2 x7_3 x8_4 = some (r1, r2, r3)) ∧ Aside0 (kq ≤ k3) ∧ Aside0 (Kd.R Kd.bool 4 w' w.heap.size (fun _ => True) v532 x5_2) ∧ Aside0 (w'.heap[gb528]? = some (.cells #[.int .i64 x529000_4, .int .i64 x529001_4] 94 (0, 0))) ∧ Aside0 (Below w.heap.size w w'))
          case atStart => exact ⟨(x7_3), (x529000_3), (x529001_3), rr, H', ⟨Nat.le_refl _⟩, ⟨ro HO_5.out⟩, ⟨bo BK528.out⟩, ⟨bw⟩⟩
          case round =>
           clear H'
           try clear c9b0; try clear c10b0; try clear c12; try clear c12b0; try clear c12b1; try clear c13; try clear c13b0; try clear c13b1; try clear c16b0; try clear c17b0; try clear c18b0; try clear c19b0; try clear p20; try clear q20; try clear c23b0; try clear hcz7_0; try clear hcz7_1; try clear hfz7_0; try clear hfz7_1; try clear hx20_0; try clear hx530_0; try clear hx534_0; try clear p530; try clear p534; try clear q530; try clear q534
           obtain ⟨x8_4, x529000_4, x529001_4, rfl, HA, HK4, HO_5, BK528, HB⟩ := hrel
           cases gk with
           | zero => exact absurd HA.out (by simp [spec_GapClash.l2])
           | succ k4 =>
            have H := HA.out
            clear HA
            simp only [spec_GapClash.l2] at H
            have HC24 := Aside0.mk H
            clear H
            go_upto_region 13 with (fail)
            go_cut [57] (fun v57 wc => ∃ (kq : Nat) (x57_23 : Bool), v57 = .bool x57_23 ∧ Aside0 (spec_GapClash.j4 kq (rd l0 (ji8)) x5_2 x7_3 x8_4 x57_23 = some (r1, r2, r3)) ∧ Aside0 (kq ≤ k4) ∧ Aside0 (Kd.R Kd.bool 4 wc w.heap.size (fun _ => True) v532 x5_2) ∧ Aside0 (wc.heap[gb528]? = some (.cells #[.int .i64 x529000_4, .int .i64 x529001_4] 94 (0, 0))) ∧ Aside0 (Below w.heap.size w wc))
            case first =>
             have H := HC24.out
             clear HC24
             replace H := gi H; obtain ⟨c25b0, H⟩ | ⟨c25b0, H⟩ := H
             ·(first | rw [c25b0] | (simp only [i64_w, i32_w]; rw [c25b0]) | skip)
              replace H := gd H; obtain ⟨c26b0, H⟩ := H
              replace H := gd H; obtain ⟨c27b0, H⟩ := H
              have H' := Aside0.mk H
              clear H
              obtain ⟨Ao28, co28, eo28⟩ := Kd.R_slice HO_5.out
              subst eo28
              obtain ⟨⟨ad536, e536, hx536_0⟩, p536, q536⟩ := pq (Kd.at_bool (Kd.R_reads' HO_5.out).2.2 x7_3)
              cases e536
              go_wp2
              go_meet
              case rel => exact ⟨_, (!(rdOf false x5_2 x7_3)), rr, H', ⟨by have := HJ1.out; have := HK2.out; have := HK3.out; have := HK4.out; first | omega | exact Nat.le_refl _⟩, ⟨ro HO_5.out⟩, ⟨bo BK528.out⟩, ⟨bw⟩⟩
             ·(first | rw [c25b0] | (simp only [i64_w, i32_w]; rw [c25b0]) | skip)
              have H' := Aside0.mk H
              clear H
              go_wp2
              go_meet
              case rel => exact ⟨_, (false), rr, H', ⟨by have := HJ1.out; have := HK2.out; have := HK3.out; have := HK4.out; first | omega | exact Nat.le_refl _⟩, ⟨ro HO_5.out⟩, ⟨bo BK528.out⟩, ⟨bw⟩⟩
            case rest =>
             clear HC24
             try clear c9b0; try clear c10b0; try clear c12; try clear c12b0; try clear c12b1; try clear c13; try clear c13b0; try clear c13b1; try clear c16b0; try clear c17b0; try clear c18b0; try clear c19b0; try clear p20; try clear q20; try clear c23b0; try clear c25b0; try clear c26b0; try clear c27b0; try clear hcz7_0; try clear hcz7_1; try clear hfz7_0; try clear hfz7_1; try clear hx20_0; try clear hx530_0; try clear hx534_0; try clear hx536_0; try clear p530; try clear p534; try clear p536; try clear q530; try clear q534; try clear q536
             obtain ⟨kq, x57_23, rfl, HA, HJ23, HO_5, BK528, HB⟩ := hcut
             cases kq with
             | zero => exact absurd HA.out (by simp [spec_GapClash.j4])
             | succ kj23 =>
              have H := HA.out
              clear HA
              simp only [spec_GapClash.j4] at H
              replace H := gb H; obtain ⟨rfl, H⟩ | ⟨rfl, H⟩ := H
              ·replace H := gd H; obtain ⟨c30b0, H⟩ := H
               replace H := gd H; obtain ⟨c31b0, H⟩ := H
               obtain ⟨bq32, hbq32⟩ : ∃ b_ : Bool, b_ = (rdOf false x5_2 x8_4) := ⟨_, rfl⟩
               replace H : (if bq32 = true then (spec_GapClash.l2 kj23 (rd l0 (ji8)) x5_2 x7_3 (wrap64 (x8_4 + 1))) else (if 0 ≤ (wrap64 (x7_3 + x8_4)) then (if (wrap64 (x7_3 + x8_4)) < (x5_2.length : Int) then (if rdOf false x5_2 (wrap64 (x7_3 + x8_4)) = true then (some (x7_3, x8_4, true)) else (spec_GapClash.l2 kj23 (rd l0 (ji8)) x5_2 x7_3 (wrap64 (x8_4 + 1)))) else (none)) else (none))) = some (r1, r2, r3) := by rw [← hbq32] at H; exact H
               have Nbq32 := Aside0.mk hbq32
               clear hbq32
               replace H := gb H; obtain ⟨rfl, H⟩ | ⟨rfl, H⟩ := H
               ·have H' := Aside0.mk H
                clear H
                obtain ⟨Ao34, co34, eo34⟩ := Kd.R_slice HO_5.out
                subst eo34
                obtain ⟨⟨ad537, e537, hx537_0⟩, p537, q537⟩ := pq (Kd.at_bool (Kd.R_reads' HO_5.out).2.2 x8_4)
                (try rw [← Nbq32.out] at hx537_0)
                cases e537
                go_wp2
                go_roundg kj23
                case measure => have := HJ1.out; have := HK2.out; have := HK3.out; have := HK4.out; have := HJ23.out; omega
                case rel => exact ⟨(wrap64 (x8_4 + 1)), (x529000_4), (x529001_4), rr, H', ⟨by have := HJ1.out; have := HK2.out; have := HK3.out; have := HK4.out; have := HJ23.out; omega⟩, ⟨ro HO_5.out⟩, ⟨bo BK528.out⟩, ⟨bw⟩⟩
               ·obtain ⟨ji35, hji35⟩ : ∃ j_ : Int, (wrap64 (x7_3 + x8_4)) = j_ := ⟨_, rfl⟩
                replace H : (if 0 ≤ (ji35) then (if (ji35) < (x5_2.length : Int) then (if rdOf false x5_2 (ji35) = true then (some (x7_3, x8_4, true)) else (spec_GapClash.l2 kj23 (rd l0 (ji8)) x5_2 x7_3 (wrap64 (x8_4 + 1)))) else (none)) else (none)) = some (r1, r2, r3) := by first | (rw [hji35] at H; exact H) | (simp only [hji35] at H ⊢; exact H)
                have hji35w : (IntKind.i64.wrap (x7_3 + x8_4)) = ji35 := (i64_w _).trans hji35
                replace H := gd H; obtain ⟨c36b0, H⟩ := H
                replace H := gd H; obtain ⟨c37b0, H⟩ := H
                obtain ⟨bq38, hbq38⟩ : ∃ b_ : Bool, b_ = (rdOf false x5_2 (ji35)) := ⟨_, rfl⟩
                replace H : (if bq38 = true then (some (x7_3, x8_4, true)) else (spec_GapClash.l2 kj23 (rd l0 (ji8)) x5_2 x7_3 (wrap64 (x8_4 + 1)))) = some (r1, r2, r3) := by rw [← hbq38] at H; exact H
                have Nbq38 := Aside0.mk hbq38
                clear hbq38
                replace H := gb H; obtain ⟨rfl, H⟩ | ⟨rfl, H⟩ := H
                ·simp only [Option.some.injEq, Prod.mk.injEq] at H
                 obtain ⟨rfl, rfl, rfl⟩ := H
                 obtain ⟨Ao40, co40, eo40⟩ := Kd.R_slice HO_5.out
                 subst eo40
                 obtain ⟨⟨ad537, e537, hx537_0⟩, p537, q537⟩ := pq (Kd.at_bool (Kd.R_reads' HO_5.out).2.2 x8_4)
                 (try rw [← Nbq32.out] at hx537_0)
                 (try rw [← Nbq38.out] at hx537_0)
                 cases e537
                 obtain ⟨⟨ad538, e538, hx538_0⟩, p538, q538⟩ := pq (Kd.at_bool (Kd.R_reads' HO_5.out).2.2 (ji35))
                 (try rw [← Nbq32.out] at hx538_0)
                 (try rw [← Nbq38.out] at hx538_0)
                 obtain rfl : ad537 = ad538 := (by injection e538)
                 have hcz41_0 := bc BK528 0 (.int .i64 x529000_4)
                 have hcz41_1 := bc BK528 1 (.int .i64 x529001_4)
                 have hfz41_0 := blk_frozen BK528.out 0
                 have hfz41_1 := blk_frozen BK528.out 1
                 go_wp2
                 refine bodyPost_ret (results_ct rfl _ _ gb528 94 #[.int .i64 x7_3, .int .i64 x8_4] (0, 0) _ rfl (by (with_reducible repeat (first | refine blk_drewN ?_ _ | refine blk_drew ?_ | refine blk_alloc ?_ _)); refine blk_put (cs := #[.int .i64 x7_3, .int .i64 x529001_4]) ?_ 1 _ rfl; (with_reducible repeat (first | refine blk_drewN ?_ _ | refine blk_drew ?_ | refine blk_alloc ?_ _)); refine blk_put (cs := #[.int .i64 x529000_4, .int .i64 x529001_4]) ?_ 0 _ rfl; (with_reducible repeat (first | refine blk_drewN ?_ _ | refine blk_drew ?_ | refine blk_alloc ?_ _)); exact BK528.out) Try.underlying94 rfl (by kernel_rfl)) rfl ?_
                 exact ⟨by first | rfl | (simp [errW_none, errW_some] <;> rfl) | (simp only [← hji8, ← hji11, ← hji35]; first | rfl | (simp [errW_none, errW_some] <;> rfl)) | (simp [*, errW_none, errW_some] <;> rfl), bw⟩
                ·have H' := Aside0.mk H
                 clear H
                 obtain ⟨Ao42, co42, eo42⟩ := Kd.R_slice HO_5.out
                 subst eo42
                 obtain ⟨⟨ad537, e537, hx537_0⟩, p537, q537⟩ := pq (Kd.at_bool (Kd.R_reads' HO_5.out).2.2 x8_4)
                 (try rw [← Nbq32.out] at hx537_0)
                 (try rw [← Nbq38.out] at hx537_0)
                 cases e537
                 obtain ⟨⟨ad538, e538, hx538_0⟩, p538, q538⟩ := pq (Kd.at_bool (Kd.R_reads' HO_5.out).2.2 (ji35))
                 (try rw [← Nbq32.out] at hx538_0)
                 (try rw [← Nbq38.out] at hx538_0)
                 obtain rfl : ad537 = ad538 := (by injection e538)
                 go_wp2
                 go_roundg kj23
                 case measure => have := HJ1.out; have := HK2.out; have := HK3.out; have := HK4.out; have := HJ23.out; omega
                 case rel => exact ⟨(wrap64 (x8_4 + 1)), (x529000_4), (x529001_4), rr, H', ⟨by have := HJ1.out; have := HK2.out; have := HK3.out; have := HK4.out; have := HJ23.out; omega⟩, ⟨ro HO_5.out⟩, ⟨bo BK528.out⟩, ⟨bw⟩⟩
              ·have H' := Aside0.mk H
               clear H
               go_wp2
               go_roundg kj23
               case measure => have := HJ1.out; have := HK2.out; have := HK3.out; have := HK4.out; have := HJ23.out; omega
               case rel => exact ⟨(wrap64 (x7_3 + 1)), (x529000_4), (x529001_4), rr, H', ⟨by have := HJ1.out; have := HK2.out; have := HK3.out; have := HK4.out; have := HJ23.out; omega⟩, ⟨ro HO_5.out⟩, ⟨bo BK528.out⟩, ⟨bw⟩⟩
         ·simp only [Option.some.injEq, Prod.mk.injEq] at H
          obtain ⟨rfl, rfl, rfl⟩ := H
          have hcz43_0 := bc BK528 0 (.int .i64 x529000_3)
          have hcz43_1 := bc BK528 1 (.int .i64 x529001_3)
          have hfz43_0 := blk_frozen BK528.out 0
          have hfz43_1 := blk_frozen BK528.out 1
          go_wp2
          refine bodyPost_ret (results_ct rfl _ _ gb528 94 #[.int .i64 0, .int .i64 0] (0, 0) _ rfl (by (with_reducible repeat (first | refine blk_drewN ?_ _ | refine blk_drew ?_ | refine blk_alloc ?_ _)); refine blk_put (cs := #[.int .i64 0, .int .i64 x529001_3]) ?_ 1 _ rfl; (with_reducible repeat (first | refine blk_drewN ?_ _ | refine blk_drew ?_ | refine blk_alloc ?_ _)); refine blk_put (cs := #[.int .i64 x529000_3, .int .i64 x529001_3]) ?_ 0 _ rfl; (with_reducible repeat (first | refine blk_drewN ?_ _ | refine blk_drew ?_ | refine blk_alloc ?_ _)); exact BK528.out) Try.underlying94 rfl (by kernel_rfl)) rfl ?_
          exact ⟨by first | rfl | (simp [errW_none, errW_some] <;> rfl) | (simp only [← hji8, ← hji11]; first | rfl | (simp [errW_none, errW_some] <;> rfl)) | (simp [*, errW_none, errW_some] <;> rfl), bw⟩


/-! ### spec_FromGaps: function 74 -/
mutual
def spec_FromGaps.j0 : Nat → List Int → Bool → Option (List Int × Bool)
 | 0, _, _ => none
 | k + 1, x0, x20 => if x20 = true then (some (([] : List Int), false)) else ((some (([] : List Int) : List Int)).bind fun y545 => (if (x0.length : Int) > 0 then (if 0 ≤ (wrap64 ((x0.length : Int) - 1)) then (if (wrap64 ((x0.length : Int) - 1)) < (x0.length : Int) then (spec_FromGaps.j1 k x0 y545 (rd x0 (wrap64 ((x0.length : Int) - 1)))) else (none)) else (none)) else (spec_FromGaps.j1 k x0 y545 0)))
def spec_FromGaps.j1 : Nat → List Int → List Int → Int → Option (List Int × Bool)
 | 0, _, _, _ => none
 | k + 1, x0, x6, x7 => spec_FromGaps.l0 k x0 x6 x7 1
def spec_FromGaps.l0 : Nat → List Int → List Int → Int → Int → Option (List Int × Bool)
 | 0, _, _, _, _ => none
 | k + 1, x0, x6, x7, x8 => if x8 ≤ (wrap64 ((wrap64 (2 * x7)) + 2)) then ((spec_HasNumber.f k x0 x8).bind fun t551 => (if t551 = true then (spec_FromGaps.l0 k x0 x6 x7 (wrap64 (x8 + 1))) else (if (x6.length : Int) > 0 then ((spec_l3Table.f k x6 x8).bind fun t552 => (if 0 ≤ x8 then (if x8 < (t552.length : Int) then (if rdOf false t552 x8 = true then (spec_FromGaps.l0 k x0 x6 x7 (wrap64 (x8 + 1))) else (if x6.length < 17592186044416 then (spec_FromGaps.l0 k x0 (x6 ++ [x8]) x7 (wrap64 (x8 + 1))) else (none))) else (none)) else (none))) else (if x6.length < 17592186044416 then (spec_FromGaps.l0 k x0 (x6 ++ [x8]) x7 (wrap64 (x8 + 1))) else (none))))) else ((spec_IsSemigroup.f k x6).bind fun t550 => (if t550 = true then (some (x6, true)) else (some (([] : List Int), false))))
end
def spec_FromGaps.f (k : Nat) (l0 : List Int) : Option (List Int × Bool) := (spec_GapClash.f k l0).bind fun bt540 => ((spec_l8Gaps.f k l0).bind fun t544 => (if t544 = true then (spec_FromGaps.j0 k l0 bt540.2.2) else (spec_FromGaps.j0 k l0 true)))
set_option maxHeartbeats 8000000 in
set_option maxRecDepth 100000 in
theorem spec_FromGaps.calls (k : Nat) (A0 : Option Addr) (c0 : Nat) (l0 : List Int) (r1 : List Int) (r2 : Bool) (w : World) (hr0 : Kd.C (Kd.int .i64) w A0 l0.length l0) (hc0 : l0.length ≤ c0) (h : spec_FromGaps.f k l0 = some (r1, r2)) :
  Calls Try.prog 74 #[.slice A0 l0.length c0] w fun e w' => ∃ v0_ : Value, e = .returned (.tuple #[.agg #[v0_], .bool r2]) ∧ Kd.R (Kd.int .i64) 3 w' w.heap.size (fun _ => True) v0_ r1 ∧ Below w.heap.size w w' := by
 have hu27 := Try.underlying27
 have hu94 := Try.underlying94
 have HR0 := Aside0.mk hr0
 have HC0 := Aside0.mk hc0
 clear hr0 hc0
 have HB := Aside0.mk (Below.refl w.heap.size w)
 have H : ((spec_GapClash.f k l0).bind fun bt540 => ((spec_l8Gaps.f k l0).bind fun t544 => (if t544 = true then (spec_FromGaps.j0 k l0 bt540.2.2) else (spec_FromGaps.j0 k l0 true)))) = some (r1, r2) := h
 clear h
 replace H := ga H; obtain ⟨⟨t540, t541, t542⟩, A2, H⟩ := H
 replace H : ((spec_l8Gaps.f k l0).bind fun t544 => (if t544 = true then (spec_FromGaps.j0 k l0 t542) else (spec_FromGaps.j0 k l0 true))) = some (r1, r2) := H
 have HC3 := Aside0.mk H
 clear H
 go_enter Try.func74, Try.ntmps74
 go_upto_region 2 with (first | ((with_reducible refine gate_dst (N := 2) rfl ?_); (try (refine gate_guard (by rfl) ?_; dsimp only)); refine bx 2 #[.slice none 0 0] 27 ?_; intro gb539 hg w4 hbox hb; have BK539 := Aside0.mk (hbox); have GW539 := Aside0.mk (gs hg : w.heap.size ≤ gb539); have GE539 := Aside0.mk (gs hg : w.heap.size ≤ gb539); replace HB := Aside0.mk (below_step bw hb); clear hb hbox hg) | ((with_reducible refine gate_callee (f := 124) rfl ?_); refine gl (some 12) Try.func124 #[.slice A0 l0.length c0] ?_; (with_reducible refine (spec_GapClash.calls k _ _ l0 t540 t541 t542 _ ?side1 ?side2 A2.out).mono ?_); (case side1 => exact co (Kd.C_below HR0.out HB.out)); (case side2 => exact HC0.out); rintro e w5 ⟨rfl, hb⟩; refine ⟨_, rfl, ?_⟩; replace BK539 := Aside0.mk (blk_below (g := gb539) (o := .cells #[.slice none 0 0] 27 (0, 0)) (bo BK539.out) hb); replace HB := Aside0.mk (below_step bw hb); clear hb) | ((with_reducible refine gate_dst (N := 4) rfl ?_); (try (refine gate_guard (by rfl) ?_; dsimp only)); refine bx 4 #[.int .i64 0, .int .i64 0] 94 ?_; intro gb543 hg w6 hbox hb; have BK543 := Aside0.mk (hbox); have GW543 := Aside0.mk (gs hg : w.heap.size ≤ gb543); have GE543 := Aside0.mk (gs hg : w.heap.size ≤ gb543); replace HB := Aside0.mk (below_step bw hb); have NB539_543 := Aside0.mk ((by rw [hg]; exact Nat.ne_of_lt (blk_lt (g := gb539) (o := .cells #[.slice none 0 0] 27 (0, 0)) (bo BK539.out)) : gb539 ≠ gb543)); have NB543_539 := Aside0.mk ((by rw [hg]; exact Nat.ne_of_gt (blk_lt (g := gb539) (o := .cells #[.slice none 0 0] 27 (0, 0)) (bo BK539.out)) : gb543 ≠ gb539)); replace BK539 := Aside0.mk (blk_below (g := gb539) (o := .cells #[.slice none 0 0] 27 (0, 0)) (bo BK539.out) hb); clear hb hbox hg; have hnb7 := NB543_539.out; have hnc7 := NB539_543.out; have hcz8_0 := bc BK543 0 (.int .i64 0); have hcz8_1 := bc BK543 1 (.int .i64 0); have hfz8_0 := blk_frozen BK543.out 0; have hfz8_1 := blk_frozen BK543.out 1))
 (try simp only [Act.put, List.setIfInBounds_toArray, List.set_cons_zero, List.set_cons_succ])
 go_cut [20] (fun v20 wc => ∃ (kq : Nat) (x20_2 : Bool), v20 = .bool x20_2 ∧ Aside0 (spec_FromGaps.j0 kq l0 x20_2 = some (r1, r2)) ∧ Aside0 (kq ≤ k) ∧ Aside0 (wc.heap[gb539]? = some (.cells #[(.slice none 0 0)] 27 (0, 0))) ∧ Aside0 (wc.heap[gb543]? = some (.cells #[.int .i64 t540, .int .i64 t541] 94 (0, 0))) ∧ Aside0 (Below w.heap.size w wc))
 case first =>
  have H := HC3.out
  clear HC3
  replace H := ga H; obtain ⟨t544, A9, H⟩ := H
  replace H := gb H; obtain ⟨rfl, H⟩ | ⟨rfl, H⟩ := H
  ·have H' := Aside0.mk H
   clear H
   go_wp2_with (first | ((with_reducible refine gate_callee (f := 125) rfl ?_); refine gl (some 16) Try.func125 #[.slice A0 l0.length c0] ?_; (with_reducible refine (spec_l8Gaps.calls k _ _ l0 true _ ?side1 ?side2 A9.out).mono ?_); (case side1 => exact Kd.C_below HR0.out bw); (case side2 => exact HC0.out); rintro e w' ⟨rfl, ⟨nd, rfl⟩⟩; refine ⟨_, rfl, ?_⟩))
   go_meet
   case rel => exact ⟨_, (t542), rr, H', ⟨om⟩, ⟨by (with_reducible repeat (first | refine blk_drewN ?_ _ | refine blk_drew ?_ | refine blk_alloc ?_ _)); refine blk_far ?_ NB539_543.out _; (with_reducible repeat (first | refine blk_drewN ?_ _ | refine blk_drew ?_ | refine blk_alloc ?_ _)); refine blk_far ?_ NB539_543.out _; (with_reducible repeat (first | refine blk_drewN ?_ _ | refine blk_drew ?_ | refine blk_alloc ?_ _)); exact BK539.out⟩, ⟨by (with_reducible repeat (first | refine blk_drewN ?_ _ | refine blk_drew ?_ | refine blk_alloc ?_ _)); refine blk_put (cs := #[.int .i64 t540, .int .i64 0]) ?_ 1 _ rfl; (with_reducible repeat (first | refine blk_drewN ?_ _ | refine blk_drew ?_ | refine blk_alloc ?_ _)); refine blk_put (cs := #[.int .i64 0, .int .i64 0]) ?_ 0 _ rfl; (with_reducible repeat (first | refine blk_drewN ?_ _ | refine blk_drew ?_ | refine blk_alloc ?_ _)); exact BK543.out⟩, ⟨bw⟩⟩
  ·have H' := Aside0.mk H
   clear H
   go_wp2_with (first | ((with_reducible refine gate_callee (f := 125) rfl ?_); refine gl (some 16) Try.func125 #[.slice A0 l0.length c0] ?_; (with_reducible refine (spec_l8Gaps.calls k _ _ l0 false _ ?side1 ?side2 A9.out).mono ?_); (case side1 => exact Kd.C_below HR0.out bw); (case side2 => exact HC0.out); rintro e w' ⟨rfl, ⟨nd, rfl⟩⟩; refine ⟨_, rfl, ?_⟩))
   go_meet
   case rel => exact ⟨_, (true), rr, H', ⟨om⟩, ⟨by (with_reducible repeat (first | refine blk_drewN ?_ _ | refine blk_drew ?_ | refine blk_alloc ?_ _)); refine blk_far ?_ NB539_543.out _; (with_reducible repeat (first | refine blk_drewN ?_ _ | refine blk_drew ?_ | refine blk_alloc ?_ _)); refine blk_far ?_ NB539_543.out _; (with_reducible repeat (first | refine blk_drewN ?_ _ | refine blk_drew ?_ | refine blk_alloc ?_ _)); exact BK539.out⟩, ⟨by (with_reducible repeat (first | refine blk_drewN ?_ _ | refine blk_drew ?_ | refine blk_alloc ?_ _)); refine blk_put (cs := #[.int .i64 t540, .int .i64 0]) ?_ 1 _ rfl; (with_reducible repeat (first | refine blk_drewN ?_ _ | refine blk_drew ?_ | refine blk_alloc ?_ _)); refine blk_put (cs := #[.int .i64 0, .int .i64 0]) ?_ 0 _ rfl; (with_reducible repeat (first | refine blk_drewN ?_ _ | refine blk_drew ?_ | refine blk_alloc ?_ _)); exact BK543.out⟩, ⟨bw⟩⟩
 case rest =>
  clear HC3
  try clear hcz8_0; try clear hcz8_1; try clear hfz8_0; try clear hfz8_1
  obtain ⟨kq, x20_2, rfl, HA, HJ2, BK539, BK543, HB⟩ := hcut
  cases kq with
  | zero => exact absurd HA.out (by simp [spec_FromGaps.j0])
  | succ kj2 =>
   have H := HA.out
   clear HA
   simp only [spec_FromGaps.j0] at H
   replace H := gb H; obtain ⟨rfl, H⟩ | ⟨rfl, H⟩ := H
   ·simp only [Option.some.injEq, Prod.mk.injEq] at H
    obtain ⟨rfl, rfl⟩ := H
    have hnb12 := NB539_543.out
    have hnc12 := NB543_539.out
    have hcz13_0 := bc BK539 0 (.slice none 0 0)
    have hfz13_0 := blk_frozen BK539.out 0
    go_wp2
    refine bodyPost_ret (results_ct rfl _ _ gb539 27 #[.slice none 0 0] (0, 0) _ rfl (by (with_reducible repeat (first | refine blk_drewN ?_ _ | refine blk_drew ?_ | refine blk_alloc ?_ _)); refine blk_put (cs := #[.slice none 0 0]) ?_ 0 _ rfl; (with_reducible repeat (first | refine blk_drewN ?_ _ | refine blk_drew ?_ | refine blk_alloc ?_ _)); exact BK539.out) Try.underlying27 rfl (by kernel_rfl)) rfl ?_
    exact ⟨_, re, by first | exact Kd.R_nil _ _ _ _ _ | exact Kd.N_nil _ _ _ _ _ | exact Kd.V_nil _ _ _ _ _ | exact Kd.Q_nil _ _ _ _ _ | exact Kd.S_nil _ _ _ _ _, bw⟩
   ·obtain ⟨y545, hy545⟩ : ∃ y_ : List Int, y_ = (([] : List Int)) := ⟨_, rfl⟩
    replace H : (if (l0.length : Int) > 0 then (if 0 ≤ (wrap64 ((l0.length : Int) - 1)) then (if (wrap64 ((l0.length : Int) - 1)) < (l0.length : Int) then (spec_FromGaps.j1 kj2 l0 y545 (rd l0 (wrap64 ((l0.length : Int) - 1)))) else (none)) else (none)) else (spec_FromGaps.j1 kj2 l0 y545 0)) = some (r1, r2) := by first | (rw [hy545]; with_reducible exact H) | (have H2_ := (Option.bind_some _ _).symm.trans H; rw [hy545]; with_reducible exact H2_) | (have H2_ := (Option.bind_some _ _).symm.trans H; with_reducible exact H2_) | with_reducible exact H | (rw [hy545]; exact H) | exact H
    have Ny545 := Aside0.mk hy545
    clear hy545
    have HC14 := Aside0.mk H
    clear H
    go_upto_if 25 with (first | ((with_reducible refine gate_dst (N := 22) rfl ?_); (try (refine gate_guard (by rfl) ?_; dsimp only)); refine Kd.R_lit (Kd.int .i64) _ 3 ?hg (N := 22) ?hd (xs := ([] : List Int)) (inner := []) (ok := fun _ => True) (okp := fun _ => True) ?hr ?hp (fun _ hk => hk) trivial (Below.refl _ _) (Nat.le_refl _) (by simp) ?_; (case hd => rfl); (case hg => rfl); (case hr => first | (go_simp; done) | (go_simp; rfl)); (case hp => exact (Reps.none _ _)); intro v546 w15 ho16 hb hg_ hnew_; clear hg_ hnew_; (first | rw [← Ny545.out] at ho16 | (simp only [Int.reduceToNat] at ho16; rw [← Ny545.out] at ho16)); have HO547 := Aside0.mk (Kd.R_lower ho16 (below_size bw)); replace BK539 := Aside0.mk (blk_below (g := gb539) (o := .cells #[.slice none 0 0] 27 (0, 0)) (bo BK539.out) hb); replace BK543 := Aside0.mk (blk_below (g := gb543) (o := .cells #[.int .i64 t540, .int .i64 t541] 94 (0, 0)) (bo BK543.out) hb); replace HB := Aside0.mk (below_step bw hb); clear hb ho16))
    (try simp only [Act.put, List.setIfInBounds_toArray, List.set_cons_zero, List.set_cons_succ])
    go_cut [7] (fun v7 wc => ∃ (kq : Nat) (x7_13 : Int), v7 = .int .i64 x7_13 ∧ Aside0 (spec_FromGaps.j1 kq l0 y545 x7_13 = some (r1, r2)) ∧ Aside0 (kq ≤ kj2) ∧ Aside0 (Kd.R (Kd.int .i64) 3 wc w.heap.size (fun _ => True) v546 y545) ∧ Aside0 (wc.heap[gb539]? = some (.cells #[(.slice none 0 0)] 27 (0, 0))) ∧ Aside0 (wc.heap[gb543]? = some (.cells #[.int .i64 t540, .int .i64 t541] 94 (0, 0))) ∧ Aside0 (Below w.heap.size w wc))
    case first =>
     have H := HC14.out
     clear HC14
     replace H := gj H; obtain ⟨c17, H⟩ | ⟨c17, H⟩ := H
     ·have c17b0 : decide (0 < (l0.length : Int)) = true := decide_eq_true c17
      have c17b1 : decide (0 < l0.length) = true := decide_eq_true (by omega)
      clear c17
      (first | rw [c17b0] | (simp only [i64_w, i32_w]; rw [c17b0]) | skip)
      obtain ⟨ji18, hji18⟩ : ∃ j_ : Int, (wrap64 ((l0.length : Int) - 1)) = j_ := ⟨_, rfl⟩
      replace H : (if 0 ≤ (ji18) then (if (ji18) < (l0.length : Int) then (spec_FromGaps.j1 kj2 l0 y545 (rd l0 (ji18))) else (none)) else (none)) = some (r1, r2) := by first | (rw [hji18] at H; exact H) | (simp only [hji18] at H ⊢; exact H)
      have hji18w : (IntKind.i64.wrap ((l0.length : Int) - 1)) = ji18 := (i64_w _).trans hji18
      replace H := gd H; obtain ⟨c19b0, H⟩ := H
      replace H := gd H; obtain ⟨c20b0, H⟩ := H
      have H' := Aside0.mk H
      clear H
      obtain ⟨⟨ad548, e548, hx548_0⟩, p548, q548⟩ := pq (Kd.at_int HR0.out (ji18))
      cases e548
      replace hx548_0 := (HB.out.cell (World.block_lt_of_cell? w _ hx548_0)).trans hx548_0
      go_wp2
      any_goals (first | (exfalso; have h_ := of_decide_eq_true c17b1; contradiction) | skip)
      go_meet
      case rel => exact ⟨_, (rd l0 (ji18)), (by first | rfl | (simp; done) | (simp only [← hji18] <;> (first | rfl | simp)) | (simp [*]; done)), H', ⟨by have := HJ2.out; first | omega | exact Nat.le_refl _⟩, ⟨ro HO547.out⟩, ⟨bo BK539.out⟩, ⟨bo BK543.out⟩, ⟨bw⟩⟩
     ·have c17b0 : decide (0 < (l0.length : Int)) = false := decide_eq_false c17
      have c17b1 : decide (0 < l0.length) = false := decide_eq_false (by omega)
      clear c17
      (first | rw [c17b0] | (simp only [i64_w, i32_w]; rw [c17b0]) | skip)
      have H' := Aside0.mk H
      clear H
      go_wp2
      any_goals (first | (exfalso; have h_ := of_decide_eq_false c17b1; contradiction) | skip)
      go_meet
      case rel => exact ⟨_, (0), rr, H', ⟨by have := HJ2.out; first | omega | exact Nat.le_refl _⟩, ⟨ro HO547.out⟩, ⟨bo BK539.out⟩, ⟨bo BK543.out⟩, ⟨bw⟩⟩
    case rest =>
     clear HC14
     try clear c17; try clear c17b0; try clear c17b1; try clear c19b0; try clear c20b0; try clear hcz13_0; try clear hcz8_0; try clear hcz8_1; try clear hfz13_0; try clear hfz8_0; try clear hfz8_1; try clear hx548_0; try clear p548; try clear q548
     obtain ⟨kq, x7_13, rfl, HA, HJ13, HO_6, BK539, BK543, HB⟩ := hcut
     cases kq with
     | zero => exact absurd HA.out (by simp [spec_FromGaps.j1])
     | succ kj13 =>
      have H := HA.out
      clear HA
      simp only [spec_FromGaps.j1] at H
      have H' := Aside0.mk H
      clear H
      go_wp2
      go_loopg [6, 8] kj13 (fun kq v6 v8 w' => ∃ (x6_3 : List Int) (x8_3 : Int), v8 = .int .i64 x8_3 ∧ Aside0 (spec_FromGaps.l0 kq l0 x6_3 x7_13 x8_3 = some (r1, r2)) ∧ Aside0 (kq ≤ kj13) ∧ Aside0 (Kd.R (Kd.int .i64) 3 w' w.heap.size (fun _ => True) v6 x6_3) ∧ Aside0 (w'.heap[gb539]? = some (.cells #[(.slice none 0 0)] 27 (0, 0))) ∧ Aside0 (w'.heap[gb543]? = some (.cells #[.int .i64 t540, .int .i64 t541] 94 (0, 0))) ∧ Aside0 (Below w.heap.size w w'))
      case atStart => exact ⟨(y545), (1), rr, H', ⟨Nat.le_refl _⟩, ⟨ro HO_6.out⟩, ⟨bo BK539.out⟩, ⟨bo BK543.out⟩, ⟨bw⟩⟩
      case round =>
       clear H'
       try clear c17; try clear c17b0; try clear c17b1; try clear c19b0; try clear c20b0; try clear hcz13_0; try clear hcz8_0; try clear hcz8_1; try clear hfz13_0; try clear hfz8_0; try clear hfz8_1; try clear hx548_0; try clear p548; try clear q548
       obtain ⟨x6_3, x8_3, rfl, HA, HK3, HO_6, BK539, BK543, HB⟩ := hrel
       cases gk with
       | zero => exact absurd HA.out (by simp [spec_FromGaps.l0])
       | succ k3 =>
        have H := HA.out
        clear HA
        simp only [spec_FromGaps.l0] at H
        replace H := gi H; obtain ⟨c21b0, H⟩ | ⟨c21b0, H⟩ := H
        ·replace H := ga H; obtain ⟨t551, A22, H⟩ := H
         replace H := gb H; obtain ⟨rfl, H⟩ | ⟨rfl, H⟩ := H
         ·have H' := Aside0.mk H
          clear H
          go_wp2_with (first | ((with_reducible refine gate_callee (f := 98) rfl ?_); refine gl (some 41) Try.func98 #[.slice A0 l0.length c0, .int .i64 x8_3] ?_; (with_reducible refine (spec_HasNumber.calls k3 _ _ l0 x8_3 true _ ?side1 ?side2 A22.out).mono ?_); (case side1 => exact co (Kd.C_below HR0.out HB.out)); (case side2 => exact HC0.out); rintro e w' ⟨rfl, ⟨nd, rfl⟩⟩; refine ⟨_, rfl, ?_⟩))
          go_roundg k3
          case measure => have := HJ2.out; have := HJ13.out; have := HK3.out; omega
          case rel => exact ⟨(x6_3), (wrap64 (x8_3 + 1)), rr, H', ⟨by have := HJ2.out; have := HJ13.out; have := HK3.out; omega⟩, ⟨ro HO_6.out⟩, ⟨bo BK539.out⟩, ⟨bo BK543.out⟩, ⟨bw⟩⟩
         ·replace H := gj H; obtain ⟨c24, H⟩ | ⟨c24, H⟩ := H
          ·have c24b0 : decide (0 < (x6_3.length : Int)) = true := decide_eq_true c24
           have c24b1 : decide (0 < x6_3.length) = true := decide_eq_true (by omega)
           clear c24
           replace H := ga H; obtain ⟨t552, A25, H⟩ := H
           replace H := gd H; obtain ⟨c26b0, H⟩ := H
           replace H := gd H; obtain ⟨c27b0, H⟩ := H
           obtain ⟨bq28, hbq28⟩ : ∃ b_ : Bool, b_ = (rdOf false t552 x8_3) := ⟨_, rfl⟩
           replace H : (if bq28 = true then (spec_FromGaps.l0 k3 l0 x6_3 x7_13 (wrap64 (x8_3 + 1))) else (if x6_3.length < 17592186044416 then (spec_FromGaps.l0 k3 l0 (x6_3 ++ [x8_3]) x7_13 (wrap64 (x8_3 + 1))) else (none))) = some (r1, r2) := by rw [← hbq28] at H; exact H
           have Nbq28 := Aside0.mk hbq28
           clear hbq28
           replace H := gb H; obtain ⟨rfl, H⟩ | ⟨rfl, H⟩ := H
           ·have H' := Aside0.mk H
            clear H
            go_wp2_with (first | ((with_reducible refine gate_callee (f := 98) rfl ?_); refine gl (some 41) Try.func98 #[.slice A0 l0.length c0, .int .i64 x8_3] ?_; (with_reducible refine (spec_HasNumber.calls k3 _ _ l0 x8_3 false _ ?side1 ?side2 A22.out).mono ?_); (case side1 => exact co (Kd.C_below HR0.out HB.out)); (case side2 => exact HC0.out); rintro e w' ⟨rfl, ⟨nd, rfl⟩⟩; refine ⟨_, rfl, ?_⟩; obtain ⟨Ao30, co30, eo30⟩ := Kd.R_slice HO_6.out; subst eo30) | (go_at_call 123; (with_reducible refine (spec_l3Table.calls k3 _ _ x6_3 x8_3 t552 _ ?side1 ?side2 A25.out).mono ?_); (case side1 => exact co (Kd.R_reads' HO_6.out).2.2); (case side2 => exact (Kd.R_reads' HO_6.out).2.1); rintro e w31 ⟨v553, rfl, ho0, hb⟩; replace HO_6 := Aside0.mk (Kd.R_below (ro HO_6.out) hb); have HO554 := Aside0.mk (Kd.R_lower ho0 (below_size bw)); replace BK539 := Aside0.mk (blk_below (g := gb539) (o := .cells #[.slice none 0 0] 27 (0, 0)) (bo BK539.out) hb); replace BK543 := Aside0.mk (blk_below (g := gb543) (o := .cells #[.int .i64 t540, .int .i64 t541] 94 (0, 0)) (bo BK543.out) hb); replace HB := Aside0.mk (below_step bw hb); clear hb ho0; obtain ⟨Ao32, co32, eo32⟩ := Kd.R_slice HO554.out; subst eo32; have p555 : 0 ≤ (x8_3 : Int) := of_decide_eq_true (by first | (with_reducible assumption) | assumption); have q555 : x8_3 < (t552.length : Int) := of_decide_eq_true (by first | (with_reducible assumption) | assumption); obtain ⟨ad555, e555, hx555_0⟩ := Kd.at_bool (Kd.R_reads' HO554.out).2.2 x8_3 p555 q555; (try rw [← Nbq28.out] at hx555_0); cases e555; replace p555 := eq_true p555; replace q555 := eq_true q555))
            go_roundg k3
            case measure => have := HJ2.out; have := HJ13.out; have := HK3.out; omega
            case rel => exact ⟨(x6_3), (wrap64 (x8_3 + 1)), rr, H', ⟨by have := HJ2.out; have := HJ13.out; have := HK3.out; omega⟩, ⟨ro HO_6.out⟩, ⟨bo BK539.out⟩, ⟨bo BK543.out⟩, ⟨bw⟩⟩
           ·by_cases c33 : x6_3.length < 17592186044416
            rotate_left
            ·rw [if_neg c33] at H
             exact absurd H (by simp)
            rw [if_pos c33] at H
            have LMc33 := Aside0.mk c33
            clear c33
            obtain ⟨y556, hy556⟩ : ∃ y_ : List Int, y_ = (x6_3 ++ [x8_3]) := ⟨_, rfl⟩
            replace H : (spec_FromGaps.l0 k3 l0 y556 x7_13 (wrap64 (x8_3 + 1))) = some (r1, r2) := by first | (rw [hy556]; with_reducible exact H) | (have H2_ := (Option.bind_some _ _).symm.trans H; rw [hy556]; with_reducible exact H2_) | (have H2_ := (Option.bind_some _ _).symm.trans H; with_reducible exact H2_) | with_reducible exact H | (rw [hy556]; exact H) | exact H
            have Ny556 := Aside0.mk hy556
            clear hy556
            have H' := Aside0.mk H
            clear H
            go_wp2_with (first | ((with_reducible refine gate_callee (f := 98) rfl ?_); refine gl (some 41) Try.func98 #[.slice A0 l0.length c0, .int .i64 x8_3] ?_; (with_reducible refine (spec_HasNumber.calls k3 _ _ l0 x8_3 false _ ?side1 ?side2 A22.out).mono ?_); (case side1 => exact co (Kd.C_below HR0.out HB.out)); (case side2 => exact HC0.out); rintro e w' ⟨rfl, ⟨nd, rfl⟩⟩; refine ⟨_, rfl, ?_⟩; obtain ⟨Ao34, co34, eo34⟩ := Kd.R_slice HO_6.out; subst eo34) | (go_at_call 123; (with_reducible refine (spec_l3Table.calls k3 _ _ x6_3 x8_3 t552 _ ?side1 ?side2 A25.out).mono ?_); (case side1 => exact co (Kd.R_reads' HO_6.out).2.2); (case side2 => exact (Kd.R_reads' HO_6.out).2.1); rintro e w35 ⟨v553, rfl, ho0, hb⟩; replace HO_6 := Aside0.mk (Kd.R_below (ro HO_6.out) hb); have HO554 := Aside0.mk (Kd.R_lower ho0 (below_size bw)); replace BK539 := Aside0.mk (blk_below (g := gb539) (o := .cells #[.slice none 0 0] 27 (0, 0)) (bo BK539.out) hb); replace BK543 := Aside0.mk (blk_below (g := gb543) (o := .cells #[.int .i64 t540, .int .i64 t541] 94 (0, 0)) (bo BK543.out) hb); replace HB := Aside0.mk (below_step bw hb); clear hb ho0; obtain ⟨Ao36, co36, eo36⟩ := Kd.R_slice HO554.out; subst eo36; have p555 : 0 ≤ (x8_3 : Int) := of_decide_eq_true (by first | (with_reducible assumption) | assumption); have q555 : x8_3 < (t552.length : Int) := of_decide_eq_true (by first | (with_reducible assumption) | assumption); obtain ⟨ad555, e555, hx555_0⟩ := Kd.at_bool (Kd.R_reads' HO554.out).2.2 x8_3 p555 q555; (try rw [← Nbq28.out] at hx555_0); cases e555; replace p555 := eq_true p555; replace q555 := eq_true q555) | ((with_reducible refine gate_builtin (b := .append) (xs := #[.tmp 55, .tmp 57]) rfl ?_); (try (refine gate_guard (by rfl) ?_; dsimp only)); at_builtin; refine Kd.R_append (Kd.int .i64) (w0 := w) w.heap.size rfl (.tmp 55) (.tmp 57) 22 3 (.int .i64 0) 8 rfl Try.underlying22 info3 rfl (by decide) (by omega) (.slice Ao34 x6_3.length co34) x6_3 x8_3 [.int .i64 x8_3] (fun _ => True) (fun _ => False) rfl rfl ?aP (fun _ hk => hk.elim) ?aF ?aO ?aB ?aS ?aL ?_; (case aP => exact rfl); (case aB => exact bw); (case aF => exact (fun _ _ => trivial)); (case aO => exact (ro HO_6.out)); (case aS => exact (below_size bw)); (case aL => have := LMc33.out; omega); intro v557 w37 ho hb hg hat; rw [← Ny556.out] at ho; replace BK539 := Aside0.mk (blk_grown (g := gb539) (o := .cells #[.slice none 0 0] 27 (0, 0)) (bo BK539.out) hg (Kd.R_ne HO_6.out BK539.out (by decide))); replace BK543 := Aside0.mk (blk_grown (g := gb543) (o := .cells #[.int .i64 t540, .int .i64 t541] 94 (0, 0)) (bo BK543.out) hg (Kd.R_ne HO_6.out BK543.out (by decide))); replace HO554 := Aside0.mk (Kd.R_over' (ro HO554.out) (Kd.R_typed (ro HO_6.out)) (by decide) hg); replace HB := Aside0.mk (hb); have HO558 := Aside0.mk (ho); clear HO_6 ho hb hg hat))
            go_roundg k3
            case measure => have := HJ2.out; have := HJ13.out; have := HK3.out; omega
            case rel => exact ⟨(y556), (wrap64 (x8_3 + 1)), rr, H', ⟨by have := HJ2.out; have := HJ13.out; have := HK3.out; omega⟩, ⟨ro HO558.out⟩, ⟨bo BK539.out⟩, ⟨bo BK543.out⟩, ⟨bw⟩⟩
          ·have c24b0 : decide (0 < (x6_3.length : Int)) = false := decide_eq_false c24
           have c24b1 : decide (0 < x6_3.length) = false := decide_eq_false (by omega)
           clear c24
           by_cases c38 : x6_3.length < 17592186044416
           rotate_left
           ·rw [if_neg c38] at H
            exact absurd H (by simp)
           rw [if_pos c38] at H
           have LMc38 := Aside0.mk c38
           clear c38
           obtain ⟨y559, hy559⟩ : ∃ y_ : List Int, y_ = (x6_3 ++ [x8_3]) := ⟨_, rfl⟩
           replace H : (spec_FromGaps.l0 k3 l0 y559 x7_13 (wrap64 (x8_3 + 1))) = some (r1, r2) := by first | (rw [hy559]; with_reducible exact H) | (have H2_ := (Option.bind_some _ _).symm.trans H; rw [hy559]; with_reducible exact H2_) | (have H2_ := (Option.bind_some _ _).symm.trans H; with_reducible exact H2_) | with_reducible exact H | (rw [hy559]; exact H) | exact H
           have Ny559 := Aside0.mk hy559
           clear hy559
           have H' := Aside0.mk H
           clear H
           go_wp2_with (first | ((with_reducible refine gate_callee (f := 98) rfl ?_); refine gl (some 41) Try.func98 #[.slice A0 l0.length c0, .int .i64 x8_3] ?_; (with_reducible refine (spec_HasNumber.calls k3 _ _ l0 x8_3 false _ ?side1 ?side2 A22.out).mono ?_); (case side1 => exact co (Kd.C_below HR0.out HB.out)); (case side2 => exact HC0.out); rintro e w' ⟨rfl, ⟨nd, rfl⟩⟩; refine ⟨_, rfl, ?_⟩; obtain ⟨Ao39, co39, eo39⟩ := Kd.R_slice HO_6.out; subst eo39) | ((with_reducible refine gate_builtin (b := .append) (xs := #[.tmp 55, .tmp 57]) rfl ?_); (try (refine gate_guard (by rfl) ?_; dsimp only)); at_builtin; refine Kd.R_append (Kd.int .i64) (w0 := w) w.heap.size rfl (.tmp 55) (.tmp 57) 22 3 (.int .i64 0) 8 rfl Try.underlying22 info3 rfl (by decide) (by omega) (.slice Ao39 x6_3.length co39) x6_3 x8_3 [.int .i64 x8_3] (fun _ => True) (fun _ => False) rfl rfl ?aP (fun _ hk => hk.elim) ?aF ?aO ?aB ?aS ?aL ?_; (case aP => exact rfl); (case aB => exact bw); (case aF => exact (fun _ _ => trivial)); (case aO => exact (ro HO_6.out)); (case aS => exact (below_size bw)); (case aL => have := LMc38.out; omega); intro v560 w40 ho hb hg hat; rw [← Ny559.out] at ho; replace BK539 := Aside0.mk (blk_grown (g := gb539) (o := .cells #[.slice none 0 0] 27 (0, 0)) (bo BK539.out) hg (Kd.R_ne HO_6.out BK539.out (by decide))); replace BK543 := Aside0.mk (blk_grown (g := gb543) (o := .cells #[.int .i64 t540, .int .i64 t541] 94 (0, 0)) (bo BK543.out) hg (Kd.R_ne HO_6.out BK543.out (by decide))); replace HB := Aside0.mk (hb); have HO561 := Aside0.mk (ho); clear HO_6 ho hb hg hat))
           go_roundg k3
           case measure => have := HJ2.out; have := HJ13.out; have := HK3.out; omega
           case rel => exact ⟨(y559), (wrap64 (x8_3 + 1)), rr, H', ⟨by have := HJ2.out; have := HJ13.out; have := HK3.out; omega⟩, ⟨ro HO561.out⟩, ⟨bo BK539.out⟩, ⟨bo BK543.out⟩, ⟨bw⟩⟩
        ·replace H := ga H; obtain ⟨t550, A41, H⟩ := H
         replace H := gb H; obtain ⟨rfl, H⟩ | ⟨rfl, H⟩ := H
         ·simp only [Option.some.injEq, Prod.mk.injEq] at H
          obtain ⟨rfl, rfl⟩ := H
          obtain ⟨Ao43, co43, eo43⟩ := Kd.R_slice HO_6.out
          subst eo43
          go_wp2_with (first | ((with_reducible refine gate_dst (N := 9) rfl ?_); (try (refine gate_guard (by rfl) ?_; dsimp only)); refine bx 9 #[.slice none 0 0] 27 ?_; intro gb549 hg w44 hbox hb; replace HO_6 := Aside0.mk (Kd.R_below (ro HO_6.out) hb); have BK549 := Aside0.mk (hbox); have GW549 := Aside0.mk (gs hg : w.heap.size ≤ gb549); have GE549 := Aside0.mk (gs hg : w.heap.size ≤ gb549); replace HB := Aside0.mk (below_step bw hb); have NB539_549 := Aside0.mk ((by rw [hg]; exact Nat.ne_of_lt (blk_lt (g := gb539) (o := .cells #[.slice none 0 0] 27 (0, 0)) (bo BK539.out)) : gb539 ≠ gb549)); have NB549_539 := Aside0.mk ((by rw [hg]; exact Nat.ne_of_gt (blk_lt (g := gb539) (o := .cells #[.slice none 0 0] 27 (0, 0)) (bo BK539.out)) : gb549 ≠ gb539)); replace BK539 := Aside0.mk (blk_below (g := gb539) (o := .cells #[.slice none 0 0] 27 (0, 0)) (bo BK539.out) hb); have NB543_549 := Aside0.mk ((by rw [hg]; exact Nat.ne_of_lt (blk_lt (g := gb543) (o := .cells #[.int .i64 t540, .int .i64 t541] 94 (0, 0)) (bo BK543.out)) : gb543 ≠ gb549)); have NB549_543 := Aside0.mk ((by rw [hg]; exact Nat.ne_of_gt (blk_lt (g := gb543) (o := .cells #[.int .i64 t540, .int .i64 t541] 94 (0, 0)) (bo BK543.out)) : gb549 ≠ gb543)); replace BK543 := Aside0.mk (blk_below (g := gb543) (o := .cells #[.int .i64 t540, .int .i64 t541] 94 (0, 0)) (bo BK543.out) hb); clear hb hbox hg; have hnb45 := NB549_539.out; have hnc45 := NB539_549.out; have hnb46 := NB549_543.out; have hnc46 := NB543_549.out; have hcz47_0 := bc BK549 0 (.slice none 0 0); have hfz47_0 := blk_frozen BK549.out 0) | ((with_reducible refine gate_callee (f := 58) rfl ?_); refine gl (some 62) Try.func58 #[.agg #[.slice Ao43 x6_3.length co43]] ?_; (with_reducible refine (spec_IsSemigroup.calls k3 _ _ x6_3 true _ ?side1 ?side2 A41.out).mono ?_); (case side1 => refine (Kd.R_reads' (e := 3) (base := w.heap.size) (ok := fun k_ => True) (n := x6_3.length) (c := co43) ?_).2.2; exact (by (with_reducible repeat (first | apply Kd.R_alloc | apply Kd.R_drewN | apply Kd.R_drew)); exact (Kd.R_mono (Kd.R_far (p := ⟨gb549, 0, none⟩) (Kd.R_types HO_6.out BK549.out (by decide)) (fun _ hk => hk.2) (.slice Ao43 x6_3.length co43)) (fun _ h_ => h_.1)))); (case side2 => exact (Kd.R_reads' HO_6.out).2.1); rintro e w48 ⟨rfl, hb⟩; refine ⟨_, rfl, ?_⟩; replace HO_6 := Aside0.mk (Kd.R_below (by (with_reducible repeat (first | apply Kd.R_alloc | apply Kd.R_drewN | apply Kd.R_drew)); exact (Kd.R_mono (Kd.R_far (p := ⟨gb549, 0, none⟩) (Kd.R_types HO_6.out BK549.out (by decide)) (fun _ hk => hk.2) (.slice Ao43 x6_3.length co43)) (fun _ h_ => h_.1))) hb); replace BK539 := Aside0.mk (blk_below (g := gb539) (o := .cells #[.slice none 0 0] 27 (0, 0)) (by (with_reducible repeat (first | refine blk_drewN ?_ _ | refine blk_drew ?_ | refine blk_alloc ?_ _)); refine blk_far ?_ NB539_549.out _; (with_reducible repeat (first | refine blk_drewN ?_ _ | refine blk_drew ?_ | refine blk_alloc ?_ _)); exact BK539.out) hb); replace BK543 := Aside0.mk (blk_below (g := gb543) (o := .cells #[.int .i64 t540, .int .i64 t541] 94 (0, 0)) (by (with_reducible repeat (first | refine blk_drewN ?_ _ | refine blk_drew ?_ | refine blk_alloc ?_ _)); refine blk_far ?_ NB543_549.out _; (with_reducible repeat (first | refine blk_drewN ?_ _ | refine blk_drew ?_ | refine blk_alloc ?_ _)); exact BK543.out) hb); replace BK549 := Aside0.mk (blk_below (g := gb549) (o := .cells #[.slice Ao43 x6_3.length co43] 27 (0, 0)) (by (with_reducible repeat (first | refine blk_drewN ?_ _ | refine blk_drew ?_ | refine blk_alloc ?_ _)); refine blk_put (cs := #[.slice none 0 0]) ?_ 0 _ rfl; (with_reducible repeat (first | refine blk_drewN ?_ _ | refine blk_drew ?_ | refine blk_alloc ?_ _)); exact BK549.out) hb); replace HB := Aside0.mk (below_step bw hb); clear hb; have hcz49_0 := bc BK549 0 (.slice Ao43 x6_3.length co43); have hfz49_0 := blk_frozen BK549.out 0; have hnb50 := NB539_543.out; have hnc50 := NB543_539.out; have hcz51_0 := bc BK539 0 (.slice none 0 0); have hfz51_0 := blk_frozen BK539.out 0))
          refine bodyPost_ret (results_ct rfl _ _ gb539 27 #[.slice Ao43 x6_3.length co43] (0, 0) _ rfl (by (with_reducible repeat (first | refine blk_drewN ?_ _ | refine blk_drew ?_ | refine blk_alloc ?_ _)); refine blk_put (cs := #[.slice none 0 0]) ?_ 0 _ rfl; (with_reducible repeat (first | refine blk_drewN ?_ _ | refine blk_drew ?_ | refine blk_alloc ?_ _)); exact BK539.out) Try.underlying27 rfl (by kernel_rfl)) rfl ?_
          exact ⟨_, re, by (with_reducible repeat (first | apply Kd.R_alloc | apply Kd.R_drewN | apply Kd.R_drew)); exact Kd.R_mono (Kd.R_far (p := ⟨gb539, 0, none⟩) (Kd.R_types HO_6.out BK539.out (by decide)) (fun _ hk => hk.2) (.slice Ao43 x6_3.length co43)) (fun _ hk => trivial), bw⟩
         ·simp only [Option.some.injEq, Prod.mk.injEq] at H
          obtain ⟨rfl, rfl⟩ := H
          obtain ⟨Ao52, co52, eo52⟩ := Kd.R_slice HO_6.out
          subst eo52
          go_wp2_with (first | ((with_reducible refine gate_dst (N := 9) rfl ?_); (try (refine gate_guard (by rfl) ?_; dsimp only)); refine bx 9 #[.slice none 0 0] 27 ?_; intro gb549 hg w53 hbox hb; replace HO_6 := Aside0.mk (Kd.R_below (ro HO_6.out) hb); have BK549 := Aside0.mk (hbox); have GW549 := Aside0.mk (gs hg : w.heap.size ≤ gb549); have GE549 := Aside0.mk (gs hg : w.heap.size ≤ gb549); replace HB := Aside0.mk (below_step bw hb); have NB539_549 := Aside0.mk ((by rw [hg]; exact Nat.ne_of_lt (blk_lt (g := gb539) (o := .cells #[.slice none 0 0] 27 (0, 0)) (bo BK539.out)) : gb539 ≠ gb549)); have NB549_539 := Aside0.mk ((by rw [hg]; exact Nat.ne_of_gt (blk_lt (g := gb539) (o := .cells #[.slice none 0 0] 27 (0, 0)) (bo BK539.out)) : gb549 ≠ gb539)); replace BK539 := Aside0.mk (blk_below (g := gb539) (o := .cells #[.slice none 0 0] 27 (0, 0)) (bo BK539.out) hb); have NB543_549 := Aside0.mk ((by rw [hg]; exact Nat.ne_of_lt (blk_lt (g := gb543) (o := .cells #[.int .i64 t540, .int .i64 t541] 94 (0, 0)) (bo BK543.out)) : gb543 ≠ gb549)); have NB549_543 := Aside0.mk ((by rw [hg]; exact Nat.ne_of_gt (blk_lt (g := gb543) (o := .cells #[.int .i64 t540, .int .i64 t541] 94 (0, 0)) (bo BK543.out)) : gb549 ≠ gb543)); replace BK543 := Aside0.mk (blk_below (g := gb543) (o := .cells #[.int .i64 t540, .int .i64 t541] 94 (0, 0)) (bo BK543.out) hb); clear hb hbox hg; have hnb54 := NB549_539.out; have hnc54 := NB539_549.out; have hnb55 := NB549_543.out; have hnc55 := NB543_549.out; have hcz56_0 := bc BK549 0 (.slice none 0 0); have hfz56_0 := blk_frozen BK549.out 0) | ((with_reducible refine gate_callee (f := 58) rfl ?_); refine gl (some 62) Try.func58 #[.agg #[.slice Ao52 x6_3.length co52]] ?_; (with_reducible refine (spec_IsSemigroup.calls k3 _ _ x6_3 false _ ?side1 ?side2 A41.out).mono ?_); (case side1 => refine (Kd.R_reads' (e := 3) (base := w.heap.size) (ok := fun k_ => True) (n := x6_3.length) (c := co52) ?_).2.2; exact (by (with_reducible repeat (first | apply Kd.R_alloc | apply Kd.R_drewN | apply Kd.R_drew)); exact (Kd.R_mono (Kd.R_far (p := ⟨gb549, 0, none⟩) (Kd.R_types HO_6.out BK549.out (by decide)) (fun _ hk => hk.2) (.slice Ao52 x6_3.length co52)) (fun _ h_ => h_.1)))); (case side2 => exact (Kd.R_reads' HO_6.out).2.1); rintro e w57 ⟨rfl, hb⟩; refine ⟨_, rfl, ?_⟩; replace HO_6 := Aside0.mk (Kd.R_below (by (with_reducible repeat (first | apply Kd.R_alloc | apply Kd.R_drewN | apply Kd.R_drew)); exact (Kd.R_mono (Kd.R_far (p := ⟨gb549, 0, none⟩) (Kd.R_types HO_6.out BK549.out (by decide)) (fun _ hk => hk.2) (.slice Ao52 x6_3.length co52)) (fun _ h_ => h_.1))) hb); replace BK539 := Aside0.mk (blk_below (g := gb539) (o := .cells #[.slice none 0 0] 27 (0, 0)) (by (with_reducible repeat (first | refine blk_drewN ?_ _ | refine blk_drew ?_ | refine blk_alloc ?_ _)); refine blk_far ?_ NB539_549.out _; (with_reducible repeat (first | refine blk_drewN ?_ _ | refine blk_drew ?_ | refine blk_alloc ?_ _)); exact BK539.out) hb); replace BK543 := Aside0.mk (blk_below (g := gb543) (o := .cells #[.int .i64 t540, .int .i64 t541] 94 (0, 0)) (by (with_reducible repeat (first | refine blk_drewN ?_ _ | refine blk_drew ?_ | refine blk_alloc ?_ _)); refine blk_far ?_ NB543_549.out _; (with_reducible repeat (first | refine blk_drewN ?_ _ | refine blk_drew ?_ | refine blk_alloc ?_ _)); exact BK543.out) hb); replace BK549 := Aside0.mk (blk_below (g := gb549) (o := .cells #[.slice Ao52 x6_3.length co52] 27 (0, 0)) (by (with_reducible repeat (first | refine blk_drewN ?_ _ | refine blk_drew ?_ | refine blk_alloc ?_ _)); refine blk_put (cs := #[.slice none 0 0]) ?_ 0 _ rfl; (with_reducible repeat (first | refine blk_drewN ?_ _ | refine blk_drew ?_ | refine blk_alloc ?_ _)); exact BK549.out) hb); replace HB := Aside0.mk (below_step bw hb); clear hb; have hnb58 := NB539_543.out; have hnc58 := NB543_539.out; have hcz59_0 := bc BK539 0 (.slice none 0 0); have hfz59_0 := blk_frozen BK539.out 0))
          refine bodyPost_ret (results_ct rfl _ _ gb539 27 #[.slice none 0 0] (0, 0) _ rfl (by (with_reducible repeat (first | refine blk_drewN ?_ _ | refine blk_drew ?_ | refine blk_alloc ?_ _)); refine blk_put (cs := #[.slice none 0 0]) ?_ 0 _ rfl; (with_reducible repeat (first | refine blk_drewN ?_ _ | refine blk_drew ?_ | refine blk_alloc ?_ _)); exact BK539.out) Try.underlying27 rfl (by kernel_rfl)) rfl ?_
          exact ⟨_, re, by first | exact Kd.R_nil _ _ _ _ _ | exact Kd.N_nil _ _ _ _ _ | exact Kd.V_nil _ _ _ _ _ | exact Kd.Q_nil _ _ _ _ _ | exact Kd.S_nil _ _ _ _ _, bw⟩


/-! ### spec_l19Without: function 77 -/
def spec_l19Without.l0 : Nat → List Int → Int → List Int → Int → Option (List Int)
 | 0, _, _, _, _ => none
 | k + 1, x0, x1, x5, x6 => if x6 < (x0.length : Int) then (if 0 ≤ x6 then (if (rd x0 x6) = x1 then (spec_l19Without.l0 k x0 x1 x5 (wrap64 (x6 + 1))) else (if x5.length < 17592186044416 then (spec_l19Without.l0 k x0 x1 (x5 ++ [rd x0 x6]) (wrap64 (x6 + 1))) else (none))) else (none)) else (some x5)
def spec_l19Without.f (k : Nat) (l0 : List Int) (a1 : Int) : Option (List Int) := spec_l19Without.l0 k l0 a1 (([] : List Int)) 0
set_option maxHeartbeats 8000000 in
set_option maxRecDepth 100000 in
theorem spec_l19Without.calls (k : Nat) (A0 : Option Addr) (c0 : Nat) (l0 : List Int) (a1 : Int) (r : List Int) (w : World) (hr0 : Kd.C (Kd.int .i64) w A0 l0.length l0) (hc0 : l0.length ≤ c0) (h : spec_l19Without.f k l0 a1 = some r) :
  Calls Try.prog 77 #[.slice A0 l0.length c0, .int .i64 a1] w fun e w' => ∃ v0_ : Value, e = .returned (v0_) ∧ Kd.R (Kd.int .i64) 3 w' w.heap.size (fun _ => True) v0_ r ∧ Below w.heap.size w w' := by
 have HR0 := Aside0.mk hr0
 have HC0 := Aside0.mk hc0
 clear hr0 hc0
 have HB := Aside0.mk (Below.refl w.heap.size w)
 have H : (spec_l19Without.l0 k l0 a1 (([] : List Int)) 0) = some r := h
 clear h
 obtain ⟨y562, hy562⟩ : ∃ y_ : List Int, y_ = (([] : List Int)) := ⟨_, rfl⟩
 replace H : (spec_l19Without.l0 k l0 a1 y562 0) = some r := by first | (rw [hy562]; with_reducible exact H) | (have H2_ := (Option.bind_some _ _).symm.trans H; rw [hy562]; with_reducible exact H2_) | (have H2_ := (Option.bind_some _ _).symm.trans H; with_reducible exact H2_) | with_reducible exact H | (rw [hy562]; exact H) | exact H
 have Ny562 := Aside0.mk hy562
 clear hy562
 have H' := Aside0.mk H
 clear H
 go_enter Try.func77, Try.ntmps77
 go_wp2_with (first | ((with_reducible refine gate_dst (N := 7) rfl ?_); refine Kd.R_lit (Kd.int .i64) _ 3 ?hg (N := 7) ?hd (xs := ([] : List Int)) (inner := []) (ok := fun _ => True) (okp := fun _ => True) ?hr ?hp (fun _ hk => hk) trivial (Below.refl _ _) (Nat.le_refl _) (by simp) ?_; (case hd => rfl); (case hg => rfl); (case hr => first | (go_simp; done) | (go_simp; rfl)); (case hp => exact (Reps.none _ _)); intro v563 w3 ho4 hb hg_ hnew_; clear hg_ hnew_; (first | rw [← Ny562.out] at ho4 | (simp only [Int.reduceToNat] at ho4; rw [← Ny562.out] at ho4)); have HO564 := Aside0.mk (Kd.R_lower ho4 (below_size bw)); replace HB := Aside0.mk (below_step bw hb); clear hb ho4))
 go_loopg [5, 6] k (fun kq v5 v6 w' => ∃ (x5_1 : List Int) (x6_1 : Int), v6 = .int .i64 x6_1 ∧ Aside0 (spec_l19Without.l0 kq l0 a1 x5_1 x6_1 = some r) ∧ Aside0 (kq ≤ k) ∧ Aside0 (Kd.R (Kd.int .i64) 3 w' w.heap.size (fun _ => True) v5 x5_1) ∧ Aside0 (Below w.heap.size w w'))
 case atStart => exact ⟨(y562), (0), rr, H', ⟨Nat.le_refl _⟩, ⟨ro HO564.out⟩, ⟨bw⟩⟩
 case round =>
  clear H'
  obtain ⟨x5_1, x6_1, rfl, HA, HK1, HO_5, HB⟩ := hrel
  cases gk with
  | zero => exact absurd HA.out (by simp [spec_l19Without.l0])
  | succ k1 =>
   have H := HA.out
   clear HA
   simp only [spec_l19Without.l0] at H
   replace H := gi H; obtain ⟨c5b0, H⟩ | ⟨c5b0, H⟩ := H
   ·replace H := gd H; obtain ⟨c6b0, H⟩ := H
    by_cases c7 : (rd l0 x6_1) = a1
    ·rw [if_pos c7] at H
     have c7b0 : ((rd l0 x6_1) == a1) = true := beq_iff_eq.mpr c7
     have c7b1 : ((rd l0 x6_1) != a1) = false := bne_eq_false_iff_eq.mpr c7
     clear c7
     have H' := Aside0.mk H
     clear H
     obtain ⟨⟨ad565, e565, hx565_0⟩, p565, q565⟩ := pq (Kd.at_int HR0.out x6_1)
     cases e565
     replace hx565_0 := (HB.out.cell (World.block_lt_of_cell? w _ hx565_0)).trans hx565_0
     go_wp2
     go_roundg k1
     case measure => have := HK1.out; omega
     case rel => exact ⟨(x5_1), (wrap64 (x6_1 + 1)), rr, H', ⟨by have := HK1.out; omega⟩, ⟨ro HO_5.out⟩, ⟨bw⟩⟩
    ·rw [if_neg c7] at H
     have c7b0 : ((rd l0 x6_1) == a1) = false := beq_eq_false_iff_ne.mpr c7
     have c7b1 : ((rd l0 x6_1) != a1) = true := bne_iff_ne.mpr c7
     by_cases c8 : x5_1.length < 17592186044416
     rotate_left
     ·rw [if_neg c8] at H
      exact absurd H (by simp)
     rw [if_pos c8] at H
     have LMc8 := Aside0.mk c8
     clear c8
     obtain ⟨y567, hy567⟩ : ∃ y_ : List Int, y_ = (x5_1 ++ [rd l0 x6_1]) := ⟨_, rfl⟩
     replace H : (spec_l19Without.l0 k1 l0 a1 y567 (wrap64 (x6_1 + 1))) = some r := by first | (rw [hy567]; with_reducible exact H) | (have H2_ := (Option.bind_some _ _).symm.trans H; rw [hy567]; with_reducible exact H2_) | (have H2_ := (Option.bind_some _ _).symm.trans H; with_reducible exact H2_) | with_reducible exact H | (rw [hy567]; exact H) | exact H
     have Ny567 := Aside0.mk hy567
     clear hy567
     have H' := Aside0.mk H
     clear H
     obtain ⟨⟨ad565, e565, hx565_0⟩, p565, q565⟩ := pq (Kd.at_int HR0.out x6_1)
     cases e565
     replace hx565_0 := (HB.out.cell (World.block_lt_of_cell? w _ hx565_0)).trans hx565_0
     obtain ⟨⟨ad566, e566, hx566_0⟩, p566, q566⟩ := pq (Kd.at_int HR0.out x6_1)
     obtain rfl : ad565 = ad566 := (by injection e566)
     replace hx566_0 := (HB.out.cell (World.block_lt_of_cell? w _ hx566_0)).trans hx566_0
     go_wp2_with (first | ((with_reducible refine gate_builtin (b := .append) (xs := #[.tmp 20, .tmp 25]) rfl ?_); at_builtin; refine Kd.R_append (Kd.int .i64) (w0 := w) w.heap.size rfl (.tmp 20) (.tmp 25) 22 3 (.int .i64 0) 8 rfl Try.underlying22 info3 rfl (by decide) (by omega) u5 x5_1 (rd l0 x6_1) [.int .i64 (rd l0 x6_1)] (fun _ => True) (fun _ => False) rfl rfl ?aP (fun _ hk => hk.elim) ?aF ?aO ?aB ?aS ?aL ?_; (case aP => exact rfl); (case aB => exact bw); (case aF => exact (fun _ _ => trivial)); (case aO => exact (ro HO_5.out)); (case aS => exact (below_size bw)); (case aL => have := LMc8.out; omega); intro v568 w9 ho hb hg hat; rw [← Ny567.out] at ho; replace HB := Aside0.mk (hb); have HO569 := Aside0.mk (ho); clear HO_5 ho hb hg hat))
     go_roundg k1
     case measure => have := HK1.out; omega
     case rel => exact ⟨(y567), (wrap64 (x6_1 + 1)), rr, H', ⟨by have := HK1.out; omega⟩, ⟨ro HO569.out⟩, ⟨bw⟩⟩
   ·obtain rfl := Option.some.inj H
    go_wp2
    go_ret
    exact ⟨_, re, ro HO_5.out, bw⟩


/-! ### spec_l4Gaps: function 78 -/
def spec_l4Gaps.l0 : Nat → List Int → List Bool → Int → Option (List Int)
 | 0, _, _, _ => none
 | k + 1, x3, x4, x5 => if x5 < 200 then (if 0 ≤ x5 then (if x5 < (x4.length : Int) then (if rdOf false x4 x5 = true then (spec_l4Gaps.l0 k x3 x4 (wrap64 (x5 + 1))) else (if x3.length < 17592186044416 then (spec_l4Gaps.l0 k (x3 ++ [x5]) x4 (wrap64 (x5 + 1))) else (none))) else (none)) else (none)) else (some x3)
def spec_l4Gaps.f (k : Nat) (l0_0 : List Int) : Option (List Int) := (spec_l3Table.f k l0_0 200).bind fun t574 => (spec_l4Gaps.l0 k (([] : List Int)) t574 1)
set_option maxHeartbeats 8000000 in
set_option maxRecDepth 100000 in
theorem spec_l4Gaps.calls (k : Nat) (A0_0 : Option Addr) (c0_0 : Nat) (l0_0 : List Int) (r : List Int) (w : World) (hr0_0 : Kd.C (Kd.int .i64) w A0_0 l0_0.length l0_0) (hc0_0 : l0_0.length ≤ c0_0) (h : spec_l4Gaps.f k l0_0 = some r) :
  Calls Try.prog 78 #[.agg #[.slice A0_0 l0_0.length c0_0]] w fun e w' => ∃ v0_ : Value, e = .returned (v0_) ∧ Kd.R (Kd.int .i64) 3 w' w.heap.size (fun _ => True) v0_ r ∧ Below w.heap.size w w' := by
 have hu27 := Try.underlying27
 have HR0_0 := Aside0.mk hr0_0
 have HC0_0 := Aside0.mk hc0_0
 clear hr0_0 hc0_0
 have HB := Aside0.mk (Below.refl w.heap.size w)
 have H : ((spec_l3Table.f k l0_0 200).bind fun t574 => (spec_l4Gaps.l0 k (([] : List Int)) t574 1)) = some r := h
 clear h
 obtain ⟨y571, hy571⟩ : ∃ y_ : List Int, y_ = (([] : List Int)) := ⟨_, rfl⟩
 replace H : ((spec_l3Table.f k l0_0 200).bind fun t574 => (spec_l4Gaps.l0 k y571 t574 1)) = some r := by first | (rw [hy571]; with_reducible exact H) | (have H2_ := (Option.bind_some _ _).symm.trans H; rw [hy571]; with_reducible exact H2_) | (have H2_ := (Option.bind_some _ _).symm.trans H; with_reducible exact H2_) | with_reducible exact H | (rw [hy571]; exact H) | exact H
 have Ny571 := Aside0.mk hy571
 clear hy571
 replace H := ga H; obtain ⟨t574, A2, H⟩ := H
 have H' := Aside0.mk H
 clear H
 go_enter Try.func78, Try.ntmps78
 go_wp2_with (first | ((with_reducible refine gate_dst (N := 1) rfl ?_); refine bx 1 #[.slice A0_0 l0_0.length c0_0] 27 ?_; intro gb570 hg w3 hbox hb; have BK570 := Aside0.mk (hbox); have GW570 := Aside0.mk (gs hg : w.heap.size ≤ gb570); have GE570 := Aside0.mk (gs hg : w.heap.size ≤ gb570); replace HB := Aside0.mk (below_step bw hb); clear hb hbox hg) | ((with_reducible refine gate_dst (N := 6) rfl ?_); refine Kd.R_lit (Kd.int .i64) _ 3 ?hg (N := 6) ?hd (xs := ([] : List Int)) (inner := []) (ok := fun _ => True) (okp := fun _ => True) ?hr ?hp (fun _ hk => hk) trivial (Below.refl _ _) (Nat.le_refl _) (by simp) ?_; (case hd => rfl); (case hg => rfl); (case hr => first | (go_simp; done) | (go_simp; rfl)); (case hp => exact (Reps.none _ _)); intro v572 w4 ho5 hb hg_ hnew_; clear hg_ hnew_; (first | rw [← Ny571.out] at ho5 | (simp only [Int.reduceToNat] at ho5; rw [← Ny571.out] at ho5)); have HO573 := Aside0.mk (Kd.R_lower ho5 (below_size bw)); replace BK570 := Aside0.mk (blk_below (g := gb570) (o := .cells #[.slice A0_0 l0_0.length c0_0] 27 (0, 0)) (bo BK570.out) hb); replace HB := Aside0.mk (below_step bw hb); clear hb ho5; have hcz6_0 := bc BK570 0 (.slice A0_0 l0_0.length c0_0); have hfz6_0 := blk_frozen BK570.out 0) | ((with_reducible refine gate_callee (f := 123) rfl ?_); refine gl (some 9) Try.func123 #[.slice A0_0 l0_0.length c0_0, .int .i64 200] ?_; (with_reducible refine (spec_l3Table.calls k _ _ l0_0 200 t574 _ ?side1 ?side2 A2.out).mono ?_); (case side1 => exact co (Kd.C_below HR0_0.out HB.out)); (case side2 => exact HC0_0.out); rintro e w7 ⟨v575, rfl, ho0, hb⟩; refine ⟨_, rfl, ?_⟩; replace HO573 := Aside0.mk (Kd.R_below (ro HO573.out) hb); have HO576 := Aside0.mk (Kd.R_lower ho0 (below_size bw)); replace BK570 := Aside0.mk (blk_below (g := gb570) (o := .cells #[.slice A0_0 l0_0.length c0_0] 27 (0, 0)) (bo BK570.out) hb); replace HB := Aside0.mk (below_step bw hb); clear hb ho0))
 go_loopg [3, 5] k (fun kq v3 v5 w' => ∃ (x3_1 : List Int) (x5_1 : Int), v5 = .int .i64 x5_1 ∧ Aside0 (spec_l4Gaps.l0 kq x3_1 t574 x5_1 = some r) ∧ Aside0 (kq ≤ k) ∧ Aside0 (Kd.R (Kd.int .i64) 3 w' w.heap.size (fun _ => True) v3 x3_1) ∧ Aside0 (Kd.R Kd.bool 4 w' w.heap.size (fun _ => True) v575 t574) ∧ Aside0 (w'.heap[gb570]? = some (.cells #[(.slice A0_0 l0_0.length c0_0)] 27 (0, 0))) ∧ Aside0 (Below w.heap.size w w'))
 case atStart => exact ⟨(y571), (1), rr, H', ⟨Nat.le_refl _⟩, ⟨ro HO573.out⟩, ⟨ro HO576.out⟩, ⟨bo BK570.out⟩, ⟨bw⟩⟩
 case round =>
  clear H'
  try clear hcz6_0; try clear hfz6_0
  obtain ⟨x3_1, x5_1, rfl, HA, HK1, HO_3, HO_4, BK570, HB⟩ := hrel
  cases gk with
  | zero => exact absurd HA.out (by simp [spec_l4Gaps.l0])
  | succ k1 =>
   have H := HA.out
   clear HA
   simp only [spec_l4Gaps.l0] at H
   replace H := gi H; obtain ⟨c8b0, H⟩ | ⟨c8b0, H⟩ := H
   ·replace H := gd H; obtain ⟨c9b0, H⟩ := H
    replace H := gd H; obtain ⟨c10b0, H⟩ := H
    obtain ⟨bq11, hbq11⟩ : ∃ b_ : Bool, b_ = (rdOf false t574 x5_1) := ⟨_, rfl⟩
    replace H : (if bq11 = true then (spec_l4Gaps.l0 k1 x3_1 t574 (wrap64 (x5_1 + 1))) else (if x3_1.length < 17592186044416 then (spec_l4Gaps.l0 k1 (x3_1 ++ [x5_1]) t574 (wrap64 (x5_1 + 1))) else (none))) = some r := by rw [← hbq11] at H; exact H
    have Nbq11 := Aside0.mk hbq11
    clear hbq11
    replace H := gb H; obtain ⟨rfl, H⟩ | ⟨rfl, H⟩ := H
    ·have H' := Aside0.mk H
     clear H
     obtain ⟨Ao13, co13, eo13⟩ := Kd.R_slice HO_4.out
     subst eo13
     obtain ⟨⟨ad577, e577, hx577_0⟩, p577, q577⟩ := pq (Kd.at_bool (Kd.R_reads' HO_4.out).2.2 x5_1)
     (try rw [← Nbq11.out] at hx577_0)
     cases e577
     go_wp2
     go_roundg k1
     case measure => have := HK1.out; omega
     case rel => exact ⟨(x3_1), (wrap64 (x5_1 + 1)), rr, H', ⟨by have := HK1.out; omega⟩, ⟨ro HO_3.out⟩, ⟨ro HO_4.out⟩, ⟨bo BK570.out⟩, ⟨bw⟩⟩
    ·by_cases c14 : x3_1.length < 17592186044416
     rotate_left
     ·rw [if_neg c14] at H
      exact absurd H (by simp)
     rw [if_pos c14] at H
     have LMc14 := Aside0.mk c14
     clear c14
     obtain ⟨y578, hy578⟩ : ∃ y_ : List Int, y_ = (x3_1 ++ [x5_1]) := ⟨_, rfl⟩
     replace H : (spec_l4Gaps.l0 k1 y578 t574 (wrap64 (x5_1 + 1))) = some r := by first | (rw [hy578]; with_reducible exact H) | (have H2_ := (Option.bind_some _ _).symm.trans H; rw [hy578]; with_reducible exact H2_) | (have H2_ := (Option.bind_some _ _).symm.trans H; with_reducible exact H2_) | with_reducible exact H | (rw [hy578]; exact H) | exact H
     have Ny578 := Aside0.mk hy578
     clear hy578
     have H' := Aside0.mk H
     clear H
     obtain ⟨Ao15, co15, eo15⟩ := Kd.R_slice HO_4.out
     subst eo15
     obtain ⟨⟨ad577, e577, hx577_0⟩, p577, q577⟩ := pq (Kd.at_bool (Kd.R_reads' HO_4.out).2.2 x5_1)
     (try rw [← Nbq11.out] at hx577_0)
     cases e577
     go_wp2_with (first | ((with_reducible refine gate_builtin (b := .append) (xs := #[.tmp 19, .tmp 21]) rfl ?_); at_builtin; refine Kd.R_append (Kd.int .i64) (w0 := w) w.heap.size rfl (.tmp 19) (.tmp 21) 22 3 (.int .i64 0) 8 rfl Try.underlying22 info3 rfl (by decide) (by omega) u3 x3_1 x5_1 [.int .i64 x5_1] (fun _ => True) (fun _ => False) rfl rfl ?aP (fun _ hk => hk.elim) ?aF ?aO ?aB ?aS ?aL ?_; (case aP => exact rfl); (case aB => exact bw); (case aF => exact (fun _ _ => trivial)); (case aO => exact (ro HO_3.out)); (case aS => exact (below_size bw)); (case aL => have := LMc14.out; omega); intro v579 w16 ho hb hg hat; rw [← Ny578.out] at ho; replace HO_4 := Aside0.mk (Kd.R_over' (ro HO_4.out) (Kd.R_typed (ro HO_3.out)) (by decide) hg); replace BK570 := Aside0.mk (blk_grown (g := gb570) (o := .cells #[.slice A0_0 l0_0.length c0_0] 27 (0, 0)) (bo BK570.out) hg (Kd.R_ne HO_3.out BK570.out (by decide))); replace HB := Aside0.mk (hb); have HO580 := Aside0.mk (ho); clear HO_3 ho hb hg hat))
     go_roundg k1
     case measure => have := HK1.out; omega
     case rel => exact ⟨(y578), (wrap64 (x5_1 + 1)), rr, H', ⟨by have := HK1.out; omega⟩, ⟨ro HO580.out⟩, ⟨ro HO_4.out⟩, ⟨bo BK570.out⟩, ⟨bw⟩⟩
   ·obtain rfl := Option.some.inj H
    go_wp2
    go_ret
    exact ⟨_, re, ro HO_3.out, bw⟩


/-! ### spec_l3Has: function 73 -/
def spec_l3Has.f (k : Nat) (l0_0 : List Int) (a1 : Int) : Option (Bool) := if a1 < 0 then (some (decide (a1 > 0))) else (if a1 ≥ 200 then (some (decide (a1 > 0))) else ((spec_l3Table.f k l0_0 a1).bind fun t582 => (if 0 ≤ a1 then (if a1 < (t582.length : Int) then (some (rdOf false t582 a1)) else (none)) else (none))))
set_option maxHeartbeats 8000000 in
set_option maxRecDepth 100000 in
theorem spec_l3Has.calls (k : Nat) (A0_0 : Option Addr) (c0_0 : Nat) (l0_0 : List Int) (a1 : Int) (r : Bool) (w : World) (hr0_0 : Kd.C (Kd.int .i64) w A0_0 l0_0.length l0_0) (hc0_0 : l0_0.length ≤ c0_0) (h : spec_l3Has.f k l0_0 a1 = some r) :
  Calls Try.prog 73 #[.agg #[.slice A0_0 l0_0.length c0_0], .int .i64 a1] w fun e w' => e = .returned (.bool r) ∧ Below w.heap.size w w' := by
 have hu27 := Try.underlying27
 have HR0_0 := Aside0.mk hr0_0
 have HC0_0 := Aside0.mk hc0_0
 clear hr0_0 hc0_0
 have HB := Aside0.mk (Below.refl w.heap.size w)
 have H : (if a1 < 0 then (some (decide (a1 > 0))) else (if a1 ≥ 200 then (some (decide (a1 > 0))) else ((spec_l3Table.f k l0_0 a1).bind fun t582 => (if 0 ≤ a1 then (if a1 < (t582.length : Int) then (some (rdOf false t582 a1)) else (none)) else (none))))) = some r := h
 clear h
 replace H := gi H; obtain ⟨c3b0, H⟩ | ⟨c3b0, H⟩ := H
 ·obtain rfl := Option.some.inj H
  go_enter Try.func73, Try.ntmps73
  go_wp2_with (first | ((with_reducible refine gate_dst (N := 2) rfl ?_); refine bx 2 #[.slice A0_0 l0_0.length c0_0] 27 ?_; intro gb581 hg w4 hbox hb; have BK581 := Aside0.mk (hbox); have GW581 := Aside0.mk (gs hg : w.heap.size ≤ gb581); have GE581 := Aside0.mk (gs hg : w.heap.size ≤ gb581); replace HB := Aside0.mk (below_step bw hb); clear hb hbox hg))
  go_ret
  exact ⟨re, bw⟩
 ·replace H := gj H; obtain ⟨c5, H⟩ | ⟨c5, H⟩ := H
  ·have c5b0 : decide (200 ≤ a1) = true := decide_eq_true c5
   clear c5
   obtain rfl := Option.some.inj H
   go_enter Try.func73, Try.ntmps73
   go_wp2_with (first | ((with_reducible refine gate_dst (N := 2) rfl ?_); refine bx 2 #[.slice A0_0 l0_0.length c0_0] 27 ?_; intro gb581 hg w6 hbox hb; have BK581 := Aside0.mk (hbox); have GW581 := Aside0.mk (gs hg : w.heap.size ≤ gb581); have GE581 := Aside0.mk (gs hg : w.heap.size ≤ gb581); replace HB := Aside0.mk (below_step bw hb); clear hb hbox hg))
   go_ret
   exact ⟨re, bw⟩
  ·have c5b0 : decide (200 ≤ a1) = false := decide_eq_false c5
   clear c5
   replace H := ga H; obtain ⟨t582, A7, H⟩ := H
   replace H := gd H; obtain ⟨c8b0, H⟩ := H
   replace H := gd H; obtain ⟨c9b0, H⟩ := H
   obtain rfl := Option.some.inj H
   go_enter Try.func73, Try.ntmps73
   go_wp2_with (first | ((with_reducible refine gate_dst (N := 2) rfl ?_); refine bx 2 #[.slice A0_0 l0_0.length c0_0] 27 ?_; intro gb581 hg w10 hbox hb; have BK581 := Aside0.mk (hbox); have GW581 := Aside0.mk (gs hg : w.heap.size ≤ gb581); have GE581 := Aside0.mk (gs hg : w.heap.size ≤ gb581); replace HB := Aside0.mk (below_step bw hb); clear hb hbox hg; have hcz11_0 := bc BK581 0 (.slice A0_0 l0_0.length c0_0); have hfz11_0 := blk_frozen BK581.out 0) | ((with_reducible refine gate_callee (f := 123) rfl ?_); refine gl (some 16) Try.func123 #[.slice A0_0 l0_0.length c0_0, .int .i64 a1] ?_; (with_reducible refine (spec_l3Table.calls k _ _ l0_0 a1 t582 _ ?side1 ?side2 A7.out).mono ?_); (case side1 => exact co (Kd.C_below HR0_0.out HB.out)); (case side2 => exact HC0_0.out); rintro e w12 ⟨v583, rfl, ho0, hb⟩; refine ⟨_, rfl, ?_⟩; have HO584 := Aside0.mk (Kd.R_lower ho0 (below_size bw)); replace BK581 := Aside0.mk (blk_below (g := gb581) (o := .cells #[.slice A0_0 l0_0.length c0_0] 27 (0, 0)) (bo BK581.out) hb); replace HB := Aside0.mk (below_step bw hb); clear hb ho0; obtain ⟨Ao13, co13, eo13⟩ := Kd.R_slice HO584.out; subst eo13; have p585 : 0 ≤ (a1 : Int) := of_decide_eq_true (by first | (with_reducible assumption) | assumption); have q585 : a1 < (t582.length : Int) := of_decide_eq_true (by first | (with_reducible assumption) | assumption); obtain ⟨ad585, e585, hx585_0⟩ := Kd.at_bool (Kd.R_reads' HO584.out).2.2 a1 p585 q585; cases e585; replace p585 := eq_true p585; replace q585 := eq_true q585))
   go_ret
   exact ⟨re, bw⟩

end Go.Proofs.Ytlfdipnhlmjiaaa.C
