/- Contracts of functions of the program: spec_l8Gaps, spec_GapClash, spec_FromGaps. -/
import Derived.Test.YtkfplkdchkmgbaaC0
import Derived.Test.YtkfplkdchkmgbaaC1
import Derived.Test.YtkfplkdchkmgbaaC2
import Derived.Test.YtkfplkdchkmgbaaC3
import Derived.Test.YtkfplkdchkmgbaaC14
namespace Go.Proofs.Ytkfplkdchkmgbaa.C
open Go.RowKit Go.Proofs.YtkfplkdchkmgbaaW.PrintWords Go.Proofs.YtkfplkdchkmgbaaW.PrintLast Go.Proofs.YtkfplkdchkmgbaaW.PrintMore
attribute [local go_sem] max2_int min2_int max_two min_two max_three min_three max_four min_four
set_option linter.unusedVariables false
set_option linter.unusedSimpArgs false

/-! ### spec_l8Gaps: function 223 -/
def spec_l8Gaps.l0 : Nat → List Int → Int → Option (Bool)
 | 0, _, _ => none
 | k + 1, x0, x3 => if x3 < (x0.length : Int) then (if 0 ≤ x3 then ((spec_l1In.f (rd x0 x3) 1 199).bind fun t495 => (if t495 = true then (spec_l8Gaps.l0 k x0 (wrap64 (x3 + 1))) else (some false))) else (none)) else ((spec_IsAscending.f k x0).bind fun t496 => (some t496))
def spec_l8Gaps.f (k : Nat) (l0 : List Int) : Option (Bool) := spec_l8Gaps.l0 k l0 0
set_option maxHeartbeats 8000000 in
set_option maxRecDepth 100000 in
theorem spec_l8Gaps.calls (k : Nat) (A0 : Option Addr) (c0 : Nat) (l0 : List Int) (r : Bool) (w : World) (hr0 : Kd.C (Kd.int .i64) w A0 l0.length l0) (hc0 : l0.length ≤ c0) (h : spec_l8Gaps.f k l0 = some r) :
  Calls Try.prog 223 #[.slice A0 l0.length c0] w fun e w' => e = .returned (.bool r) ∧ Drawn0 w w' := by
 have HR0 := Aside0.mk hr0
 have HC0 := Aside0.mk hc0
 clear hr0 hc0
 have H : (spec_l8Gaps.l0 k l0 0) = some r := h
 clear h
 have H' := Aside0.mk H
 clear H
 go_enter Try.func223, Try.ntmps223
 go_wp2
 go_loopg [3] k (fun kq v3 w' => ∃ (x3_1 : Int), v3 = .int .i64 x3_1 ∧ Aside0 (spec_l8Gaps.l0 kq l0 x3_1 = some r) ∧ Aside0 (kq ≤ k) ∧ Drawn0 w w')
 case atStart => exact ⟨(0), rr, H', ⟨Nat.le_refl _⟩, dw⟩
 case round =>
  clear H'
  obtain ⟨x3_1, rfl, HA, HK1, ⟨m1, rfl⟩⟩ := hrel
  cases gk with
  | zero => exact absurd HA.out (by simp [spec_l8Gaps.l0])
  | succ k1 =>
   have H := HA.out
   clear HA
   simp only [spec_l8Gaps.l0] at H
   replace H := gi H; obtain ⟨c2b0, H⟩ | ⟨c2b0, H⟩ := H
   ·replace H := gd H; obtain ⟨c3b0, H⟩ := H
    replace H := ga H; obtain ⟨t495, A4, H⟩ := H
    replace H := gb H; obtain ⟨rfl, H⟩ | ⟨rfl, H⟩ := H
    ·have H' := Aside0.mk H
     clear H
     obtain ⟨⟨ad494, e494, hx494_0⟩, p494, q494⟩ := pq (Kd.at_int HR0.out x3_1)
     cases e494
     go_wp2_with (first | ((with_reducible refine gate_callee (f := 140) rfl ?_); refine gl (some 14) Try.func140 #[.int .i64 (rd l0 x3_1), .int .i64 1, .int .i64 199] ?_; (with_reducible refine (spec_l1In.calls (rd l0 x3_1) 1 199 true _ A4.out).mono ?_); rintro e w' ⟨rfl, ⟨nd, rfl⟩⟩; refine ⟨_, rfl, ?_⟩))
     go_roundg k1
     case measure => have := HK1.out; omega
     case rel => exact ⟨(wrap64 (x3_1 + 1)), rr, H', ⟨by have := HK1.out; omega⟩, dw⟩
    ·obtain rfl := Option.some.inj H
     obtain ⟨⟨ad494, e494, hx494_0⟩, p494, q494⟩ := pq (Kd.at_int HR0.out x3_1)
     cases e494
     go_wp2_with (first | ((with_reducible refine gate_callee (f := 140) rfl ?_); refine gl (some 14) Try.func140 #[.int .i64 (rd l0 x3_1), .int .i64 1, .int .i64 199] ?_; (with_reducible refine (spec_l1In.calls (rd l0 x3_1) 1 199 false _ A4.out).mono ?_); rintro e w' ⟨rfl, ⟨nd, rfl⟩⟩; refine ⟨_, rfl, ?_⟩))
     go_ret
     exact ⟨rr, dw⟩
   ·replace H := ga H; obtain ⟨t496, A6, H⟩ := H
    obtain rfl := Option.some.inj H
    go_wp2_with (first | ((with_reducible refine gate_callee (f := 145) rfl ?_); refine gl (some 17) Try.func145 #[.slice A0 l0.length c0] ?_; (with_reducible refine (spec_IsAscending.calls k1 _ _ l0 t496 _ ?side1 ?side2 A6.out).mono ?_); (case side1 => exact co HR0.out); (case side2 => exact HC0.out); rintro e w' ⟨rfl, ⟨nd, rfl⟩⟩; refine ⟨_, rfl, ?_⟩))
    go_ret
    exact ⟨rr, dw⟩


/-! ### spec_GapClash: function 222 -/
mutual
def spec_GapClash.j0 : Nat → List Int → Bool → Option (Int × Int × Bool)
 | 0, _, _ => none
 | k + 1, x0, x16 => if x16 = true then (some (0, 0, false)) else (if 0 ≤ (wrap64 ((x0.length : Int) - 1)) then (if (wrap64 ((x0.length : Int) - 1)) < (x0.length : Int) then (if 0 ≤ (wrap64 ((wrap64 (2 * (rd x0 (wrap64 ((x0.length : Int) - 1))))) + 1)) then (if (wrap64 ((wrap64 (2 * (rd x0 (wrap64 ((x0.length : Int) - 1))))) + 1) : Int).toNat ≤ 281474976710656 then (spec_GapClash.l0 k x0 (rd x0 (wrap64 ((x0.length : Int) - 1))) (List.replicate (wrap64 ((wrap64 (2 * (rd x0 (wrap64 ((x0.length : Int) - 1))))) + 1) : Int).toNat false) 0) else (none)) else (none)) else (none)) else (none))
def spec_GapClash.l0 : Nat → List Int → Int → List Bool → Int → Option (Int × Int × Bool)
 | 0, _, _, _, _ => none
 | k + 1, x0, x4, x5, x6 => if x6 < (x0.length : Int) then (if 0 ≤ x6 then (if 0 ≤ (rd x0 x6) then (if (rd x0 x6) < (x5.length : Int) then (spec_GapClash.l0 k x0 x4 (x5.set ((rd x0 x6) : Int).toNat true) (wrap64 (x6 + 1))) else (none)) else (none)) else (none)) else (spec_GapClash.l1 k x4 x5 1)
def spec_GapClash.l1 : Nat → Int → List Bool → Int → Option (Int × Int × Bool)
 | 0, _, _, _ => none
 | k + 1, x4, x5, x7 => if x7 ≤ x4 then (spec_GapClash.l2 k x4 x5 x7 x7) else (some (0, 0, false))
def spec_GapClash.l2 : Nat → Int → List Bool → Int → Int → Option (Int × Int × Bool)
 | 0, _, _, _, _ => none
 | k + 1, x4, x5, x7, x8 => if (wrap64 (x7 + x8)) ≤ x4 then (if 0 ≤ x7 then (if x7 < (x5.length : Int) then (spec_GapClash.j4 k x4 x5 x7 x8 (!(rdOf false x5 x7))) else (none)) else (none)) else (spec_GapClash.j4 k x4 x5 x7 x8 false)
def spec_GapClash.j4 : Nat → Int → List Bool → Int → Int → Bool → Option (Int × Int × Bool)
 | 0, _, _, _, _, _ => none
 | k + 1, x4, x5, x7, x8, x57 => if x57 = true then (if 0 ≤ x8 then (if x8 < (x5.length : Int) then (if rdOf false x5 x8 = true then (spec_GapClash.l2 k x4 x5 x7 (wrap64 (x8 + 1))) else (if 0 ≤ (wrap64 (x7 + x8)) then (if (wrap64 (x7 + x8)) < (x5.length : Int) then (if rdOf false x5 (wrap64 (x7 + x8)) = true then (some (x7, x8, true)) else (spec_GapClash.l2 k x4 x5 x7 (wrap64 (x8 + 1)))) else (none)) else (none))) else (none)) else (none)) else (spec_GapClash.l1 k x4 x5 (wrap64 (x7 + 1)))
end
def spec_GapClash.f (k : Nat) (l0 : List Int) : Option (Int × Int × Bool) := (spec_l8Gaps.f k l0).bind fun t498 => (if t498 = true then (spec_GapClash.j0 k l0 ((l0.length : Int) == 0)) else (spec_GapClash.j0 k l0 true))
set_option maxHeartbeats 8000000 in
set_option maxRecDepth 100000 in
theorem spec_GapClash.calls (k : Nat) (A0 : Option Addr) (c0 : Nat) (l0 : List Int) (r1 : Int) (r2 : Int) (r3 : Bool) (w : World) (hr0 : Kd.C (Kd.int .i64) w A0 l0.length l0) (hc0 : l0.length ≤ c0) (h : spec_GapClash.f k l0 = some (r1, r2, r3)) :
  Calls Try.prog 222 #[.slice A0 l0.length c0] w fun e w' => e = .returned (.tuple #[.agg #[.int .i64 r1, .int .i64 r2], .bool r3]) ∧ Below w.heap.size w w' := by
 have hu33 := Try.underlying33
 have HR0 := Aside0.mk hr0
 have HC0 := Aside0.mk hc0
 clear hr0 hc0
 have HB := Aside0.mk (Below.refl w.heap.size w)
 have H : ((spec_l8Gaps.f k l0).bind fun t498 => (if t498 = true then (spec_GapClash.j0 k l0 ((l0.length : Int) == 0)) else (spec_GapClash.j0 k l0 true))) = some (r1, r2, r3) := h
 clear h
 have HC2 := Aside0.mk H
 clear H
 go_enter Try.func222, Try.ntmps222
 go_upto_region 1 with (first | ((with_reducible refine gate_dst (N := 2) rfl ?_); (try (refine gate_guard (by rfl) ?_; dsimp only)); refine bx 2 #[.int .i64 0, .int .i64 0] 33 ?_; intro gb497 hg w3 hbox hb; have BK497 := Aside0.mk (hbox); have GW497 := Aside0.mk (gs hg : w.heap.size ≤ gb497); have GE497 := Aside0.mk (gs hg : w.heap.size ≤ gb497); replace HB := Aside0.mk (below_step bw hb); clear hb hbox hg))
 (try simp only [Act.put, List.setIfInBounds_toArray, List.set_cons_zero, List.set_cons_succ])
 go_cut [16] (fun v16 wc => ∃ (kq : Nat) (x16_1 : Bool), v16 = .bool x16_1 ∧ Aside0 (spec_GapClash.j0 kq l0 x16_1 = some (r1, r2, r3)) ∧ Aside0 (kq ≤ k) ∧ Aside0 (wc.heap[gb497]? = some (.cells #[.int .i64 0, .int .i64 0] 33 (0, 0))) ∧ Aside0 (Below w.heap.size w wc))
 case first =>
  have H := HC2.out
  clear HC2
  replace H := ga H; obtain ⟨t498, A4, H⟩ := H
  replace H := gb H; obtain ⟨rfl, H⟩ | ⟨rfl, H⟩ := H
  ·have H' := Aside0.mk H
   clear H
   go_wp2_with (first | ((with_reducible refine gate_callee (f := 223) rfl ?_); refine gl (some 10) Try.func223 #[.slice A0 l0.length c0] ?_; (with_reducible refine (spec_l8Gaps.calls k _ _ l0 true _ ?side1 ?side2 A4.out).mono ?_); (case side1 => exact co (Kd.C_below HR0.out HB.out)); (case side2 => exact HC0.out); rintro e w' ⟨rfl, ⟨nd, rfl⟩⟩; refine ⟨_, rfl, ?_⟩))
   go_meet
   case rel => exact ⟨_, (((l0.length : Int) == 0)), rr, H', ⟨om⟩, ⟨bo BK497.out⟩, ⟨bw⟩⟩
  ·have H' := Aside0.mk H
   clear H
   go_wp2_with (first | ((with_reducible refine gate_callee (f := 223) rfl ?_); refine gl (some 10) Try.func223 #[.slice A0 l0.length c0] ?_; (with_reducible refine (spec_l8Gaps.calls k _ _ l0 false _ ?side1 ?side2 A4.out).mono ?_); (case side1 => exact co (Kd.C_below HR0.out HB.out)); (case side2 => exact HC0.out); rintro e w' ⟨rfl, ⟨nd, rfl⟩⟩; refine ⟨_, rfl, ?_⟩))
   go_meet
   case rel => exact ⟨_, (true), rr, H', ⟨om⟩, ⟨bo BK497.out⟩, ⟨bw⟩⟩
 case rest =>
  clear HC2
  obtain ⟨kq, x16_1, rfl, HA, HJ1, BK497, HB⟩ := hcut
  cases kq with
  | zero => exact absurd HA.out (by simp [spec_GapClash.j0])
  | succ kj1 =>
   have H := HA.out
   clear HA
   simp only [spec_GapClash.j0] at H
   replace H := gb H; obtain ⟨rfl, H⟩ | ⟨rfl, H⟩ := H
   ·simp only [Option.some.injEq, Prod.mk.injEq] at H
    obtain ⟨rfl, rfl, rfl⟩ := H
    have hcz7_0 := bc BK497 0 (.int .i64 0)
    have hcz7_1 := bc BK497 1 (.int .i64 0)
    have hfz7_0 := blk_frozen BK497.out 0
    have hfz7_1 := blk_frozen BK497.out 1
    go_wp2
    refine bodyPost_ret (results_ct rfl _ _ gb497 33 #[.int .i64 0, .int .i64 0] (0, 0) _ rfl (by (with_reducible repeat (first | refine blk_drewN ?_ _ | refine blk_drew ?_ | refine blk_alloc ?_ _)); refine blk_put (cs := #[.int .i64 0, .int .i64 0]) ?_ 1 _ rfl; (with_reducible repeat (first | refine blk_drewN ?_ _ | refine blk_drew ?_ | refine blk_alloc ?_ _)); refine blk_put (cs := #[.int .i64 0, .int .i64 0]) ?_ 0 _ rfl; (with_reducible repeat (first | refine blk_drewN ?_ _ | refine blk_drew ?_ | refine blk_alloc ?_ _)); exact BK497.out) Try.underlying33 rfl (by kernel_rfl)) rfl ?_
    exact ⟨re, bw⟩
   ·obtain ⟨ji8, hji8⟩ : ∃ j_ : Int, (wrap64 ((l0.length : Int) - 1)) = j_ := ⟨_, rfl⟩
    replace H : (if 0 ≤ (ji8) then (if (ji8) < (l0.length : Int) then (if 0 ≤ (wrap64 ((wrap64 (2 * (rd l0 (ji8)))) + 1)) then (if (wrap64 ((wrap64 (2 * (rd l0 (ji8)))) + 1) : Int).toNat ≤ 281474976710656 then (spec_GapClash.l0 kj1 l0 (rd l0 (ji8)) (List.replicate (wrap64 ((wrap64 (2 * (rd l0 (ji8)))) + 1) : Int).toNat false) 0) else (none)) else (none)) else (none)) else (none)) = some (r1, r2, r3) := by first | (rw [hji8] at H; exact H) | (simp only [hji8] at H ⊢; exact H)
    have hji8w : (IntKind.i64.wrap ((l0.length : Int) - 1)) = ji8 := (i64_w _).trans hji8
    replace H := gd H; obtain ⟨c9b0, H⟩ := H
    replace H := gd H; obtain ⟨c10b0, H⟩ := H
    obtain ⟨ji11, hji11⟩ : ∃ j_ : Int, (wrap64 ((wrap64 (2 * (rd l0 (ji8)))) + 1)) = j_ := ⟨_, rfl⟩
    replace H : (if 0 ≤ (ji11) then (if (ji11 : Int).toNat ≤ 281474976710656 then (spec_GapClash.l0 kj1 l0 (rd l0 (ji8)) (List.replicate (ji11 : Int).toNat false) 0) else (none)) else (none)) = some (r1, r2, r3) := by first | (rw [hji11] at H; exact H) | (simp only [hji11] at H ⊢; exact H)
    have hji11w : (IntKind.i64.wrap ((wrap64 (2 * (rd l0 (ji8)))) + 1)) = ji11 := (i64_w _).trans hji11
    replace H := gp H; obtain ⟨c12, H⟩ := H
    have c12b0 := eq_true c12
    have c12b1 : decide (0 ≤ (ji11)) = true := decide_eq_true c12
    clear c12
    replace H := gp H; obtain ⟨c13, H⟩ := H
    have c13b0 := eq_true c13
    have c13b1 : decide ((ji11 : Int).toNat ≤ 281474976710656) = true := decide_eq_true c13
    clear c13
    obtain ⟨y500, hy500⟩ : ∃ y_ : List Bool, y_ = (List.replicate (ji11 : Int).toNat false) := ⟨_, rfl⟩
    replace H : (spec_GapClash.l0 kj1 l0 (rd l0 (ji8)) y500 0) = some (r1, r2, r3) := by first | (rw [hy500]; with_reducible exact H) | (have H2_ := (Option.bind_some _ _).symm.trans H; rw [hy500]; with_reducible exact H2_) | (have H2_ := (Option.bind_some _ _).symm.trans H; with_reducible exact H2_) | with_reducible exact H | (rw [hy500]; exact H) | exact H
    have Ny500 := Aside0.mk hy500
    clear hy500
    have H' := Aside0.mk H
    clear H
    obtain ⟨⟨ad499, e499, hx499_0⟩, p499, q499⟩ := pq (Kd.at_int HR0.out (ji8))
    cases e499
    replace hx499_0 := (HB.out.cell (World.block_lt_of_cell? w _ hx499_0)).trans hx499_0
    go_wp2_with (first | ((with_reducible refine gate_dst (N := 27) rfl ?_); (try (refine gate_guard (by rfl) ?_; dsimp only)); refine Kd.R_make Kd.bool _ 4 rfl (N := 27) rfl 109 _ _ rfl ji11 rfl rfl Try.underlying109 (.bool false) 1 info4 rfl (by decide) (by omega) false (ok := fun _ => True) (okp := fun _ => True) rfl (fun _ hk => hk) trivial (of_decide_eq_true (by first | (with_reducible assumption) | assumption)) (Nat.le_trans (Nat.mul_le_mul_right _ (of_decide_eq_true (by first | (with_reducible assumption) | assumption) : ji11.toNat ≤ 281474976710656)) (by omega)) (Below.refl _ _) (Nat.le_refl _) ?_; intro v501 w14 ho15 hb hg_ hnew_; clear hg_ hnew_; (first | rw [← Ny500.out] at ho15 | (simp only [Int.reduceToNat] at ho15; rw [← Ny500.out] at ho15)); have HO502 := Aside0.mk (Kd.R_lower ho15 (below_size bw)); replace BK497 := Aside0.mk (blk_below (g := gb497) (o := .cells #[.int .i64 0, .int .i64 0] 33 (0, 0)) (bo BK497.out) hb); replace HB := Aside0.mk (below_step bw hb); clear hb ho15))
    go_loopg [6] kj1 (fun kq v6 w' => ∃ (x5_2 : List Bool) (x6_2 : Int), v6 = .int .i64 x6_2 ∧ Aside0 (spec_GapClash.l0 kq l0 (rd l0 (ji8)) x5_2 x6_2 = some (r1, r2, r3)) ∧ Aside0 (kq ≤ kj1) ∧ Aside0 (Kd.R Kd.bool 4 w' w.heap.size (fun _ => True) v501 x5_2) ∧ Aside0 (w'.heap[gb497]? = some (.cells #[.int .i64 0, .int .i64 0] 33 (0, 0))) ∧ Aside0 (Below w.heap.size w w'))
    case atStart => exact ⟨(y500), (0), rr, H', ⟨Nat.le_refl _⟩, ⟨ro HO502.out⟩, ⟨bo BK497.out⟩, ⟨bw⟩⟩
    case round =>
     clear H'
     try clear c9b0; try clear c10b0; try clear c12; try clear c12b0; try clear c12b1; try clear c13; try clear c13b0; try clear c13b1; try clear hcz7_0; try clear hcz7_1; try clear hfz7_0; try clear hfz7_1; try clear hx499_0; try clear p499; try clear q499
     obtain ⟨x5_2, x6_2, rfl, HA, HK2, HO_5, BK497, HB⟩ := hrel
     cases gk with
     | zero => exact absurd HA.out (by simp [spec_GapClash.l0])
     | succ k2 =>
      have H := HA.out
      clear HA
      simp only [spec_GapClash.l0] at H
      replace H := gi H; obtain ⟨c16b0, H⟩ | ⟨c16b0, H⟩ := H
      ·replace H := gd H; obtain ⟨c17b0, H⟩ := H
       replace H := gd H; obtain ⟨c18b0, H⟩ := H
       replace H := gd H; obtain ⟨c19b0, H⟩ := H
       obtain ⟨y504, hy504⟩ : ∃ y_ : List Bool, y_ = (x5_2.set ((rd l0 x6_2) : Int).toNat true) := ⟨_, rfl⟩
       replace H : (spec_GapClash.l0 k2 l0 (rd l0 (ji8)) y504 (wrap64 (x6_2 + 1))) = some (r1, r2, r3) := by first | (rw [hy504]; with_reducible exact H) | (have H2_ := (Option.bind_some _ _).symm.trans H; rw [hy504]; with_reducible exact H2_) | (have H2_ := (Option.bind_some _ _).symm.trans H; with_reducible exact H2_) | with_reducible exact H | (rw [hy504]; exact H) | exact H
       have Ny504 := Aside0.mk hy504
       clear hy504
       have H' := Aside0.mk H
       clear H
       obtain ⟨⟨ad503, e503, hx503_0⟩, p503, q503⟩ := pq (Kd.at_int HR0.out x6_2)
       obtain rfl : ad499 = ad503 := (by injection e503)
       replace hx503_0 := (HB.out.cell (World.block_lt_of_cell? w _ hx503_0)).trans hx503_0
       have p20 : 0 ≤ ((rd l0 x6_2) : Int) := of_decide_eq_true (by first | (with_reducible assumption) | assumption)
       have q20 : ((rd l0 x6_2) : Int) < ((x5_2.length : Int) : Int) := of_decide_eq_true (by first | (with_reducible assumption) | assumption)
       obtain ⟨go20, co20, eo20, gb20, gl20, cl20, HG20⟩ := Kd.R_form HO_5.out (by omega)
       (first | cases eo20 | (injection eo20 with ea_ en_ ec_; (first | subst ea_ | (injection ea_ with ea_; subst ea_)); subst ec_; clear en_))
       have GB20 := Aside0.mk gb20
       have GG20 := Aside0.mk HG20
       clear gb20 gl20 HG20
       obtain ⟨hx20_0, hf20_0⟩ := Kd.R_celln false HO_5.out ((rd l0 x6_2) : Int) p20 q20
       replace p20 := eq_true p20
       replace q20 := eq_true q20
       have HP21 := Kd.R_putg HO_5.out ((rd l0 x6_2) : Int) true
       go_wp2_with (first | ((with_reducible refine gate_store (t := 4) (p := 39) rfl ?_); refine store_event (t := 4) (p := 39) (v := ?vo_w22) (w1 := (wr.setCell ⟨go20, ((rd l0 x6_2) : Int).toNat, none⟩ (.bool true))) ?hg ?ho ?hn ?hr ?_; (case ho => rfl); (case hg => rfl); (case hn => rfl); (case hr => first | (go_simp; done) | (go_simp; rfl)); intro w22 hw; have hg : wr.grownBy w22 (some go20) := (by rw [hw]; exact HP21.2); have hp_ : Kd.R Kd.bool 4 w22 w.heap.size (fun _ => True) (.slice (some ⟨go20, 0, none⟩) x5_2.length co20) y504 := (by rw [hw, Ny504.out]; exact HP21.1); clear HP21; replace BK497 := Aside0.mk (blk_grown (g := gb497) (o := .cells #[.int .i64 0, .int .i64 0] 33 (0, 0)) (bo BK497.out) hg (Kd.R_ne HO_5.out BK497.out (by decide))); replace HO_5 := Aside0.mk (hp_); replace HB := Aside0.mk ((by rw [hw]; exact below_set (HB.out) GB20.out : Below w.heap.size w w22)); clear hg hw hp_))
       go_roundg k2
       case measure => have := HJ1.out; have := HK2.out; omega
       case rel => exact ⟨(y504), (wrap64 (x6_2 + 1)), rr, H', ⟨by have := HJ1.out; have := HK2.out; omega⟩, ⟨ro HO_5.out⟩, ⟨bo BK497.out⟩, ⟨bw⟩⟩
      ·have H' := Aside0.mk H
       clear H
       go_wp2
       go_loopg [7] k2 (fun kq v7 w' => ∃ (x7_3 : Int) (x498000_3 : Int) (x498001_3 : Int), v7 = .int .i64 x7_3 ∧ Aside0 (spec_GapClash.l1 kq (rd l0 (ji8)) x5_2 x7_3 = some (r1, r2, r3)) ∧ Aside0 (kq ≤ k2) ∧ Aside0 (Kd.R Kd.bool 4 w' w.heap.size (fun _ => True) v501 x5_2) ∧ Aside0 (w'.heap[gb497]? = some (.cells #[.int .i64 x498000_3, .int .i64 x498001_3] 33 (0, 0))) ∧ Aside0 (Below w.heap.size w w'))
       case atStart => exact ⟨(1), (0), (0), rr, H', ⟨Nat.le_refl _⟩, ⟨ro HO_5.out⟩, ⟨bo BK497.out⟩, ⟨bw⟩⟩
       case round =>
        clear H'
        try clear c9b0; try clear c10b0; try clear c12; try clear c12b0; try clear c12b1; try clear c13; try clear c13b0; try clear c13b1; try clear c16b0; try clear c17b0; try clear c18b0; try clear c19b0; try clear p20; try clear q20; try clear hcz7_0; try clear hcz7_1; try clear hfz7_0; try clear hfz7_1; try clear hx20_0; try clear hx499_0; try clear hx503_0; try clear p499; try clear p503; try clear q499; try clear q503
        obtain ⟨x7_3, x498000_3, x498001_3, rfl, HA, HK3, HO_5, BK497, HB⟩ := hrel
        cases gk with
        | zero => exact absurd HA.out (by simp [spec_GapClash.l1])
        | succ k3 =>
         have H := HA.out
         clear HA
         simp only [spec_GapClash.l1] at H
         replace H := gi H; obtain ⟨c23b0, H⟩ | ⟨c23b0, H⟩ := H
         ·have H' := Aside0.mk H
          clear H
          go_wp2
          go_loopg [8] k3 (fun kq v8 w' => ∃ (x8_4 : Int) (x498000_4 : Int) (x498001_4 : Int), v8 = .int .i64 x8_4 ∧ Aside0 (spec_GapClash.l2 kq (rd l0 (ji8)) x5_2 x7_3 x8_4 = some (r1, r2, r3)) ∧ Aside0 (kq ≤ k3) ∧ Aside0 (Kd.R Kd.bool 4 w' w.heap.size (fun _ => True) v501 x5_2) ∧ Aside0 (w'.heap[gb497]? = some (.cells #[.int .i64 x498000_4, .int .i64 x498001_4] 33 (0, 0))) ∧ Aside0 (Below w.heap.size w w'))
          case atStart => exact ⟨(x7_3), (x498000_3), (x498001_3), rr, H', ⟨Nat.le_refl _⟩, ⟨ro HO_5.out⟩, ⟨bo BK497.out⟩, ⟨bw⟩⟩
          case round =>
           clear H'
           try clear c9b0; try clear c10b0; try clear c12; try clear c12b0; try clear c12b1; try clear c13; try clear c13b0; try clear c13b1; try clear c16b0; try clear c17b0; try clear c18b0; try clear c19b0; try clear p20; try clear q20; try clear c23b0; try clear hcz7_0; try clear hcz7_1; try clear hfz7_0; try clear hfz7_1; try clear hx20_0; try clear hx499_0; try clear hx503_0; try clear p499; try clear p503; try clear q499; try clear q503
           obtain ⟨x8_4, x498000_4, x498001_4, rfl, HA, HK4, HO_5, BK497, HB⟩ := hrel
           cases gk with
           | zero => exact absurd HA.out (by simp [spec_GapClash.l2])
           | succ k4 =>
            have H := HA.out
            clear HA
            simp only [spec_GapClash.l2] at H
            have HC24 := Aside0.mk H
            clear H
            go_upto_region 13 with (fail)
            go_cut [57] (fun v57 wc => ∃ (kq : Nat) (x57_23 : Bool), v57 = .bool x57_23 ∧ Aside0 (spec_GapClash.j4 kq (rd l0 (ji8)) x5_2 x7_3 x8_4 x57_23 = some (r1, r2, r3)) ∧ Aside0 (kq ≤ k4) ∧ Aside0 (Kd.R Kd.bool 4 wc w.heap.size (fun _ => True) v501 x5_2) ∧ Aside0 (wc.heap[gb497]? = some (.cells #[.int .i64 x498000_4, .int .i64 x498001_4] 33 (0, 0))) ∧ Aside0 (Below w.heap.size w wc))
            case first =>
             have H := HC24.out
             clear HC24
             replace H := gi H; obtain ⟨c25b0, H⟩ | ⟨c25b0, H⟩ := H
             ·(first | rw [c25b0] | (simp only [i64_w, i32_w]; rw [c25b0]) | skip)
              replace H := gd H; obtain ⟨c26b0, H⟩ := H
              replace H := gd H; obtain ⟨c27b0, H⟩ := H
              have H' := Aside0.mk H
              clear H
              obtain ⟨Ao28, co28, eo28⟩ := Kd.R_slice HO_5.out
              subst eo28
              obtain ⟨⟨ad505, e505, hx505_0⟩, p505, q505⟩ := pq (Kd.at_bool (Kd.R_reads' HO_5.out).2.2 x7_3)
              cases e505
              go_wp2
              go_meet
              case rel => exact ⟨_, (!(rdOf false x5_2 x7_3)), rr, H', ⟨by have := HJ1.out; have := HK2.out; have := HK3.out; have := HK4.out; first | omega | exact Nat.le_refl _⟩, ⟨ro HO_5.out⟩, ⟨bo BK497.out⟩, ⟨bw⟩⟩
             ·(first | rw [c25b0] | (simp only [i64_w, i32_w]; rw [c25b0]) | skip)
              have H' := Aside0.mk H
              clear H
              go_wp2
              go_meet
              case rel => exact ⟨_, (false), rr, H', ⟨by have := HJ1.out; have := HK2.out; have := HK3.out; have := HK4.out; first | omega | exact Nat.le_refl _⟩, ⟨ro HO_5.out⟩, ⟨bo BK497.out⟩, ⟨bw⟩⟩
            case rest =>
             clear HC24
             try clear c9b0; try clear c10b0; try clear c12; try clear c12b0; try clear c12b1; try clear c13; try clear c13b0; try clear c13b1; try clear c16b0; try clear c17b0; try clear c18b0; try clear c19b0; try clear p20; try clear q20; try clear c23b0; try clear c25b0; try clear c26b0; try clear c27b0; try clear hcz7_0; try clear hcz7_1; try clear hfz7_0; try clear hfz7_1; try clear hx20_0; try clear hx499_0; try clear hx503_0; try clear hx505_0; try clear p499; try clear p503; try clear p505; try clear q499; try clear q503; try clear q505
             obtain ⟨kq, x57_23, rfl, HA, HJ23, HO_5, BK497, HB⟩ := hcut
             cases kq with
             | zero => exact absurd HA.out (by simp [spec_GapClash.j4])
             | succ kj23 =>
              have H := HA.out
              clear HA
              simp only [spec_GapClash.j4] at H
              replace H := gb H; obtain ⟨rfl, H⟩ | ⟨rfl, H⟩ := H
              ·replace H := gd H; obtain ⟨c30b0, H⟩ := H
               replace H := gd H; obtain ⟨c31b0, H⟩ := H
               obtain ⟨bq32, hbq32⟩ : ∃ b_ : Bool, b_ = (rdOf false x5_2 x8_4) := ⟨_, rfl⟩
               replace H : (if bq32 = true then (spec_GapClash.l2 kj23 (rd l0 (ji8)) x5_2 x7_3 (wrap64 (x8_4 + 1))) else (if 0 ≤ (wrap64 (x7_3 + x8_4)) then (if (wrap64 (x7_3 + x8_4)) < (x5_2.length : Int) then (if rdOf false x5_2 (wrap64 (x7_3 + x8_4)) = true then (some (x7_3, x8_4, true)) else (spec_GapClash.l2 kj23 (rd l0 (ji8)) x5_2 x7_3 (wrap64 (x8_4 + 1)))) else (none)) else (none))) = some (r1, r2, r3) := by rw [← hbq32] at H; exact H
               have Nbq32 := Aside0.mk hbq32
               clear hbq32
               replace H := gb H; obtain ⟨rfl, H⟩ | ⟨rfl, H⟩ := H
               ·have H' := Aside0.mk H
                clear H
                obtain ⟨Ao34, co34, eo34⟩ := Kd.R_slice HO_5.out
                subst eo34
                obtain ⟨⟨ad506, e506, hx506_0⟩, p506, q506⟩ := pq (Kd.at_bool (Kd.R_reads' HO_5.out).2.2 x8_4)
                (try rw [← Nbq32.out] at hx506_0)
                cases e506
                go_wp2
                go_roundg kj23
                case measure => have := HJ1.out; have := HK2.out; have := HK3.out; have := HK4.out; have := HJ23.out; omega
                case rel => exact ⟨(wrap64 (x8_4 + 1)), (x498000_4), (x498001_4), rr, H', ⟨by have := HJ1.out; have := HK2.out; have := HK3.out; have := HK4.out; have := HJ23.out; omega⟩, ⟨ro HO_5.out⟩, ⟨bo BK497.out⟩, ⟨bw⟩⟩
               ·obtain ⟨ji35, hji35⟩ : ∃ j_ : Int, (wrap64 (x7_3 + x8_4)) = j_ := ⟨_, rfl⟩
                replace H : (if 0 ≤ (ji35) then (if (ji35) < (x5_2.length : Int) then (if rdOf false x5_2 (ji35) = true then (some (x7_3, x8_4, true)) else (spec_GapClash.l2 kj23 (rd l0 (ji8)) x5_2 x7_3 (wrap64 (x8_4 + 1)))) else (none)) else (none)) = some (r1, r2, r3) := by first | (rw [hji35] at H; exact H) | (simp only [hji35] at H ⊢; exact H)
                have hji35w : (IntKind.i64.wrap (x7_3 + x8_4)) = ji35 := (i64_w _).trans hji35
                replace H := gd H; obtain ⟨c36b0, H⟩ := H
                replace H := gd H; obtain ⟨c37b0, H⟩ := H
                obtain ⟨bq38, hbq38⟩ : ∃ b_ : Bool, b_ = (rdOf false x5_2 (ji35)) := ⟨_, rfl⟩
                replace H : (if bq38 = true then (some (x7_3, x8_4, true)) else (spec_GapClash.l2 kj23 (rd l0 (ji8)) x5_2 x7_3 (wrap64 (x8_4 + 1)))) = some (r1, r2, r3) := by rw [← hbq38] at H; exact H
                have Nbq38 := Aside0.mk hbq38
                clear hbq38
                replace H := gb H; obtain ⟨rfl, H⟩ | ⟨rfl, H⟩ := H
                ·simp only [Option.some.injEq, Prod.mk.injEq] at H
                 obtain ⟨rfl, rfl, rfl⟩ := H
                 obtain ⟨Ao40, co40, eo40⟩ := Kd.R_slice HO_5.out
                 subst eo40
                 obtain ⟨⟨ad506, e506, hx506_0⟩, p506, q506⟩ := pq (Kd.at_bool (Kd.R_reads' HO_5.out).2.2 x8_4)
                 (try rw [← Nbq32.out] at hx506_0)
                 (try rw [← Nbq38.out] at hx506_0)
                 cases e506
                 obtain ⟨⟨ad507, e507, hx507_0⟩, p507, q507⟩ := pq (Kd.at_bool (Kd.R_reads' HO_5.out).2.2 (ji35))
                 (try rw [← Nbq32.out] at hx507_0)
                 (try rw [← Nbq38.out] at hx507_0)
                 obtain rfl : ad506 = ad507 := (by injection e507)
                 have hcz41_0 := bc BK497 0 (.int .i64 x498000_4)
                 have hcz41_1 := bc BK497 1 (.int .i64 x498001_4)
                 have hfz41_0 := blk_frozen BK497.out 0
                 have hfz41_1 := blk_frozen BK497.out 1
                 go_wp2
                 refine bodyPost_ret (results_ct rfl _ _ gb497 33 #[.int .i64 x7_3, .int .i64 x8_4] (0, 0) _ rfl (by (with_reducible repeat (first | refine blk_drewN ?_ _ | refine blk_drew ?_ | refine blk_alloc ?_ _)); refine blk_put (cs := #[.int .i64 x7_3, .int .i64 x498001_4]) ?_ 1 _ rfl; (with_reducible repeat (first | refine blk_drewN ?_ _ | refine blk_drew ?_ | refine blk_alloc ?_ _)); refine blk_put (cs := #[.int .i64 x498000_4, .int .i64 x498001_4]) ?_ 0 _ rfl; (with_reducible repeat (first | refine blk_drewN ?_ _ | refine blk_drew ?_ | refine blk_alloc ?_ _)); exact BK497.out) Try.underlying33 rfl (by kernel_rfl)) rfl ?_
                 exact ⟨by first | rfl | (simp [errW_none, errW_some] <;> rfl) | (simp only [← hji8, ← hji11, ← hji35]; first | rfl | (simp [errW_none, errW_some] <;> rfl)) | (simp [*, errW_none, errW_some] <;> rfl), bw⟩
                ·have H' := Aside0.mk H
                 clear H
                 obtain ⟨Ao42, co42, eo42⟩ := Kd.R_slice HO_5.out
                 subst eo42
                 obtain ⟨⟨ad506, e506, hx506_0⟩, p506, q506⟩ := pq (Kd.at_bool (Kd.R_reads' HO_5.out).2.2 x8_4)
                 (try rw [← Nbq32.out] at hx506_0)
                 (try rw [← Nbq38.out] at hx506_0)
                 cases e506
                 obtain ⟨⟨ad507, e507, hx507_0⟩, p507, q507⟩ := pq (Kd.at_bool (Kd.R_reads' HO_5.out).2.2 (ji35))
                 (try rw [← Nbq32.out] at hx507_0)
                 (try rw [← Nbq38.out] at hx507_0)
                 obtain rfl : ad506 = ad507 := (by injection e507)
                 go_wp2
                 go_roundg kj23
                 case measure => have := HJ1.out; have := HK2.out; have := HK3.out; have := HK4.out; have := HJ23.out; omega
                 case rel => exact ⟨(wrap64 (x8_4 + 1)), (x498000_4), (x498001_4), rr, H', ⟨by have := HJ1.out; have := HK2.out; have := HK3.out; have := HK4.out; have := HJ23.out; omega⟩, ⟨ro HO_5.out⟩, ⟨bo BK497.out⟩, ⟨bw⟩⟩
              ·have H' := Aside0.mk H
               clear H
               go_wp2
               go_roundg kj23
               case measure => have := HJ1.out; have := HK2.out; have := HK3.out; have := HK4.out; have := HJ23.out; omega
               case rel => exact ⟨(wrap64 (x7_3 + 1)), (x498000_4), (x498001_4), rr, H', ⟨by have := HJ1.out; have := HK2.out; have := HK3.out; have := HK4.out; have := HJ23.out; omega⟩, ⟨ro HO_5.out⟩, ⟨bo BK497.out⟩, ⟨bw⟩⟩
         ·simp only [Option.some.injEq, Prod.mk.injEq] at H
          obtain ⟨rfl, rfl, rfl⟩ := H
          have hcz43_0 := bc BK497 0 (.int .i64 x498000_3)
          have hcz43_1 := bc BK497 1 (.int .i64 x498001_3)
          have hfz43_0 := blk_frozen BK497.out 0
          have hfz43_1 := blk_frozen BK497.out 1
          go_wp2
          refine bodyPost_ret (results_ct rfl _ _ gb497 33 #[.int .i64 0, .int .i64 0] (0, 0) _ rfl (by (with_reducible repeat (first | refine blk_drewN ?_ _ | refine blk_drew ?_ | refine blk_alloc ?_ _)); refine blk_put (cs := #[.int .i64 0, .int .i64 x498001_3]) ?_ 1 _ rfl; (with_reducible repeat (first | refine blk_drewN ?_ _ | refine blk_drew ?_ | refine blk_alloc ?_ _)); refine blk_put (cs := #[.int .i64 x498000_3, .int .i64 x498001_3]) ?_ 0 _ rfl; (with_reducible repeat (first | refine blk_drewN ?_ _ | refine blk_drew ?_ | refine blk_alloc ?_ _)); exact BK497.out) Try.underlying33 rfl (by kernel_rfl)) rfl ?_
          exact ⟨by first | rfl | (simp [errW_none, errW_some] <;> rfl) | (simp only [← hji8, ← hji11]; first | rfl | (simp [errW_none, errW_some] <;> rfl)) | (simp [*, errW_none, errW_some] <;> rfl), bw⟩


/-! ### spec_FromGaps: function 155 -/
mutual
def spec_FromGaps.j0 : Nat → List Int → Bool → Option (List Int × Bool)
 | 0, _, _ => none
 | k + 1, x0, x20 => if x20 = true then (some (([] : List Int), false)) else ((some (([] : List Int) : List Int)).bind fun y514 => (if (x0.length : Int) > 0 then (if 0 ≤ (wrap64 ((x0.length : Int) - 1)) then (if (wrap64 ((x0.length : Int) - 1)) < (x0.length : Int) then (spec_FromGaps.j1 k x0 y514 (rd x0 (wrap64 ((x0.length : Int) - 1)))) else (none)) else (none)) else (spec_FromGaps.j1 k x0 y514 0)))
def spec_FromGaps.j1 : Nat → List Int → List Int → Int → Option (List Int × Bool)
 | 0, _, _, _ => none
 | k + 1, x0, x6, x7 => spec_FromGaps.l0 k x0 x6 x7 1
def spec_FromGaps.l0 : Nat → List Int → List Int → Int → Int → Option (List Int × Bool)
 | 0, _, _, _, _ => none
 | k + 1, x0, x6, x7, x8 => if x8 ≤ (wrap64 ((wrap64 (2 * x7)) + 2)) then ((spec_HasNumber.f k x0 x8).bind fun t520 => (if t520 = true then (spec_FromGaps.l0 k x0 x6 x7 (wrap64 (x8 + 1))) else (if (x6.length : Int) > 0 then ((spec_l3Table.f k x6 x8).bind fun t521 => (if 0 ≤ x8 then (if x8 < (t521.length : Int) then (if rdOf false t521 x8 = true then (spec_FromGaps.l0 k x0 x6 x7 (wrap64 (x8 + 1))) else (if x6.length < 17592186044416 then (spec_FromGaps.l0 k x0 (x6 ++ [x8]) x7 (wrap64 (x8 + 1))) else (none))) else (none)) else (none))) else (if x6.length < 17592186044416 then (spec_FromGaps.l0 k x0 (x6 ++ [x8]) x7 (wrap64 (x8 + 1))) else (none))))) else ((spec_IsSemigroup.f k x6).bind fun t519 => (if t519 = true then (some (x6, true)) else (some (([] : List Int), false))))
end
def spec_FromGaps.f (k : Nat) (l0 : List Int) : Option (List Int × Bool) := (spec_GapClash.f k l0).bind fun bt509 => ((spec_l8Gaps.f k l0).bind fun t513 => (if t513 = true then (spec_FromGaps.j0 k l0 bt509.2.2) else (spec_FromGaps.j0 k l0 true)))
set_option maxHeartbeats 8000000 in
set_option maxRecDepth 100000 in
theorem spec_FromGaps.calls (k : Nat) (A0 : Option Addr) (c0 : Nat) (l0 : List Int) (r1 : List Int) (r2 : Bool) (w : World) (hr0 : Kd.C (Kd.int .i64) w A0 l0.length l0) (hc0 : l0.length ≤ c0) (h : spec_FromGaps.f k l0 = some (r1, r2)) :
  Calls Try.prog 155 #[.slice A0 l0.length c0] w fun e w' => ∃ v0_ : Value, e = .returned (.tuple #[.agg #[v0_], .bool r2]) ∧ Kd.R (Kd.int .i64) 3 w' w.heap.size (fun _ => True) v0_ r1 ∧ Below w.heap.size w w' := by
 have hu26 := Try.underlying26
 have hu33 := Try.underlying33
 have HR0 := Aside0.mk hr0
 have HC0 := Aside0.mk hc0
 clear hr0 hc0
 have HB := Aside0.mk (Below.refl w.heap.size w)
 have H : ((spec_GapClash.f k l0).bind fun bt509 => ((spec_l8Gaps.f k l0).bind fun t513 => (if t513 = true then (spec_FromGaps.j0 k l0 bt509.2.2) else (spec_FromGaps.j0 k l0 true)))) = some (r1, r2) := h
 clear h
 replace H := ga H; obtain ⟨⟨t509, t510, t511⟩, A2, H⟩ := H
 replace H : ((spec_l8Gaps.f k l0).bind fun t513 => (if t513 = true then (spec_FromGaps.j0 k l0 t511) else (spec_FromGaps.j0 k l0 true))) = some (r1, r2) := H
 have HC3 := Aside0.mk H
 clear H
 go_enter Try.func155, Try.ntmps155
 go_upto_region 2 with (first | ((with_reducible refine gate_dst (N := 2) rfl ?_); (try (refine gate_guard (by rfl) ?_; dsimp only)); refine bx 2 #[.slice none 0 0] 26 ?_; intro gb508 hg w4 hbox hb; have BK508 := Aside0.mk (hbox); have GW508 := Aside0.mk (gs hg : w.heap.size ≤ gb508); have GE508 := Aside0.mk (gs hg : w.heap.size ≤ gb508); replace HB := Aside0.mk (below_step bw hb); clear hb hbox hg) | ((with_reducible refine gate_callee (f := 222) rfl ?_); refine gl (some 12) Try.func222 #[.slice A0 l0.length c0] ?_; (with_reducible refine (spec_GapClash.calls k _ _ l0 t509 t510 t511 _ ?side1 ?side2 A2.out).mono ?_); (case side1 => exact co (Kd.C_below HR0.out HB.out)); (case side2 => exact HC0.out); rintro e w5 ⟨rfl, hb⟩; refine ⟨_, rfl, ?_⟩; replace BK508 := Aside0.mk (blk_below (g := gb508) (o := .cells #[.slice none 0 0] 26 (0, 0)) (bo BK508.out) hb); replace HB := Aside0.mk (below_step bw hb); clear hb) | ((with_reducible refine gate_dst (N := 4) rfl ?_); (try (refine gate_guard (by rfl) ?_; dsimp only)); refine bx 4 #[.int .i64 0, .int .i64 0] 33 ?_; intro gb512 hg w6 hbox hb; have BK512 := Aside0.mk (hbox); have GW512 := Aside0.mk (gs hg : w.heap.size ≤ gb512); have GE512 := Aside0.mk (gs hg : w.heap.size ≤ gb512); replace HB := Aside0.mk (below_step bw hb); have NB508_512 := Aside0.mk ((by rw [hg]; exact Nat.ne_of_lt (blk_lt (g := gb508) (o := .cells #[.slice none 0 0] 26 (0, 0)) (bo BK508.out)) : gb508 ≠ gb512)); have NB512_508 := Aside0.mk ((by rw [hg]; exact Nat.ne_of_gt (blk_lt (g := gb508) (o := .cells #[.slice none 0 0] 26 (0, 0)) (bo BK508.out)) : gb512 ≠ gb508)); replace BK508 := Aside0.mk (blk_below (g := gb508) (o := .cells #[.slice none 0 0] 26 (0, 0)) (bo BK508.out) hb); clear hb hbox hg; have hnb7 := NB512_508.out; have hnc7 := NB508_512.out; have hcz8_0 := bc BK512 0 (.int .i64 0); have hcz8_1 := bc BK512 1 (.int .i64 0); have hfz8_0 := blk_frozen BK512.out 0; have hfz8_1 := blk_frozen BK512.out 1))
 (try simp only [Act.put, List.setIfInBounds_toArray, List.set_cons_zero, List.set_cons_succ])
 go_cut [20] (fun v20 wc => ∃ (kq : Nat) (x20_2 : Bool), v20 = .bool x20_2 ∧ Aside0 (spec_FromGaps.j0 kq l0 x20_2 = some (r1, r2)) ∧ Aside0 (kq ≤ k) ∧ Aside0 (wc.heap[gb508]? = some (.cells #[(.slice none 0 0)] 26 (0, 0))) ∧ Aside0 (wc.heap[gb512]? = some (.cells #[.int .i64 t509, .int .i64 t510] 33 (0, 0))) ∧ Aside0 (Below w.heap.size w wc))
 case first =>
  have H := HC3.out
  clear HC3
  replace H := ga H; obtain ⟨t513, A9, H⟩ := H
  replace H := gb H; obtain ⟨rfl, H⟩ | ⟨rfl, H⟩ := H
  ·have H' := Aside0.mk H
   clear H
   go_wp2_with (first | ((with_reducible refine gate_callee (f := 223) rfl ?_); refine gl (some 16) Try.func223 #[.slice A0 l0.length c0] ?_; (with_reducible refine (spec_l8Gaps.calls k _ _ l0 true _ ?side1 ?side2 A9.out).mono ?_); (case side1 => exact Kd.C_below HR0.out bw); (case side2 => exact HC0.out); rintro e w' ⟨rfl, ⟨nd, rfl⟩⟩; refine ⟨_, rfl, ?_⟩))
   go_meet
   case rel => exact ⟨_, (t511), rr, H', ⟨om⟩, ⟨by (with_reducible repeat (first | refine blk_drewN ?_ _ | refine blk_drew ?_ | refine blk_alloc ?_ _)); refine blk_far ?_ NB508_512.out _; (with_reducible repeat (first | refine blk_drewN ?_ _ | refine blk_drew ?_ | refine blk_alloc ?_ _)); refine blk_far ?_ NB508_512.out _; (with_reducible repeat (first | refine blk_drewN ?_ _ | refine blk_drew ?_ | refine blk_alloc ?_ _)); exact BK508.out⟩, ⟨by (with_reducible repeat (first | refine blk_drewN ?_ _ | refine blk_drew ?_ | refine blk_alloc ?_ _)); refine blk_put (cs := #[.int .i64 t509, .int .i64 0]) ?_ 1 _ rfl; (with_reducible repeat (first | refine blk_drewN ?_ _ | refine blk_drew ?_ | refine blk_alloc ?_ _)); refine blk_put (cs := #[.int .i64 0, .int .i64 0]) ?_ 0 _ rfl; (with_reducible repeat (first | refine blk_drewN ?_ _ | refine blk_drew ?_ | refine blk_alloc ?_ _)); exact BK512.out⟩, ⟨bw⟩⟩
  ·have H' := Aside0.mk H
   clear H
   go_wp2_with (first | ((with_reducible refine gate_callee (f := 223) rfl ?_); refine gl (some 16) Try.func223 #[.slice A0 l0.length c0] ?_; (with_reducible refine (spec_l8Gaps.calls k _ _ l0 false _ ?side1 ?side2 A9.out).mono ?_); (case side1 => exact Kd.C_below HR0.out bw); (case side2 => exact HC0.out); rintro e w' ⟨rfl, ⟨nd, rfl⟩⟩; refine ⟨_, rfl, ?_⟩))
   go_meet
   case rel => exact ⟨_, (true), rr, H', ⟨om⟩, ⟨by (with_reducible repeat (first | refine blk_drewN ?_ _ | refine blk_drew ?_ | refine blk_alloc ?_ _)); refine blk_far ?_ NB508_512.out _; (with_reducible repeat (first | refine blk_drewN ?_ _ | refine blk_drew ?_ | refine blk_alloc ?_ _)); refine blk_far ?_ NB508_512.out _; (with_reducible repeat (first | refine blk_drewN ?_ _ | refine blk_drew ?_ | refine blk_alloc ?_ _)); exact BK508.out⟩, ⟨by (with_reducible repeat (first | refine blk_drewN ?_ _ | refine blk_drew ?_ | refine blk_alloc ?_ _)); refine blk_put (cs := #[.int .i64 t509, .int .i64 0]) ?_ 1 _ rfl; (with_reducible repeat (first | refine blk_drewN ?_ _ | refine blk_drew ?_ | refine blk_alloc ?_ _)); refine blk_put (cs := #[.int .i64 0, .int .i64 0]) ?_ 0 _ rfl; (with_reducible repeat (first | refine blk_drewN ?_ _ | refine blk_drew ?_ | refine blk_alloc ?_ _)); exact BK512.out⟩, ⟨bw⟩⟩
 case rest =>
  clear HC3
  try clear hcz8_0; try clear hcz8_1; try clear hfz8_0; try clear hfz8_1
  obtain ⟨kq, x20_2, rfl, HA, HJ2, BK508, BK512, HB⟩ := hcut
  cases kq with
  | zero => exact absurd HA.out (by simp [spec_FromGaps.j0])
  | succ kj2 =>
   have H := HA.out
   clear HA
   simp only [spec_FromGaps.j0] at H
   replace H := gb H; obtain ⟨rfl, H⟩ | ⟨rfl, H⟩ := H
   ·simp only [Option.some.injEq, Prod.mk.injEq] at H
    obtain ⟨rfl, rfl⟩ := H
    have hnb12 := NB508_512.out
    have hnc12 := NB512_508.out
    have hcz13_0 := bc BK508 0 (.slice none 0 0)
    have hfz13_0 := blk_frozen BK508.out 0
    go_wp2
    refine bodyPost_ret (results_ct rfl _ _ gb508 26 #[.slice none 0 0] (0, 0) _ rfl (by (with_reducible repeat (first | refine blk_drewN ?_ _ | refine blk_drew ?_ | refine blk_alloc ?_ _)); refine blk_put (cs := #[.slice none 0 0]) ?_ 0 _ rfl; (with_reducible repeat (first | refine blk_drewN ?_ _ | refine blk_drew ?_ | refine blk_alloc ?_ _)); exact BK508.out) Try.underlying26 rfl (by kernel_rfl)) rfl ?_
    exact ⟨_, re, by first | exact Kd.R_nil _ _ _ _ _ | exact Kd.N_nil _ _ _ _ _ | exact Kd.V_nil _ _ _ _ _ | exact Kd.Q_nil _ _ _ _ _ | exact Kd.S_nil _ _ _ _ _, bw⟩
   ·obtain ⟨y514, hy514⟩ : ∃ y_ : List Int, y_ = (([] : List Int)) := ⟨_, rfl⟩
    replace H : (if (l0.length : Int) > 0 then (if 0 ≤ (wrap64 ((l0.length : Int) - 1)) then (if (wrap64 ((l0.length : Int) - 1)) < (l0.length : Int) then (spec_FromGaps.j1 kj2 l0 y514 (rd l0 (wrap64 ((l0.length : Int) - 1)))) else (none)) else (none)) else (spec_FromGaps.j1 kj2 l0 y514 0)) = some (r1, r2) := by first | (rw [hy514]; with_reducible exact H) | (have H2_ := (Option.bind_some _ _).symm.trans H; rw [hy514]; with_reducible exact H2_) | (have H2_ := (Option.bind_some _ _).symm.trans H; with_reducible exact H2_) | with_reducible exact H | (rw [hy514]; exact H) | exact H
    have Ny514 := Aside0.mk hy514
    clear hy514
    have HC14 := Aside0.mk H
    clear H
    go_upto_if 25 with (first | ((with_reducible refine gate_dst (N := 22) rfl ?_); (try (refine gate_guard (by rfl) ?_; dsimp only)); refine Kd.R_lit (Kd.int .i64) _ 3 ?hg (N := 22) ?hd (xs := ([] : List Int)) (inner := []) (ok := fun _ => True) (okp := fun _ => True) ?hr ?hp (fun _ hk => hk) trivial (Below.refl _ _) (Nat.le_refl _) (by simp) ?_; (case hd => rfl); (case hg => rfl); (case hr => first | (go_simp; done) | (go_simp; rfl)); (case hp => exact (Reps.none _ _)); intro v515 w15 ho16 hb hg_ hnew_; clear hg_ hnew_; (first | rw [← Ny514.out] at ho16 | (simp only [Int.reduceToNat] at ho16; rw [← Ny514.out] at ho16)); have HO516 := Aside0.mk (Kd.R_lower ho16 (below_size bw)); replace BK508 := Aside0.mk (blk_below (g := gb508) (o := .cells #[.slice none 0 0] 26 (0, 0)) (bo BK508.out) hb); replace BK512 := Aside0.mk (blk_below (g := gb512) (o := .cells #[.int .i64 t509, .int .i64 t510] 33 (0, 0)) (bo BK512.out) hb); replace HB := Aside0.mk (below_step bw hb); clear hb ho16))
    (try simp only [Act.put, List.setIfInBounds_toArray, List.set_cons_zero, List.set_cons_succ])
    go_cut [7] (fun v7 wc => ∃ (kq : Nat) (x7_13 : Int), v7 = .int .i64 x7_13 ∧ Aside0 (spec_FromGaps.j1 kq l0 y514 x7_13 = some (r1, r2)) ∧ Aside0 (kq ≤ kj2) ∧ Aside0 (Kd.R (Kd.int .i64) 3 wc w.heap.size (fun _ => True) v515 y514) ∧ Aside0 (wc.heap[gb508]? = some (.cells #[(.slice none 0 0)] 26 (0, 0))) ∧ Aside0 (wc.heap[gb512]? = some (.cells #[.int .i64 t509, .int .i64 t510] 33 (0, 0))) ∧ Aside0 (Below w.heap.size w wc))
    case first =>
     have H := HC14.out
     clear HC14
     replace H := gj H; obtain ⟨c17, H⟩ | ⟨c17, H⟩ := H
     ·have c17b0 : decide (0 < (l0.length : Int)) = true := decide_eq_true c17
      have c17b1 : decide (0 < l0.length) = true := decide_eq_true (by omega)
      clear c17
      (first | rw [c17b0] | (simp only [i64_w, i32_w]; rw [c17b0]) | skip)
      obtain ⟨ji18, hji18⟩ : ∃ j_ : Int, (wrap64 ((l0.length : Int) - 1)) = j_ := ⟨_, rfl⟩
      replace H : (if 0 ≤ (ji18) then (if (ji18) < (l0.length : Int) then (spec_FromGaps.j1 kj2 l0 y514 (rd l0 (ji18))) else (none)) else (none)) = some (r1, r2) := by first | (rw [hji18] at H; exact H) | (simp only [hji18] at H ⊢; exact H)
      have hji18w : (IntKind.i64.wrap ((l0.length : Int) - 1)) = ji18 := (i64_w _).trans hji18
      replace H := gd H; obtain ⟨c19b0, H⟩ := H
      replace H := gd H; obtain ⟨c20b0, H⟩ := H
      have H' := Aside0.mk H
      clear H
      obtain ⟨⟨ad517, e517, hx517_0⟩, p517, q517⟩ := pq (Kd.at_int HR0.out (ji18))
      cases e517
      replace hx517_0 := (HB.out.cell (World.block_lt_of_cell? w _ hx517_0)).trans hx517_0
      go_wp2
      any_goals (first | (exfalso; have h_ := of_decide_eq_true c17b1; contradiction) | skip)
      go_meet
      case rel => exact ⟨_, (rd l0 (ji18)), (by first | rfl | (simp; done) | (simp only [← hji18] <;> (first | rfl | simp)) | (simp [*]; done)), H', ⟨by have := HJ2.out; first | omega | exact Nat.le_refl _⟩, ⟨ro HO516.out⟩, ⟨bo BK508.out⟩, ⟨bo BK512.out⟩, ⟨bw⟩⟩
     ·have c17b0 : decide (0 < (l0.length : Int)) = false := decide_eq_false c17
      have c17b1 : decide (0 < l0.length) = false := decide_eq_false (by omega)
      clear c17
      (first | rw [c17b0] | (simp only [i64_w, i32_w]; rw [c17b0]) | skip)
      have H' := Aside0.mk H
      clear H
      go_wp2
      any_goals (first | (exfalso; have h_ := of_decide_eq_false c17b1; contradiction) | skip)
      go_meet
      case rel => exact ⟨_, (0), rr, H', ⟨by have := HJ2.out; first | omega | exact Nat.le_refl _⟩, ⟨ro HO516.out⟩, ⟨bo BK508.out⟩, ⟨bo BK512.out⟩, ⟨bw⟩⟩
    case rest =>
     clear HC14
     try clear c17; try clear c17b0; try clear c17b1; try clear c19b0; try clear c20b0; try clear hcz13_0; try clear hcz8_0; try clear hcz8_1; try clear hfz13_0; try clear hfz8_0; try clear hfz8_1; try clear hx517_0; try clear p517; try clear q517
     obtain ⟨kq, x7_13, rfl, HA, HJ13, HO_6, BK508, BK512, HB⟩ := hcut
     cases kq with
     | zero => exact absurd HA.out (by simp [spec_FromGaps.j1])
     | succ kj13 =>
      have H := HA.out
      clear HA
      simp only [spec_FromGaps.j1] at H
      have H' := Aside0.mk H
      clear H
      go_wp2
      go_loopg [6, 8] kj13 (fun kq v6 v8 w' => ∃ (x6_3 : List Int) (x8_3 : Int), v8 = .int .i64 x8_3 ∧ Aside0 (spec_FromGaps.l0 kq l0 x6_3 x7_13 x8_3 = some (r1, r2)) ∧ Aside0 (kq ≤ kj13) ∧ Aside0 (Kd.R (Kd.int .i64) 3 w' w.heap.size (fun _ => True) v6 x6_3) ∧ Aside0 (w'.heap[gb508]? = some (.cells #[(.slice none 0 0)] 26 (0, 0))) ∧ Aside0 (w'.heap[gb512]? = some (.cells #[.int .i64 t509, .int .i64 t510] 33 (0, 0))) ∧ Aside0 (Below w.heap.size w w'))
      case atStart => exact ⟨(y514), (1), rr, H', ⟨Nat.le_refl _⟩, ⟨ro HO_6.out⟩, ⟨bo BK508.out⟩, ⟨bo BK512.out⟩, ⟨bw⟩⟩
      case round =>
       clear H'
       try clear c17; try clear c17b0; try clear c17b1; try clear c19b0; try clear c20b0; try clear hcz13_0; try clear hcz8_0; try clear hcz8_1; try clear hfz13_0; try clear hfz8_0; try clear hfz8_1; try clear hx517_0; try clear p517; try clear q517
       obtain ⟨x6_3, x8_3, rfl, HA, HK3, HO_6, BK508, BK512, HB⟩ := hrel
       cases gk with
       | zero => exact absurd HA.out (by simp [spec_FromGaps.l0])
       | succ k3 =>
        have H := HA.out
        clear HA
        simp only [spec_FromGaps.l0] at H
        replace H := gi H; obtain ⟨c21b0, H⟩ | ⟨c21b0, H⟩ := H
        ·replace H := ga H; obtain ⟨t520, A22, H⟩ := H
         replace H := gb H; obtain ⟨rfl, H⟩ | ⟨rfl, H⟩ := H
         ·have H' := Aside0.mk H
          clear H
          go_wp2_with (first | ((with_reducible refine gate_callee (f := 117) rfl ?_); refine gl (some 41) Try.func117 #[.slice A0 l0.length c0, .int .i64 x8_3] ?_; (with_reducible refine (spec_HasNumber.calls k3 _ _ l0 x8_3 true _ ?side1 ?side2 A22.out).mono ?_); (case side1 => exact co (Kd.C_below HR0.out HB.out)); (case side2 => exact HC0.out); rintro e w' ⟨rfl, ⟨nd, rfl⟩⟩; refine ⟨_, rfl, ?_⟩))
          go_roundg k3
          case measure => have := HJ2.out; have := HJ13.out; have := HK3.out; omega
          case rel => exact ⟨(x6_3), (wrap64 (x8_3 + 1)), rr, H', ⟨by have := HJ2.out; have := HJ13.out; have := HK3.out; omega⟩, ⟨ro HO_6.out⟩, ⟨bo BK508.out⟩, ⟨bo BK512.out⟩, ⟨bw⟩⟩
         ·replace H := gj H; obtain ⟨c24, H⟩ | ⟨c24, H⟩ := H
          ·have c24b0 : decide (0 < (x6_3.length : Int)) = true := decide_eq_true c24
           have c24b1 : decide (0 < x6_3.length) = true := decide_eq_true (by omega)
           clear c24
           replace H := ga H; obtain ⟨t521, A25, H⟩ := H
           replace H := gd H; obtain ⟨c26b0, H⟩ := H
           replace H := gd H; obtain ⟨c27b0, H⟩ := H
           obtain ⟨bq28, hbq28⟩ : ∃ b_ : Bool, b_ = (rdOf false t521 x8_3) := ⟨_, rfl⟩
           replace H : (if bq28 = true then (spec_FromGaps.l0 k3 l0 x6_3 x7_13 (wrap64 (x8_3 + 1))) else (if x6_3.length < 17592186044416 then (spec_FromGaps.l0 k3 l0 (x6_3 ++ [x8_3]) x7_13 (wrap64 (x8_3 + 1))) else (none))) = some (r1, r2) := by rw [← hbq28] at H; exact H
           have Nbq28 := Aside0.mk hbq28
           clear hbq28
           replace H := gb H; obtain ⟨rfl, H⟩ | ⟨rfl, H⟩ := H
           ·have H' := Aside0.mk H
            clear H
            go_wp2_with (first | ((with_reducible refine gate_callee (f := 117) rfl ?_); refine gl (some 41) Try.func117 #[.slice A0 l0.length c0, .int .i64 x8_3] ?_; (with_reducible refine (spec_HasNumber.calls k3 _ _ l0 x8_3 false _ ?side1 ?side2 A22.out).mono ?_); (case side1 => exact co (Kd.C_below HR0.out HB.out)); (case side2 => exact HC0.out); rintro e w' ⟨rfl, ⟨nd, rfl⟩⟩; refine ⟨_, rfl, ?_⟩; obtain ⟨Ao30, co30, eo30⟩ := Kd.R_slice HO_6.out; subst eo30) | (go_at_call 215; (with_reducible refine (spec_l3Table.calls k3 _ _ x6_3 x8_3 t521 _ ?side1 ?side2 A25.out).mono ?_); (case side1 => exact co (Kd.R_reads' HO_6.out).2.2); (case side2 => exact (Kd.R_reads' HO_6.out).2.1); rintro e w31 ⟨v522, rfl, ho0, hb⟩; replace HO_6 := Aside0.mk (Kd.R_below (ro HO_6.out) hb); have HO523 := Aside0.mk (Kd.R_lower ho0 (below_size bw)); replace BK508 := Aside0.mk (blk_below (g := gb508) (o := .cells #[.slice none 0 0] 26 (0, 0)) (bo BK508.out) hb); replace BK512 := Aside0.mk (blk_below (g := gb512) (o := .cells #[.int .i64 t509, .int .i64 t510] 33 (0, 0)) (bo BK512.out) hb); replace HB := Aside0.mk (below_step bw hb); clear hb ho0; obtain ⟨Ao32, co32, eo32⟩ := Kd.R_slice HO523.out; subst eo32; have p524 : 0 ≤ (x8_3 : Int) := of_decide_eq_true (by first | (with_reducible assumption) | assumption); have q524 : x8_3 < (t521.length : Int) := of_decide_eq_true (by first | (with_reducible assumption) | assumption); obtain ⟨ad524, e524, hx524_0⟩ := Kd.at_bool (Kd.R_reads' HO523.out).2.2 x8_3 p524 q524; (try rw [← Nbq28.out] at hx524_0); cases e524; replace p524 := eq_true p524; replace q524 := eq_true q524))
            go_roundg k3
            case measure => have := HJ2.out; have := HJ13.out; have := HK3.out; omega
            case rel => exact ⟨(x6_3), (wrap64 (x8_3 + 1)), rr, H', ⟨by have := HJ2.out; have := HJ13.out; have := HK3.out; omega⟩, ⟨ro HO_6.out⟩, ⟨bo BK508.out⟩, ⟨bo BK512.out⟩, ⟨bw⟩⟩
           ·by_cases c33 : x6_3.length < 17592186044416
            rotate_left
            ·rw [if_neg c33] at H
             exact absurd H (by simp)
            rw [if_pos c33] at H
            have LMc33 := Aside0.mk c33
            clear c33
            obtain ⟨y525, hy525⟩ : ∃ y_ : List Int, y_ = (x6_3 ++ [x8_3]) := ⟨_, rfl⟩
            replace H : (spec_FromGaps.l0 k3 l0 y525 x7_13 (wrap64 (x8_3 + 1))) = some (r1, r2) := by first | (rw [hy525]; with_reducible exact H) | (have H2_ := (Option.bind_some _ _).symm.trans H; rw [hy525]; with_reducible exact H2_) | (have H2_ := (Option.bind_some _ _).symm.trans H; with_reducible exact H2_) | with_reducible exact H | (rw [hy525]; exact H) | exact H
            have Ny525 := Aside0.mk hy525
            clear hy525
            have H' := Aside0.mk H
            clear H
            go_wp2_with (first | ((with_reducible refine gate_callee (f := 117) rfl ?_); refine gl (some 41) Try.func117 #[.slice A0 l0.length c0, .int .i64 x8_3] ?_; (with_reducible refine (spec_HasNumber.calls k3 _ _ l0 x8_3 false _ ?side1 ?side2 A22.out).mono ?_); (case side1 => exact co (Kd.C_below HR0.out HB.out)); (case side2 => exact HC0.out); rintro e w' ⟨rfl, ⟨nd, rfl⟩⟩; refine ⟨_, rfl, ?_⟩; obtain ⟨Ao34, co34, eo34⟩ := Kd.R_slice HO_6.out; subst eo34) | (go_at_call 215; (with_reducible refine (spec_l3Table.calls k3 _ _ x6_3 x8_3 t521 _ ?side1 ?side2 A25.out).mono ?_); (case side1 => exact co (Kd.R_reads' HO_6.out).2.2); (case side2 => exact (Kd.R_reads' HO_6.out).2.1); rintro e w35 ⟨v522, rfl, ho0, hb⟩; replace HO_6 := Aside0.mk (Kd.R_below (ro HO_6.out) hb); have HO523 := Aside0.mk (Kd.R_lower ho0 (below_size bw)); replace BK508 := Aside0.mk (blk_below (g := gb508) (o := .cells #[.slice none 0 0] 26 (0, 0)) (bo BK508.out) hb); replace BK512 := Aside0.mk (blk_below (g := gb512) (o := .cells #[.int .i64 t509, .int .i64 t510] 33 (0, 0)) (bo BK512.out) hb); replace HB := Aside0.mk (below_step bw hb); clear hb ho0; obtain ⟨Ao36, co36, eo36⟩ := Kd.R_slice HO523.out; subst eo36; have p524 : 0 ≤ (x8_3 : Int) := of_decide_eq_true (by first | (with_reducible assumption) | assumption); have q524 : x8_3 < (t521.length : Int) := of_decide_eq_true (by first | (with_reducible assumption) | assumption); obtain ⟨ad524, e524, hx524_0⟩ := Kd.at_bool (Kd.R_reads' HO523.out).2.2 x8_3 p524 q524; (try rw [← Nbq28.out] at hx524_0); cases e524; replace p524 := eq_true p524; replace q524 := eq_true q524) | ((with_reducible refine gate_builtin (b := .append) (xs := #[.tmp 55, .tmp 57]) rfl ?_); (try (refine gate_guard (by rfl) ?_; dsimp only)); at_builtin; refine Kd.R_append (Kd.int .i64) (w0 := w) w.heap.size rfl (.tmp 55) (.tmp 57) 24 3 (.int .i64 0) 8 rfl Try.underlying24 info3 rfl (by decide) (by omega) (.slice Ao34 x6_3.length co34) x6_3 x8_3 [.int .i64 x8_3] (fun _ => True) (fun _ => False) rfl rfl ?aP (fun _ hk => hk.elim) ?aF ?aO ?aB ?aS ?aL ?_; (case aP => exact rfl); (case aB => exact bw); (case aF => exact (fun _ _ => trivial)); (case aO => exact (ro HO_6.out)); (case aS => exact (below_size bw)); (case aL => have := LMc33.out; omega); intro v526 w37 ho hb hg hat; rw [← Ny525.out] at ho; replace BK508 := Aside0.mk (blk_grown (g := gb508) (o := .cells #[.slice none 0 0] 26 (0, 0)) (bo BK508.out) hg (Kd.R_ne HO_6.out BK508.out (by decide))); replace BK512 := Aside0.mk (blk_grown (g := gb512) (o := .cells #[.int .i64 t509, .int .i64 t510] 33 (0, 0)) (bo BK512.out) hg (Kd.R_ne HO_6.out BK512.out (by decide))); replace HO523 := Aside0.mk (Kd.R_over' (ro HO523.out) (Kd.R_typed (ro HO_6.out)) (by decide) hg); replace HB := Aside0.mk (hb); have HO527 := Aside0.mk (ho); clear HO_6 ho hb hg hat))
            go_roundg k3
            case measure => have := HJ2.out; have := HJ13.out; have := HK3.out; omega
            case rel => exact ⟨(y525), (wrap64 (x8_3 + 1)), rr, H', ⟨by have := HJ2.out; have := HJ13.out; have := HK3.out; omega⟩, ⟨ro HO527.out⟩, ⟨bo BK508.out⟩, ⟨bo BK512.out⟩, ⟨bw⟩⟩
          ·have c24b0 : decide (0 < (x6_3.length : Int)) = false := decide_eq_false c24
           have c24b1 : decide (0 < x6_3.length) = false := decide_eq_false (by omega)
           clear c24
           by_cases c38 : x6_3.length < 17592186044416
           rotate_left
           ·rw [if_neg c38] at H
            exact absurd H (by simp)
           rw [if_pos c38] at H
           have LMc38 := Aside0.mk c38
           clear c38
           obtain ⟨y528, hy528⟩ : ∃ y_ : List Int, y_ = (x6_3 ++ [x8_3]) := ⟨_, rfl⟩
           replace H : (spec_FromGaps.l0 k3 l0 y528 x7_13 (wrap64 (x8_3 + 1))) = some (r1, r2) := by first | (rw [hy528]; with_reducible exact H) | (have H2_ := (Option.bind_some _ _).symm.trans H; rw [hy528]; with_reducible exact H2_) | (have H2_ := (Option.bind_some _ _).symm.trans H; with_reducible exact H2_) | with_reducible exact H | (rw [hy528]; exact H) | exact H
           have Ny528 := Aside0.mk hy528
           clear hy528
           have H' := Aside0.mk H
           clear H
           go_wp2_with (first | ((with_reducible refine gate_callee (f := 117) rfl ?_); refine gl (some 41) Try.func117 #[.slice A0 l0.length c0, .int .i64 x8_3] ?_; (with_reducible refine (spec_HasNumber.calls k3 _ _ l0 x8_3 false _ ?side1 ?side2 A22.out).mono ?_); (case side1 => exact co (Kd.C_below HR0.out HB.out)); (case side2 => exact HC0.out); rintro e w' ⟨rfl, ⟨nd, rfl⟩⟩; refine ⟨_, rfl, ?_⟩; obtain ⟨Ao39, co39, eo39⟩ := Kd.R_slice HO_6.out; subst eo39) | ((with_reducible refine gate_builtin (b := .append) (xs := #[.tmp 55, .tmp 57]) rfl ?_); (try (refine gate_guard (by rfl) ?_; dsimp only)); at_builtin; refine Kd.R_append (Kd.int .i64) (w0 := w) w.heap.size rfl (.tmp 55) (.tmp 57) 24 3 (.int .i64 0) 8 rfl Try.underlying24 info3 rfl (by decide) (by omega) (.slice Ao39 x6_3.length co39) x6_3 x8_3 [.int .i64 x8_3] (fun _ => True) (fun _ => False) rfl rfl ?aP (fun _ hk => hk.elim) ?aF ?aO ?aB ?aS ?aL ?_; (case aP => exact rfl); (case aB => exact bw); (case aF => exact (fun _ _ => trivial)); (case aO => exact (ro HO_6.out)); (case aS => exact (below_size bw)); (case aL => have := LMc38.out; omega); intro v529 w40 ho hb hg hat; rw [← Ny528.out] at ho; replace BK508 := Aside0.mk (blk_grown (g := gb508) (o := .cells #[.slice none 0 0] 26 (0, 0)) (bo BK508.out) hg (Kd.R_ne HO_6.out BK508.out (by decide))); replace BK512 := Aside0.mk (blk_grown (g := gb512) (o := .cells #[.int .i64 t509, .int .i64 t510] 33 (0, 0)) (bo BK512.out) hg (Kd.R_ne HO_6.out BK512.out (by decide))); replace HB := Aside0.mk (hb); have HO530 := Aside0.mk (ho); clear HO_6 ho hb hg hat))
           go_roundg k3
           case measure => have := HJ2.out; have := HJ13.out; have := HK3.out; omega
           case rel => exact ⟨(y528), (wrap64 (x8_3 + 1)), rr, H', ⟨by have := HJ2.out; have := HJ13.out; have := HK3.out; omega⟩, ⟨ro HO530.out⟩, ⟨bo BK508.out⟩, ⟨bo BK512.out⟩, ⟨bw⟩⟩
        ·replace H := ga H; obtain ⟨t519, A41, H⟩ := H
         replace H := gb H; obtain ⟨rfl, H⟩ | ⟨rfl, H⟩ := H
         ·simp only [Option.some.injEq, Prod.mk.injEq] at H
          obtain ⟨rfl, rfl⟩ := H
          obtain ⟨Ao43, co43, eo43⟩ := Kd.R_slice HO_6.out
          subst eo43
          go_wp2_with (first | ((with_reducible refine gate_dst (N := 9) rfl ?_); (try (refine gate_guard (by rfl) ?_; dsimp only)); refine bx 9 #[.slice none 0 0] 26 ?_; intro gb518 hg w44 hbox hb; replace HO_6 := Aside0.mk (Kd.R_below (ro HO_6.out) hb); have BK518 := Aside0.mk (hbox); have GW518 := Aside0.mk (gs hg : w.heap.size ≤ gb518); have GE518 := Aside0.mk (gs hg : w.heap.size ≤ gb518); replace HB := Aside0.mk (below_step bw hb); have NB508_518 := Aside0.mk ((by rw [hg]; exact Nat.ne_of_lt (blk_lt (g := gb508) (o := .cells #[.slice none 0 0] 26 (0, 0)) (bo BK508.out)) : gb508 ≠ gb518)); have NB518_508 := Aside0.mk ((by rw [hg]; exact Nat.ne_of_gt (blk_lt (g := gb508) (o := .cells #[.slice none 0 0] 26 (0, 0)) (bo BK508.out)) : gb518 ≠ gb508)); replace BK508 := Aside0.mk (blk_below (g := gb508) (o := .cells #[.slice none 0 0] 26 (0, 0)) (bo BK508.out) hb); have NB512_518 := Aside0.mk ((by rw [hg]; exact Nat.ne_of_lt (blk_lt (g := gb512) (o := .cells #[.int .i64 t509, .int .i64 t510] 33 (0, 0)) (bo BK512.out)) : gb512 ≠ gb518)); have NB518_512 := Aside0.mk ((by rw [hg]; exact Nat.ne_of_gt (blk_lt (g := gb512) (o := .cells #[.int .i64 t509, .int .i64 t510] 33 (0, 0)) (bo BK512.out)) : gb518 ≠ gb512)); replace BK512 := Aside0.mk (blk_below (g := gb512) (o := .cells #[.int .i64 t509, .int .i64 t510] 33 (0, 0)) (bo BK512.out) hb); clear hb hbox hg; have hnb45 := NB518_508.out; have hnc45 := NB508_518.out; have hnb46 := NB518_512.out; have hnc46 := NB512_518.out; have hcz47_0 := bc BK518 0 (.slice none 0 0); have hfz47_0 := blk_frozen BK518.out 0) | ((with_reducible refine gate_callee (f := 23) rfl ?_); refine gl (some 62) Try.func23 #[.agg #[.slice Ao43 x6_3.length co43]] ?_; (with_reducible refine (spec_IsSemigroup.calls k3 _ _ x6_3 true _ ?side1 ?side2 A41.out).mono ?_); (case side1 => refine (Kd.R_reads' (e := 3) (base := w.heap.size) (ok := fun k_ => True) (n := x6_3.length) (c := co43) ?_).2.2; exact (by (with_reducible repeat (first | apply Kd.R_alloc | apply Kd.R_drewN | apply Kd.R_drew)); exact (Kd.R_mono (Kd.R_far (p := ⟨gb518, 0, none⟩) (Kd.R_types HO_6.out BK518.out (by decide)) (fun _ hk => hk.2) (.slice Ao43 x6_3.length co43)) (fun _ h_ => h_.1)))); (case side2 => exact (Kd.R_reads' HO_6.out).2.1); rintro e w48 ⟨rfl, hb⟩; refine ⟨_, rfl, ?_⟩; replace HO_6 := Aside0.mk (Kd.R_below (by (with_reducible repeat (first | apply Kd.R_alloc | apply Kd.R_drewN | apply Kd.R_drew)); exact (Kd.R_mono (Kd.R_far (p := ⟨gb518, 0, none⟩) (Kd.R_types HO_6.out BK518.out (by decide)) (fun _ hk => hk.2) (.slice Ao43 x6_3.length co43)) (fun _ h_ => h_.1))) hb); replace BK508 := Aside0.mk (blk_below (g := gb508) (o := .cells #[.slice none 0 0] 26 (0, 0)) (by (with_reducible repeat (first | refine blk_drewN ?_ _ | refine blk_drew ?_ | refine blk_alloc ?_ _)); refine blk_far ?_ NB508_518.out _; (with_reducible repeat (first | refine blk_drewN ?_ _ | refine blk_drew ?_ | refine blk_alloc ?_ _)); exact BK508.out) hb); replace BK512 := Aside0.mk (blk_below (g := gb512) (o := .cells #[.int .i64 t509, .int .i64 t510] 33 (0, 0)) (by (with_reducible repeat (first | refine blk_drewN ?_ _ | refine blk_drew ?_ | refine blk_alloc ?_ _)); refine blk_far ?_ NB512_518.out _; (with_reducible repeat (first | refine blk_drewN ?_ _ | refine blk_drew ?_ | refine blk_alloc ?_ _)); exact BK512.out) hb); replace BK518 := Aside0.mk (blk_below (g := gb518) (o := .cells #[.slice Ao43 x6_3.length co43] 26 (0, 0)) (by (with_reducible repeat (first | refine blk_drewN ?_ _ | refine blk_drew ?_ | refine blk_alloc ?_ _)); refine blk_put (cs := #[.slice none 0 0]) ?_ 0 _ rfl; (with_reducible repeat (first | refine blk_drewN ?_ _ | refine blk_drew ?_ | refine blk_alloc ?_ _)); exact BK518.out) hb); replace HB := Aside0.mk (below_step bw hb); clear hb; have hcz49_0 := bc BK518 0 (.slice Ao43 x6_3.length co43); have hfz49_0 := blk_frozen BK518.out 0; have hnb50 := NB508_512.out; have hnc50 := NB512_508.out; have hcz51_0 := bc BK508 0 (.slice none 0 0); have hfz51_0 := blk_frozen BK508.out 0))
          refine bodyPost_ret (results_ct rfl _ _ gb508 26 #[.slice Ao43 x6_3.length co43] (0, 0) _ rfl (by (with_reducible repeat (first | refine blk_drewN ?_ _ | refine blk_drew ?_ | refine blk_alloc ?_ _)); refine blk_put (cs := #[.slice none 0 0]) ?_ 0 _ rfl; (with_reducible repeat (first | refine blk_drewN ?_ _ | refine blk_drew ?_ | refine blk_alloc ?_ _)); exact BK508.out) Try.underlying26 rfl (by kernel_rfl)) rfl ?_
          exact ⟨_, re, by (with_reducible repeat (first | apply Kd.R_alloc | apply Kd.R_drewN | apply Kd.R_drew)); exact Kd.R_mono (Kd.R_far (p := ⟨gb508, 0, none⟩) (Kd.R_types HO_6.out BK508.out (by decide)) (fun _ hk => hk.2) (.slice Ao43 x6_3.length co43)) (fun _ hk => trivial), bw⟩
         ·simp only [Option.some.injEq, Prod.mk.injEq] at H
          obtain ⟨rfl, rfl⟩ := H
          obtain ⟨Ao52, co52, eo52⟩ := Kd.R_slice HO_6.out
          subst eo52
          go_wp2_with (first | ((with_reducible refine gate_dst (N := 9) rfl ?_); (try (refine gate_guard (by rfl) ?_; dsimp only)); refine bx 9 #[.slice none 0 0] 26 ?_; intro gb518 hg w53 hbox hb; replace HO_6 := Aside0.mk (Kd.R_below (ro HO_6.out) hb); have BK518 := Aside0.mk (hbox); have GW518 := Aside0.mk (gs hg : w.heap.size ≤ gb518); have GE518 := Aside0.mk (gs hg : w.heap.size ≤ gb518); replace HB := Aside0.mk (below_step bw hb); have NB508_518 := Aside0.mk ((by rw [hg]; exact Nat.ne_of_lt (blk_lt (g := gb508) (o := .cells #[.slice none 0 0] 26 (0, 0)) (bo BK508.out)) : gb508 ≠ gb518)); have NB518_508 := Aside0.mk ((by rw [hg]; exact Nat.ne_of_gt (blk_lt (g := gb508) (o := .cells #[.slice none 0 0] 26 (0, 0)) (bo BK508.out)) : gb518 ≠ gb508)); replace BK508 := Aside0.mk (blk_below (g := gb508) (o := .cells #[.slice none 0 0] 26 (0, 0)) (bo BK508.out) hb); have NB512_518 := Aside0.mk ((by rw [hg]; exact Nat.ne_of_lt (blk_lt (g := gb512) (o := .cells #[.int .i64 t509, .int .i64 t510] 33 (0, 0)) (bo BK512.out)) : gb512 ≠ gb518)); have NB518_512 := Aside0.mk ((by rw [hg]; exact Nat.ne_of_gt (blk_lt (g := gb512) (o := .cells #[.int .i64 t509, .int .i64 t510] 33 (0, 0)) (bo BK512.out)) : gb518 ≠ gb512)); replace BK512 := Aside0.mk (blk_below (g := gb512) (o := .cells #[.int .i64 t509, .int .i64 t510] 33 (0, 0)) (bo BK512.out) hb); clear hb hbox hg; have hnb54 := NB518_508.out; have hnc54 := NB508_518.out; have hnb55 := NB518_512.out; have hnc55 := NB512_518.out; have hcz56_0 := bc BK518 0 (.slice none 0 0); have hfz56_0 := blk_frozen BK518.out 0) | ((with_reducible refine gate_callee (f := 23) rfl ?_); refine gl (some 62) Try.func23 #[.agg #[.slice Ao52 x6_3.length co52]] ?_; (with_reducible refine (spec_IsSemigroup.calls k3 _ _ x6_3 false _ ?side1 ?side2 A41.out).mono ?_); (case side1 => refine (Kd.R_reads' (e := 3) (base := w.heap.size) (ok := fun k_ => True) (n := x6_3.length) (c := co52) ?_).2.2; exact (by (with_reducible repeat (first | apply Kd.R_alloc | apply Kd.R_drewN | apply Kd.R_drew)); exact (Kd.R_mono (Kd.R_far (p := ⟨gb518, 0, none⟩) (Kd.R_types HO_6.out BK518.out (by decide)) (fun _ hk => hk.2) (.slice Ao52 x6_3.length co52)) (fun _ h_ => h_.1)))); (case side2 => exact (Kd.R_reads' HO_6.out).2.1); rintro e w57 ⟨rfl, hb⟩; refine ⟨_, rfl, ?_⟩; replace HO_6 := Aside0.mk (Kd.R_below (by (with_reducible repeat (first | apply Kd.R_alloc | apply Kd.R_drewN | apply Kd.R_drew)); exact (Kd.R_mono (Kd.R_far (p := ⟨gb518, 0, none⟩) (Kd.R_types HO_6.out BK518.out (by decide)) (fun _ hk => hk.2) (.slice Ao52 x6_3.length co52)) (fun _ h_ => h_.1))) hb); replace BK508 := Aside0.mk (blk_below (g := gb508) (o := .cells #[.slice none 0 0] 26 (0, 0)) (by (with_reducible repeat (first | refine blk_drewN ?_ _ | refine blk_drew ?_ | refine blk_alloc ?_ _)); refine blk_far ?_ NB508_518.out _; (with_reducible repeat (first | refine blk_drewN ?_ _ | refine blk_drew ?_ | refine blk_alloc ?_ _)); exact BK508.out) hb); replace BK512 := Aside0.mk (blk_below (g := gb512) (o := .cells #[.int .i64 t509, .int .i64 t510] 33 (0, 0)) (by (with_reducible repeat (first | refine blk_drewN ?_ _ | refine blk_drew ?_ | refine blk_alloc ?_ _)); refine blk_far ?_ NB512_518.out _; (with_reducible repeat (first | refine blk_drewN ?_ _ | refine blk_drew ?_ | refine blk_alloc ?_ _)); exact BK512.out) hb); replace BK518 := Aside0.mk (blk_below (g := gb518) (o := .cells #[.slice Ao52 x6_3.length co52] 26 (0, 0)) (by (with_reducible repeat (first | refine blk_drewN ?_ _ | refine blk_drew ?_ | refine blk_alloc ?_ _)); refine blk_put (cs := #[.slice none 0 0]) ?_ 0 _ rfl; (with_reducible repeat (first | refine blk_drewN ?_ _ | refine blk_drew ?_ | refine blk_alloc ?_ _)); exact BK518.out) hb); replace HB := Aside0.mk (below_step bw hb); clear hb; have hnb58 := NB508_512.out; have hnc58 := NB512_508.out; have hcz59_0 := bc BK508 0 (.slice none 0 0); have hfz59_0 := blk_frozen BK508.out 0))
          refine bodyPost_ret (results_ct rfl _ _ gb508 26 #[.slice none 0 0] (0, 0) _ rfl (by (with_reducible repeat (first | refine blk_drewN ?_ _ | refine blk_drew ?_ | refine blk_alloc ?_ _)); refine blk_put (cs := #[.slice none 0 0]) ?_ 0 _ rfl; (with_reducible repeat (first | refine blk_drewN ?_ _ | refine blk_drew ?_ | refine blk_alloc ?_ _)); exact BK508.out) Try.underlying26 rfl (by kernel_rfl)) rfl ?_
          exact ⟨_, re, by first | exact Kd.R_nil _ _ _ _ _ | exact Kd.N_nil _ _ _ _ _ | exact Kd.V_nil _ _ _ _ _ | exact Kd.Q_nil _ _ _ _ _ | exact Kd.S_nil _ _ _ _ _, bw⟩

end Go.Proofs.Ytkfplkdchkmgbaa.C
