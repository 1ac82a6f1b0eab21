/- Contracts of functions of the program: spec_EqualSemigroup, slices_Equal_int_int, impl_gapList, impl_GapClash, impl_FromGaps. -/
import Derived.Test.YtkfplkdchkmgbaaC0
import Derived.Test.YtkfplkdchkmgbaaC1
import Derived.Test.YtkfplkdchkmgbaaC7
import Derived.Test.YtkfplkdchkmgbaaC8
import Derived.Test.YtkfplkdchkmgbaaC9
import Derived.Test.YtkfplkdchkmgbaaC13
namespace Go.Proofs.Ytkfplkdchkmgbaa.C
open Go.RowKit Go.Proofs.YtkfplkdchkmgbaaW.PrintWords Go.Proofs.YtkfplkdchkmgbaaW.PrintLast Go.Proofs.YtkfplkdchkmgbaaW.PrintMore
attribute [local go_sem] max2_int min2_int max_two min_two max_three min_three max_four min_four
set_option linter.unusedVariables false
set_option linter.unusedSimpArgs false

/-! ### spec_EqualSemigroup: function 22 -/
def spec_EqualSemigroup.f (k : Nat) (l0_0 : List Int) (l1_0 : List Int) : Option (Bool) := (spec_l2Same.f k l0_0 l1_0).bind fun t107 => (some t107)
set_option maxHeartbeats 8000000 in
set_option maxRecDepth 100000 in
theorem spec_EqualSemigroup.calls (k : Nat) (A0_0 : Option Addr) (c0_0 : Nat) (l0_0 : List Int) (A1_0 : Option Addr) (c1_0 : Nat) (l1_0 : List Int) (r : Bool) (w : World) (hr0_0 : Kd.C (Kd.int .i64) w A0_0 l0_0.length l0_0) (hc0_0 : l0_0.length ≤ c0_0) (hr1_0 : Kd.C (Kd.int .i64) w A1_0 l1_0.length l1_0) (hc1_0 : l1_0.length ≤ c1_0) (h : spec_EqualSemigroup.f k l0_0 l1_0 = some r) :
  Calls Try.prog 22 #[.agg #[.slice A0_0 l0_0.length c0_0], .agg #[.slice A1_0 l1_0.length c1_0]] w fun e w' => e = .returned (.bool r) ∧ Below w.heap.size w w' := by
 have hu26 := Try.underlying26
 have HR0_0 := Aside0.mk hr0_0
 have HC0_0 := Aside0.mk hc0_0
 clear hr0_0 hc0_0
 have HR1_0 := Aside0.mk hr1_0
 have HC1_0 := Aside0.mk hc1_0
 clear hr1_0 hc1_0
 have HB := Aside0.mk (Below.refl w.heap.size w)
 have H : ((spec_l2Same.f k l0_0 l1_0).bind fun t107 => (some t107)) = some r := h
 clear h
 replace H := ga H; obtain ⟨t107, A3, H⟩ := H
 obtain rfl := Option.some.inj H
 go_enter Try.func22, Try.ntmps22
 go_wp2_with (first | ((with_reducible refine gate_dst (N := 2) rfl ?_); refine bx 2 #[.slice A0_0 l0_0.length c0_0] 26 ?_; intro gb105 hg w4 hbox hb; have BK105 := Aside0.mk (hbox); have GW105 := Aside0.mk (gs hg : w.heap.size ≤ gb105); have GE105 := Aside0.mk (gs hg : w.heap.size ≤ gb105); replace HB := Aside0.mk (below_step bw hb); clear hb hbox hg) | ((with_reducible refine gate_dst (N := 3) rfl ?_); refine bx 3 #[.slice A1_0 l1_0.length c1_0] 26 ?_; intro gb106 hg w5 hbox hb; have BK106 := Aside0.mk (hbox); have GW106 := Aside0.mk (gs hg : w.heap.size ≤ gb106); have GE106 := Aside0.mk (gs hg : w.heap.size ≤ gb106); replace HB := Aside0.mk (below_step bw hb); have NB105_106 := Aside0.mk ((by rw [hg]; exact Nat.ne_of_lt (blk_lt (g := gb105) (o := .cells #[.slice A0_0 l0_0.length c0_0] 26 (0, 0)) (bo BK105.out)) : gb105 ≠ gb106)); have NB106_105 := Aside0.mk ((by rw [hg]; exact Nat.ne_of_gt (blk_lt (g := gb105) (o := .cells #[.slice A0_0 l0_0.length c0_0] 26 (0, 0)) (bo BK105.out)) : gb106 ≠ gb105)); replace BK105 := Aside0.mk (blk_below (g := gb105) (o := .cells #[.slice A0_0 l0_0.length c0_0] 26 (0, 0)) (bo BK105.out) hb); clear hb hbox hg; have hnb6 := NB105_106.out; have hnc6 := NB106_105.out; have hcz7_0 := bc BK105 0 (.slice A0_0 l0_0.length c0_0); have hfz7_0 := blk_frozen BK105.out 0; have hcz8_0 := bc BK106 0 (.slice A1_0 l1_0.length c1_0); have hfz8_0 := blk_frozen BK106.out 0) | ((with_reducible refine gate_callee (f := 143) rfl ?_); refine gl (some 9) Try.func143 #[.slice A0_0 l0_0.length c0_0, .slice A1_0 l1_0.length c1_0] ?_; (with_reducible refine (spec_l2Same.calls k _ _ l0_0 _ _ l1_0 t107 _ ?side1 ?side2 ?side3 ?side4 A3.out).mono ?_); (case side1 => exact co (Kd.C_below HR0_0.out HB.out)); (case side2 => exact HC0_0.out); (case side3 => exact co (Kd.C_below HR1_0.out HB.out)); (case side4 => exact HC1_0.out); rintro e w' ⟨rfl, ⟨nd, rfl⟩⟩; refine ⟨_, rfl, ?_⟩))
 go_ret
 exact ⟨re, bw⟩


/-! ### slices_Equal_int_int: function 137 -/
def slices_Equal_int_int.l0 : Nat → List Int → List Int → Int → Int → Option (Bool)
 | 0, _, _, _, _ => none
 | k + 1, x0, x1, x12, x13 => if x13 < x12 then (if 0 ≤ x13 then (if x13 < (x0.length : Int) then (if x13 < (x1.length : Int) then (if (rd x0 x13) = (rd x1 x13) then (slices_Equal_int_int.l0 k x0 x1 x12 (wrap64 (x13 + 1))) else (some false)) else (none)) else (none)) else (none)) else (some true)
def slices_Equal_int_int.f (k : Nat) (l0 : List Int) (l1 : List Int) : Option (Bool) := if (l0.length : Int) = (l1.length : Int) then (slices_Equal_int_int.l0 k l0 l1 (l0.length : Int) 0) else (some false)
set_option maxHeartbeats 8000000 in
set_option maxRecDepth 100000 in
theorem slices_Equal_int_int.calls (k : Nat) (A0 : Option Addr) (c0 : Nat) (l0 : List Int) (A1 : Option Addr) (c1 : Nat) (l1 : List Int) (r : Bool) (w : World) (hr0 : Kd.C (Kd.int .i64) w A0 l0.length l0) (hc0 : l0.length ≤ c0) (hr1 : Kd.C (Kd.int .i64) w A1 l1.length l1) (hc1 : l1.length ≤ c1) (h : slices_Equal_int_int.f k l0 l1 = some r) :
  Calls Try.prog 137 #[.slice A0 l0.length c0, .slice A1 l1.length c1] w fun e w' => e = .returned (.bool r) ∧ Drawn0 w w' := by
 have HR0 := Aside0.mk hr0
 have HC0 := Aside0.mk hc0
 clear hr0 hc0
 have HR1 := Aside0.mk hr1
 have HC1 := Aside0.mk hc1
 clear hr1 hc1
 have H : (if (l0.length : Int) = (l1.length : Int) then (slices_Equal_int_int.l0 k l0 l1 (l0.length : Int) 0) else (some false)) = some r := h
 clear h
 by_cases c3 : (l0.length : Int) = (l1.length : Int)
 ·rw [if_pos c3] at H
  have c3b0 : ((l0.length : Int) == (l1.length : Int)) = true := beq_iff_eq.mpr c3
  have c3b1 : ((l0.length : Int) != (l1.length : Int)) = false := bne_eq_false_iff_eq.mpr c3
  have c3b2 : (l0.length == l1.length) = true := by first | simpa using c3 | (simp at c3 ⊢; omega)
  clear c3
  have H' := Aside0.mk H
  clear H
  go_enter Try.func137, Try.ntmps137
  go_wp2
  repeat (go_quiet (fail); try go_wp2)
  go_loopg [13] k (fun kq v13 w' => ∃ (x13_1 : Int), v13 = .int .i64 x13_1 ∧ Aside0 (slices_Equal_int_int.l0 kq l0 l1 (l0.length : Int) x13_1 = some r) ∧ Aside0 (kq ≤ k) ∧ Drawn0 w w')
  case atStart => exact ⟨(0), rr, H', ⟨Nat.le_refl _⟩, dw⟩
  case round =>
   clear H'
   try clear c1; try clear c3; try clear c3b0; try clear c3b1; try clear c3b2
   obtain ⟨x13_1, rfl, HA, HK1, ⟨m1, rfl⟩⟩ := hrel
   cases gk with
   | zero => exact absurd HA.out (by simp [slices_Equal_int_int.l0])
   | succ k1 =>
    have H := HA.out
    clear HA
    simp only [slices_Equal_int_int.l0] at H
    replace H := gi H; obtain ⟨c4b0, H⟩ | ⟨c4b0, H⟩ := H
    ·replace H := gd H; obtain ⟨c5b0, H⟩ := H
     replace H := gd H; obtain ⟨c6b0, H⟩ := H
     replace H := gd H; obtain ⟨c7b0, H⟩ := H
     by_cases c8 : (rd l0 x13_1) = (rd l1 x13_1)
     ·rw [if_pos c8] at H
      have c8b0 : ((rd l0 x13_1) == (rd l1 x13_1)) = true := beq_iff_eq.mpr c8
      have c8b1 : ((rd l0 x13_1) != (rd l1 x13_1)) = false := bne_eq_false_iff_eq.mpr c8
      clear c8
      have H' := Aside0.mk H
      clear H
      obtain ⟨⟨ad434, e434, hx434_0⟩, p434, q434⟩ := pq (Kd.at_int HR0.out x13_1)
      cases e434
      obtain ⟨⟨ad435, e435, hx435_0⟩, p435, q435⟩ := pq (Kd.at_int HR1.out x13_1)
      cases e435
      go_wp2
      repeat (go_quiet (fail); try go_wp2)
      go_roundg k1
      case measure => have := HK1.out; omega
      case rel => exact ⟨(wrap64 (x13_1 + 1)), rr, H', ⟨by have := HK1.out; omega⟩, dw⟩
     ·rw [if_neg c8] at H
      have c8b0 : ((rd l0 x13_1) == (rd l1 x13_1)) = false := beq_eq_false_iff_ne.mpr c8
      have c8b1 : ((rd l0 x13_1) != (rd l1 x13_1)) = true := bne_iff_ne.mpr c8
      obtain rfl := Option.some.inj H
      obtain ⟨⟨ad434, e434, hx434_0⟩, p434, q434⟩ := pq (Kd.at_int HR0.out x13_1)
      cases e434
      obtain ⟨⟨ad435, e435, hx435_0⟩, p435, q435⟩ := pq (Kd.at_int HR1.out x13_1)
      cases e435
      go_wp2
      repeat (go_quiet (fail); try go_wp2)
      go_ret
      exact ⟨rr, dw⟩
    ·obtain rfl := Option.some.inj H
     go_wp2
     repeat (go_quiet (fail); try go_wp2)
     go_ret
     exact ⟨rr, dw⟩
 ·rw [if_neg c3] at H
  have c3b0 : ((l0.length : Int) == (l1.length : Int)) = false := beq_eq_false_iff_ne.mpr c3
  have c3b1 : ((l0.length : Int) != (l1.length : Int)) = true := bne_iff_ne.mpr c3
  have c3b2 : (l0.length == l1.length) = false := by first | simpa using c3 | (simp at c3 ⊢; omega)
  obtain rfl := Option.some.inj H
  go_enter Try.func137, Try.ntmps137
  go_wp2
  repeat (go_quiet (fail); try go_wp2)
  go_ret
  exact ⟨rr, dw⟩


/-! ### impl_gapList: function 221 -/
def impl_gapList.f (k : Nat) (l0 : List Int) : Option (Bool) := (impl_IsAscending.f k l0).bind fun t436 => (if t436 = true then ((impl_allWithin.f k l0 1 199).bind fun t437 => (some t437)) else (some false))
set_option maxHeartbeats 8000000 in
set_option maxRecDepth 100000 in
theorem impl_gapList.calls (k : Nat) (A0 : Option Addr) (c0 : Nat) (l0 : List Int) (r : Bool) (w : World) (hr0 : Kd.C (Kd.int .i64) w A0 l0.length l0) (hc0 : l0.length ≤ c0) (h : impl_gapList.f k l0 = some r) :
  Calls Try.prog 221 #[.slice A0 l0.length c0] w fun e w' => e = .returned (.bool r) ∧ Drawn0 w w' := by
 have HR0 := Aside0.mk hr0
 have HC0 := Aside0.mk hc0
 clear hr0 hc0
 have H : ((impl_IsAscending.f k l0).bind fun t436 => (if t436 = true then ((impl_allWithin.f k l0 1 199).bind fun t437 => (some t437)) else (some false))) = some r := h
 clear h
 replace H := ga H; obtain ⟨t436, A2, H⟩ := H
 replace H := gb H; obtain ⟨rfl, H⟩ | ⟨rfl, H⟩ := H
 ·replace H := ga H; obtain ⟨t437, A4, H⟩ := H
  obtain rfl := Option.some.inj H
  go_enter Try.func221, Try.ntmps221
  go_wp2_with (first | ((with_reducible refine gate_callee (f := 216) rfl ?_); refine gl (some 4) Try.func216 #[.slice A0 l0.length c0] ?_; (with_reducible refine (impl_IsAscending.calls k _ _ l0 true _ ?side1 ?side2 A2.out).mono ?_); (case side1 => exact co HR0.out); (case side2 => exact HC0.out); rintro e w' ⟨rfl, ⟨nd, rfl⟩⟩; refine ⟨_, rfl, ?_⟩) | (go_at_call 135; (with_reducible refine (impl_allWithin.calls k _ _ l0 1 199 t437 _ ?side1 ?side2 A4.out).mono ?_); (case side1 => exact co HR0.out); (case side2 => exact HC0.out); rintro e w' ⟨rfl, ⟨nd, rfl⟩⟩))
  go_ret
  exact ⟨rr, dw⟩
 ·obtain rfl := Option.some.inj H
  go_enter Try.func221, Try.ntmps221
  go_wp2_with (first | ((with_reducible refine gate_callee (f := 216) rfl ?_); refine gl (some 4) Try.func216 #[.slice A0 l0.length c0] ?_; (with_reducible refine (impl_IsAscending.calls k _ _ l0 false _ ?side1 ?side2 A2.out).mono ?_); (case side1 => exact co HR0.out); (case side2 => exact HC0.out); rintro e w' ⟨rfl, ⟨nd, rfl⟩⟩; refine ⟨_, rfl, ?_⟩))
  go_ret
  exact ⟨rr, dw⟩


/-! ### impl_GapClash: function 220 -/
mutual
def impl_GapClash.j0 : Nat → List Int → Bool → Option (Int × Int × Bool)
 | 0, _, _ => none
 | k + 1, x0, x17 => if x17 = true then (some (0, 0, false)) else (if 201 ≤ 281474976710656 then (impl_GapClash.l0 k x0 (List.replicate 201 false) x0 (x0.length : Int) 0) else (none))
def impl_GapClash.l0 : Nat → List Int → List Bool → List Int → Int → Int → Option (Int × Int × Bool)
 | 0, _, _, _, _, _ => none
 | k + 1, x0, x4, x20, x21, x22 => if x22 < x21 then (if 0 ≤ x22 then (if x22 < (x20.length : Int) then (if 0 ≤ (rd x20 x22) then (if (rd x20 x22) < (x4.length : Int) then (impl_GapClash.l0 k x0 (x4.set ((rd x20 x22) : Int).toNat true) x20 x21 (wrap64 (x22 + 1))) else (none)) else (none)) else (none)) else (none)) else (if 0 ≤ (wrap64 ((x0.length : Int) - 1)) then (if (wrap64 ((x0.length : Int) - 1)) < (x0.length : Int) then (impl_GapClash.l1 k x4 (rd x0 (wrap64 ((x0.length : Int) - 1))) 1) else (none)) else (none))
def impl_GapClash.l1 : Nat → List Bool → Int → Int → Option (Int × Int × Bool)
 | 0, _, _, _ => none
 | k + 1, x4, x7, x8 => if x8 ≤ x7 then (impl_GapClash.l2 k x4 x7 x8 x8) else (some (0, 0, false))
def impl_GapClash.l2 : Nat → List Bool → Int → Int → Int → Option (Int × Int × Bool)
 | 0, _, _, _, _ => none
 | k + 1, x4, x7, x8, x9 => if (wrap64 (x8 + x9)) ≤ x7 then (if 0 ≤ x8 then (if x8 < (x4.length : Int) then (if rdOf false x4 x8 = true then (impl_GapClash.l2 k x4 x7 x8 (wrap64 (x9 + 1))) else (if 0 ≤ x9 then (if x9 < (x4.length : Int) then (if rdOf false x4 x9 = true then (impl_GapClash.l2 k x4 x7 x8 (wrap64 (x9 + 1))) else (if 0 ≤ (wrap64 (x8 + x9)) then (if (wrap64 (x8 + x9)) < (x4.length : Int) then (if rdOf false x4 (wrap64 (x8 + x9)) = true then (some (x8, x9, true)) else (impl_GapClash.l2 k x4 x7 x8 (wrap64 (x9 + 1)))) else (none)) else (none))) else (none)) else (none))) else (none)) else (none)) else (impl_GapClash.l1 k x4 x7 (wrap64 (x8 + 1)))
end
def impl_GapClash.f (k : Nat) (l0 : List Int) : Option (Int × Int × Bool) := (impl_gapList.f k l0).bind fun t439 => (if t439 = true then (impl_GapClash.j0 k l0 ((l0.length : Int) == 0)) else (impl_GapClash.j0 k l0 true))
set_option maxHeartbeats 8000000 in
set_option maxRecDepth 100000 in
theorem impl_GapClash.calls (k : Nat) (A0 : Option Addr) (c0 : Nat) (l0 : List Int) (r1 : Int) (r2 : Int) (r3 : Bool) (w : World) (hr0 : Kd.C (Kd.int .i64) w A0 l0.length l0) (hc0 : l0.length ≤ c0) (h : impl_GapClash.f k l0 = some (r1, r2, r3)) :
  Calls Try.prog 220 #[.slice A0 l0.length c0] w fun e w' => e = .returned (.tuple #[.agg #[.int .i64 r1, .int .i64 r2], .bool r3]) ∧ Below w.heap.size w w' := by
 have hu33 := Try.underlying33
 have HR0 := Aside0.mk hr0
 have HC0 := Aside0.mk hc0
 clear hr0 hc0
 have HB := Aside0.mk (Below.refl w.heap.size w)
 have H : ((impl_gapList.f k l0).bind fun t439 => (if t439 = true then (impl_GapClash.j0 k l0 ((l0.length : Int) == 0)) else (impl_GapClash.j0 k l0 true))) = some (r1, r2, r3) := h
 clear h
 have HC2 := Aside0.mk H
 clear H
 go_enter Try.func220, Try.ntmps220
 go_upto_region 1 with (first | ((with_reducible refine gate_dst (N := 2) rfl ?_); (try (refine gate_guard (by rfl) ?_; dsimp only)); refine bx 2 #[.int .i64 0, .int .i64 0] 33 ?_; intro gb438 hg w3 hbox hb; have BK438 := Aside0.mk (hbox); have GW438 := Aside0.mk (gs hg : w.heap.size ≤ gb438); have GE438 := Aside0.mk (gs hg : w.heap.size ≤ gb438); replace HB := Aside0.mk (below_step bw hb); clear hb hbox hg))
 (try simp only [Act.put, List.setIfInBounds_toArray, List.set_cons_zero, List.set_cons_succ])
 go_cut [17] (fun v17 wc => ∃ (kq : Nat) (x17_1 : Bool), v17 = .bool x17_1 ∧ Aside0 (impl_GapClash.j0 kq l0 x17_1 = some (r1, r2, r3)) ∧ Aside0 (kq ≤ k) ∧ Aside0 (wc.heap[gb438]? = some (.cells #[.int .i64 0, .int .i64 0] 33 (0, 0))) ∧ Aside0 (Below w.heap.size w wc))
 case first =>
  have H := HC2.out
  clear HC2
  replace H := ga H; obtain ⟨t439, A4, H⟩ := H
  replace H := gb H; obtain ⟨rfl, H⟩ | ⟨rfl, H⟩ := H
  ·have H' := Aside0.mk H
   clear H
   go_wp2_with (first | ((with_reducible refine gate_callee (f := 221) rfl ?_); refine gl (some 11) Try.func221 #[.slice A0 l0.length c0] ?_; (with_reducible refine (impl_gapList.calls k _ _ l0 true _ ?side1 ?side2 A4.out).mono ?_); (case side1 => exact co (Kd.C_below HR0.out HB.out)); (case side2 => exact HC0.out); rintro e w' ⟨rfl, ⟨nd, rfl⟩⟩; refine ⟨_, rfl, ?_⟩))
   go_meet
   case rel => exact ⟨_, (((l0.length : Int) == 0)), rr, H', ⟨om⟩, ⟨bo BK438.out⟩, ⟨bw⟩⟩
  ·have H' := Aside0.mk H
   clear H
   go_wp2_with (first | ((with_reducible refine gate_callee (f := 221) rfl ?_); refine gl (some 11) Try.func221 #[.slice A0 l0.length c0] ?_; (with_reducible refine (impl_gapList.calls k _ _ l0 false _ ?side1 ?side2 A4.out).mono ?_); (case side1 => exact co (Kd.C_below HR0.out HB.out)); (case side2 => exact HC0.out); rintro e w' ⟨rfl, ⟨nd, rfl⟩⟩; refine ⟨_, rfl, ?_⟩))
   go_meet
   case rel => exact ⟨_, (true), rr, H', ⟨om⟩, ⟨bo BK438.out⟩, ⟨bw⟩⟩
 case rest =>
  clear HC2
  obtain ⟨kq, x17_1, rfl, HA, HJ1, BK438, HB⟩ := hcut
  cases kq with
  | zero => exact absurd HA.out (by simp [impl_GapClash.j0])
  | succ kj1 =>
   have H := HA.out
   clear HA
   simp only [impl_GapClash.j0] at H
   replace H := gb H; obtain ⟨rfl, H⟩ | ⟨rfl, H⟩ := H
   ·simp only [Option.some.injEq, Prod.mk.injEq] at H
    obtain ⟨rfl, rfl, rfl⟩ := H
    have hcz7_0 := bc BK438 0 (.int .i64 0)
    have hcz7_1 := bc BK438 1 (.int .i64 0)
    have hfz7_0 := blk_frozen BK438.out 0
    have hfz7_1 := blk_frozen BK438.out 1
    go_wp2
    refine bodyPost_ret (results_ct rfl _ _ gb438 33 #[.int .i64 0, .int .i64 0] (0, 0) _ rfl (by (with_reducible repeat (first | refine blk_drewN ?_ _ | refine blk_drew ?_ | refine blk_alloc ?_ _)); refine blk_put (cs := #[.int .i64 0, .int .i64 0]) ?_ 1 _ rfl; (with_reducible repeat (first | refine blk_drewN ?_ _ | refine blk_drew ?_ | refine blk_alloc ?_ _)); refine blk_put (cs := #[.int .i64 0, .int .i64 0]) ?_ 0 _ rfl; (with_reducible repeat (first | refine blk_drewN ?_ _ | refine blk_drew ?_ | refine blk_alloc ?_ _)); exact BK438.out) Try.underlying33 rfl (by kernel_rfl)) rfl ?_
    exact ⟨re, bw⟩
   ·replace H := gp H; obtain ⟨c8, H⟩ := H
    have c8b0 := eq_true c8
    have c8b1 : decide (201 ≤ 281474976710656) = true := decide_eq_true c8
    clear c8
    obtain ⟨y440, hy440⟩ : ∃ y_ : List Bool, y_ = (List.replicate 201 false) := ⟨_, rfl⟩
    replace H : (impl_GapClash.l0 kj1 l0 y440 l0 (l0.length : Int) 0) = some (r1, r2, r3) := by first | (rw [hy440]; with_reducible exact H) | (have H2_ := (Option.bind_some _ _).symm.trans H; rw [hy440]; with_reducible exact H2_) | (have H2_ := (Option.bind_some _ _).symm.trans H; with_reducible exact H2_) | with_reducible exact H | (rw [hy440]; exact H) | exact H
    have Ny440 := Aside0.mk hy440
    clear hy440
    have H' := Aside0.mk H
    clear H
    go_wp2_with (first | ((with_reducible refine gate_dst (N := 19) rfl ?_); (try (refine gate_guard (by rfl) ?_; dsimp only)); refine Kd.R_make Kd.bool _ 4 rfl (N := 19) rfl 109 _ _ rfl 201 rfl rfl Try.underlying109 (.bool false) 1 info4 rfl (by decide) (by omega) false (ok := fun _ => True) (okp := fun _ => True) rfl (fun _ hk => hk) trivial (by omega) (by omega) (Below.refl _ _) (Nat.le_refl _) ?_; intro v441 w9 ho10 hb hg_ hnew_; clear hg_ hnew_; (first | rw [← Ny440.out] at ho10 | (simp only [Int.reduceToNat] at ho10; rw [← Ny440.out] at ho10)); have HO442 := Aside0.mk (Kd.R_lower ho10 (below_size bw)); replace BK438 := Aside0.mk (blk_below (g := gb438) (o := .cells #[.int .i64 0, .int .i64 0] 33 (0, 0)) (bo BK438.out) hb); replace HB := Aside0.mk (below_step bw hb); clear hb ho10))
    go_loopg [22] kj1 (fun kq v22 w' => ∃ (x4_2 : List Bool) (x22_2 : Int), v22 = .int .i64 x22_2 ∧ Aside0 (impl_GapClash.l0 kq l0 x4_2 l0 (l0.length : Int) x22_2 = some (r1, r2, r3)) ∧ Aside0 (kq ≤ kj1) ∧ Aside0 (Kd.R Kd.bool 4 w' w.heap.size (fun _ => True) v441 x4_2) ∧ Aside0 (w'.heap[gb438]? = some (.cells #[.int .i64 0, .int .i64 0] 33 (0, 0))) ∧ Aside0 (Below w.heap.size w w'))
    case atStart => exact ⟨(y440), (0), rr, H', ⟨Nat.le_refl _⟩, ⟨ro HO442.out⟩, ⟨bo BK438.out⟩, ⟨bw⟩⟩
    case round =>
     clear H'
     try clear c8; try clear c8b0; try clear c8b1; try clear hcz7_0; try clear hcz7_1; try clear hfz7_0; try clear hfz7_1
     obtain ⟨x4_2, x22_2, rfl, HA, HK2, HO_4, BK438, HB⟩ := hrel
     cases gk with
     | zero => exact absurd HA.out (by simp [impl_GapClash.l0])
     | succ k2 =>
      have H := HA.out
      clear HA
      simp only [impl_GapClash.l0] at H
      replace H := gi H; obtain ⟨c11b0, H⟩ | ⟨c11b0, H⟩ := H
      ·replace H := gd H; obtain ⟨c12b0, H⟩ := H
       replace H := gd H; obtain ⟨c13b0, H⟩ := H
       replace H := gd H; obtain ⟨c14b0, H⟩ := H
       replace H := gd H; obtain ⟨c15b0, H⟩ := H
       obtain ⟨y444, hy444⟩ : ∃ y_ : List Bool, y_ = (x4_2.set ((rd l0 x22_2) : Int).toNat true) := ⟨_, rfl⟩
       replace H : (impl_GapClash.l0 k2 l0 y444 l0 (l0.length : Int) (wrap64 (x22_2 + 1))) = some (r1, r2, r3) := by first | (rw [hy444]; with_reducible exact H) | (have H2_ := (Option.bind_some _ _).symm.trans H; rw [hy444]; with_reducible exact H2_) | (have H2_ := (Option.bind_some _ _).symm.trans H; with_reducible exact H2_) | with_reducible exact H | (rw [hy444]; exact H) | exact H
       have Ny444 := Aside0.mk hy444
       clear hy444
       have H' := Aside0.mk H
       clear H
       obtain ⟨⟨ad443, e443, hx443_0⟩, p443, q443⟩ := pq (Kd.at_int HR0.out x22_2)
       cases e443
       replace hx443_0 := (HB.out.cell (World.block_lt_of_cell? w _ hx443_0)).trans hx443_0
       have p16 : 0 ≤ ((rd l0 x22_2) : Int) := of_decide_eq_true (by first | (with_reducible assumption) | assumption)
       have q16 : ((rd l0 x22_2) : Int) < ((x4_2.length : Int) : Int) := of_decide_eq_true (by first | (with_reducible assumption) | assumption)
       obtain ⟨go16, co16, eo16, gb16, gl16, cl16, HG16⟩ := Kd.R_form HO_4.out (by omega)
       (first | cases eo16 | (injection eo16 with ea_ en_ ec_; (first | subst ea_ | (injection ea_ with ea_; subst ea_)); subst ec_; clear en_))
       have GB16 := Aside0.mk gb16
       have GG16 := Aside0.mk HG16
       clear gb16 gl16 HG16
       obtain ⟨hx16_0, hf16_0⟩ := Kd.R_celln false HO_4.out ((rd l0 x22_2) : Int) p16 q16
       replace p16 := eq_true p16
       replace q16 := eq_true q16
       have HP17 := Kd.R_putg HO_4.out ((rd l0 x22_2) : Int) true
       go_wp2_with (first | ((with_reducible refine gate_store (t := 4) (p := 28) rfl ?_); refine store_event (t := 4) (p := 28) (v := ?vo_w18) (w1 := (wr.setCell ⟨go16, ((rd l0 x22_2) : Int).toNat, none⟩ (.bool true))) ?hg ?ho ?hn ?hr ?_; (case ho => rfl); (case hg => rfl); (case hn => rfl); (case hr => first | (go_simp; done) | (go_simp; rfl)); intro w18 hw; have hg : wr.grownBy w18 (some go16) := (by rw [hw]; exact HP17.2); have hp_ : Kd.R Kd.bool 4 w18 w.heap.size (fun _ => True) (.slice (some ⟨go16, 0, none⟩) x4_2.length co16) y444 := (by rw [hw, Ny444.out]; exact HP17.1); clear HP17; replace BK438 := Aside0.mk (blk_grown (g := gb438) (o := .cells #[.int .i64 0, .int .i64 0] 33 (0, 0)) (bo BK438.out) hg (Kd.R_ne HO_4.out BK438.out (by decide))); replace HO_4 := Aside0.mk (hp_); replace HB := Aside0.mk ((by rw [hw]; exact below_set (HB.out) GB16.out : Below w.heap.size w w18)); clear hg hw hp_))
       go_roundg k2
       case measure => have := HJ1.out; have := HK2.out; omega
       case rel => exact ⟨(y444), (wrap64 (x22_2 + 1)), rr, H', ⟨by have := HJ1.out; have := HK2.out; omega⟩, ⟨ro HO_4.out⟩, ⟨bo BK438.out⟩, ⟨bw⟩⟩
      ·obtain ⟨ji19, hji19⟩ : ∃ j_ : Int, (wrap64 ((l0.length : Int) - 1)) = j_ := ⟨_, rfl⟩
       replace H : (if 0 ≤ (ji19) then (if (ji19) < (l0.length : Int) then (impl_GapClash.l1 k2 x4_2 (rd l0 (ji19)) 1) else (none)) else (none)) = some (r1, r2, r3) := by first | (rw [hji19] at H; exact H) | (simp only [hji19] at H ⊢; exact H)
       have hji19w : (IntKind.i64.wrap ((l0.length : Int) - 1)) = ji19 := (i64_w _).trans hji19
       replace H := gd H; obtain ⟨c20b0, H⟩ := H
       replace H := gd H; obtain ⟨c21b0, H⟩ := H
       have H' := Aside0.mk H
       clear H
       obtain ⟨⟨ad445, e445, hx445_0⟩, p445, q445⟩ := pq (Kd.at_int HR0.out (ji19))
       cases e445
       replace hx445_0 := (HB.out.cell (World.block_lt_of_cell? w _ hx445_0)).trans hx445_0
       go_wp2
       go_loopg [8] k2 (fun kq v8 w' => ∃ (x8_3 : Int) (x439000_3 : Int) (x439001_3 : Int), v8 = .int .i64 x8_3 ∧ Aside0 (impl_GapClash.l1 kq x4_2 (rd l0 (ji19)) x8_3 = some (r1, r2, r3)) ∧ Aside0 (kq ≤ k2) ∧ Aside0 (Kd.R Kd.bool 4 w' w.heap.size (fun _ => True) v441 x4_2) ∧ Aside0 (w'.heap[gb438]? = some (.cells #[.int .i64 x439000_3, .int .i64 x439001_3] 33 (0, 0))) ∧ Aside0 (Below w.heap.size w w'))
       case atStart => exact ⟨(1), (0), (0), rr, H', ⟨Nat.le_refl _⟩, ⟨ro HO_4.out⟩, ⟨bo BK438.out⟩, ⟨bw⟩⟩
       case round =>
        clear H'
        try clear c8; try clear c8b0; try clear c8b1; try clear c11b0; try clear c12b0; try clear c13b0; try clear c14b0; try clear c15b0; try clear p16; try clear q16; try clear c20b0; try clear c21b0; try clear hcz7_0; try clear hcz7_1; try clear hfz7_0; try clear hfz7_1; try clear hx16_0; try clear hx443_0; try clear hx445_0; try clear p443; try clear p445; try clear q443; try clear q445
        obtain ⟨x8_3, x439000_3, x439001_3, rfl, HA, HK3, HO_4, BK438, HB⟩ := hrel
        cases gk with
        | zero => exact absurd HA.out (by simp [impl_GapClash.l1])
        | succ k3 =>
         have H := HA.out
         clear HA
         simp only [impl_GapClash.l1] at H
         replace H := gi H; obtain ⟨c22b0, H⟩ | ⟨c22b0, H⟩ := H
         ·have H' := Aside0.mk H
          clear H
          go_wp2
          go_loopg [9] k3 (fun kq v9 w' => ∃ (x9_4 : Int) (x439000_4 : Int) (x439001_4 : Int), v9 = .int .i64 x9_4 ∧ Aside0 (impl_GapClash.l2 kq x4_2 (rd l0 (ji19)) x8_3 x9_4 = some (r1, r2, r3)) ∧ Aside0 (kq ≤ k3) ∧ Aside0 (Kd.R Kd.bool 4 w' w.heap.size (fun _ => True) v441 x4_2) ∧ Aside0 (w'.heap[gb438]? = some (.cells #[.int .i64 x439000_4, .int .i64 x439001_4] 33 (0, 0))) ∧ Aside0 (Below w.heap.size w w'))
          case atStart => exact ⟨(x8_3), (x439000_3), (x439001_3), rr, H', ⟨Nat.le_refl _⟩, ⟨ro HO_4.out⟩, ⟨bo BK438.out⟩, ⟨bw⟩⟩
          case round =>
           clear H'
           try clear c8; try clear c8b0; try clear c8b1; try clear c11b0; try clear c12b0; try clear c13b0; try clear c14b0; try clear c15b0; try clear p16; try clear q16; try clear c20b0; try clear c21b0; try clear c22b0; try clear hcz7_0; try clear hcz7_1; try clear hfz7_0; try clear hfz7_1; try clear hx16_0; try clear hx443_0; try clear hx445_0; try clear p443; try clear p445; try clear q443; try clear q445
           obtain ⟨x9_4, x439000_4, x439001_4, rfl, HA, HK4, HO_4, BK438, HB⟩ := hrel
           cases gk with
           | zero => exact absurd HA.out (by simp [impl_GapClash.l2])
           | succ k4 =>
            have H := HA.out
            clear HA
            simp only [impl_GapClash.l2] at H
            replace H := gi H; obtain ⟨c23b0, H⟩ | ⟨c23b0, H⟩ := H
            ·replace H := gd H; obtain ⟨c24b0, H⟩ := H
             replace H := gd H; obtain ⟨c25b0, H⟩ := H
             obtain ⟨bq26, hbq26⟩ : ∃ b_ : Bool, b_ = (rdOf false x4_2 x8_3) := ⟨_, rfl⟩
             replace H : (if bq26 = true then (impl_GapClash.l2 k4 x4_2 (rd l0 (ji19)) x8_3 (wrap64 (x9_4 + 1))) else (if 0 ≤ x9_4 then (if x9_4 < (x4_2.length : Int) then (if rdOf false x4_2 x9_4 = true then (impl_GapClash.l2 k4 x4_2 (rd l0 (ji19)) x8_3 (wrap64 (x9_4 + 1))) else (if 0 ≤ (wrap64 (x8_3 + x9_4)) then (if (wrap64 (x8_3 + x9_4)) < (x4_2.length : Int) then (if rdOf false x4_2 (wrap64 (x8_3 + x9_4)) = true then (some (x8_3, x9_4, true)) else (impl_GapClash.l2 k4 x4_2 (rd l0 (ji19)) x8_3 (wrap64 (x9_4 + 1)))) else (none)) else (none))) else (none)) else (none))) = some (r1, r2, r3) := by rw [← hbq26] at H; exact H
             have Nbq26 := Aside0.mk hbq26
             clear hbq26
             replace H := gb H; obtain ⟨rfl, H⟩ | ⟨rfl, H⟩ := H
             ·have H' := Aside0.mk H
              clear H
              obtain ⟨Ao28, co28, eo28⟩ := Kd.R_slice HO_4.out
              subst eo28
              obtain ⟨⟨ad446, e446, hx446_0⟩, p446, q446⟩ := pq (Kd.at_bool (Kd.R_reads' HO_4.out).2.2 x8_3)
              (try rw [← Nbq26.out] at hx446_0)
              cases e446
              go_wp2
              go_roundg k4
              case measure => have := HJ1.out; have := HK2.out; have := HK3.out; have := HK4.out; omega
              case rel => exact ⟨(wrap64 (x9_4 + 1)), (x439000_4), (x439001_4), rr, H', ⟨by have := HJ1.out; have := HK2.out; have := HK3.out; have := HK4.out; omega⟩, ⟨ro HO_4.out⟩, ⟨bo BK438.out⟩, ⟨bw⟩⟩
             ·replace H := gd H; obtain ⟨c29b0, H⟩ := H
              replace H := gd H; obtain ⟨c30b0, H⟩ := H
              obtain ⟨bq31, hbq31⟩ : ∃ b_ : Bool, b_ = (rdOf false x4_2 x9_4) := ⟨_, rfl⟩
              replace H : (if bq31 = true then (impl_GapClash.l2 k4 x4_2 (rd l0 (ji19)) x8_3 (wrap64 (x9_4 + 1))) else (if 0 ≤ (wrap64 (x8_3 + x9_4)) then (if (wrap64 (x8_3 + x9_4)) < (x4_2.length : Int) then (if rdOf false x4_2 (wrap64 (x8_3 + x9_4)) = true then (some (x8_3, x9_4, true)) else (impl_GapClash.l2 k4 x4_2 (rd l0 (ji19)) x8_3 (wrap64 (x9_4 + 1)))) else (none)) else (none))) = some (r1, r2, r3) := by rw [← hbq31] at H; exact H
              have Nbq31 := Aside0.mk hbq31
              clear hbq31
              replace H := gb H; obtain ⟨rfl, H⟩ | ⟨rfl, H⟩ := H
              ·have H' := Aside0.mk H
               clear H
               obtain ⟨Ao33, co33, eo33⟩ := Kd.R_slice HO_4.out
               subst eo33
               obtain ⟨⟨ad446, e446, hx446_0⟩, p446, q446⟩ := pq (Kd.at_bool (Kd.R_reads' HO_4.out).2.2 x8_3)
               (try rw [← Nbq26.out] at hx446_0)
               (try rw [← Nbq31.out] at hx446_0)
               cases e446
               obtain ⟨⟨ad447, e447, hx447_0⟩, p447, q447⟩ := pq (Kd.at_bool (Kd.R_reads' HO_4.out).2.2 x9_4)
               (try rw [← Nbq26.out] at hx447_0)
               (try rw [← Nbq31.out] at hx447_0)
               obtain rfl : ad446 = ad447 := (by injection e447)
               go_wp2
               go_roundg k4
               case measure => have := HJ1.out; have := HK2.out; have := HK3.out; have := HK4.out; omega
               case rel => exact ⟨(wrap64 (x9_4 + 1)), (x439000_4), (x439001_4), rr, H', ⟨by have := HJ1.out; have := HK2.out; have := HK3.out; have := HK4.out; omega⟩, ⟨ro HO_4.out⟩, ⟨bo BK438.out⟩, ⟨bw⟩⟩
              ·obtain ⟨ji34, hji34⟩ : ∃ j_ : Int, (wrap64 (x8_3 + x9_4)) = j_ := ⟨_, rfl⟩
               replace H : (if 0 ≤ (ji34) then (if (ji34) < (x4_2.length : Int) then (if rdOf false x4_2 (ji34) = true then (some (x8_3, x9_4, true)) else (impl_GapClash.l2 k4 x4_2 (rd l0 (ji19)) x8_3 (wrap64 (x9_4 + 1)))) else (none)) else (none)) = some (r1, r2, r3) := by first | (rw [hji34] at H; exact H) | (simp only [hji34] at H ⊢; exact H)
               (try rw [hji34] at c23b0)
               have hji34w : (IntKind.i64.wrap (x8_3 + x9_4)) = ji34 := (i64_w _).trans hji34
               replace H := gd H; obtain ⟨c35b0, H⟩ := H
               replace H := gd H; obtain ⟨c36b0, H⟩ := H
               obtain ⟨bq37, hbq37⟩ : ∃ b_ : Bool, b_ = (rdOf false x4_2 (ji34)) := ⟨_, rfl⟩
               replace H : (if bq37 = true then (some (x8_3, x9_4, true)) else (impl_GapClash.l2 k4 x4_2 (rd l0 (ji19)) x8_3 (wrap64 (x9_4 + 1)))) = some (r1, r2, r3) := by rw [← hbq37] at H; exact H
               have Nbq37 := Aside0.mk hbq37
               clear hbq37
               replace H := gb H; obtain ⟨rfl, H⟩ | ⟨rfl, H⟩ := H
               ·simp only [Option.some.injEq, Prod.mk.injEq] at H
                obtain ⟨rfl, rfl, rfl⟩ := H
                obtain ⟨Ao39, co39, eo39⟩ := Kd.R_slice HO_4.out
                subst eo39
                obtain ⟨⟨ad446, e446, hx446_0⟩, p446, q446⟩ := pq (Kd.at_bool (Kd.R_reads' HO_4.out).2.2 x8_3)
                (try rw [← Nbq26.out] at hx446_0)
                (try rw [← Nbq31.out] at hx446_0)
                (try rw [← Nbq37.out] at hx446_0)
                cases e446
                obtain ⟨⟨ad447, e447, hx447_0⟩, p447, q447⟩ := pq (Kd.at_bool (Kd.R_reads' HO_4.out).2.2 x9_4)
                (try rw [← Nbq26.out] at hx447_0)
                (try rw [← Nbq31.out] at hx447_0)
                (try rw [← Nbq37.out] at hx447_0)
                obtain rfl : ad446 = ad447 := (by injection e447)
                obtain ⟨⟨ad448, e448, hx448_0⟩, p448, q448⟩ := pq (Kd.at_bool (Kd.R_reads' HO_4.out).2.2 (ji34))
                (try rw [← Nbq26.out] at hx448_0)
                (try rw [← Nbq31.out] at hx448_0)
                (try rw [← Nbq37.out] at hx448_0)
                obtain rfl : ad446 = ad448 := (by injection e448)
                have hcz40_0 := bc BK438 0 (.int .i64 x439000_4)
                have hcz40_1 := bc BK438 1 (.int .i64 x439001_4)
                have hfz40_0 := blk_frozen BK438.out 0
                have hfz40_1 := blk_frozen BK438.out 1
                go_wp2
                refine bodyPost_ret (results_ct rfl _ _ gb438 33 #[.int .i64 x8_3, .int .i64 x9_4] (0, 0) _ rfl (by (with_reducible repeat (first | refine blk_drewN ?_ _ | refine blk_drew ?_ | refine blk_alloc ?_ _)); refine blk_put (cs := #[.int .i64 x8_3, .int .i64 x439001_4]) ?_ 1 _ rfl; (with_reducible repeat (first | refine blk_drewN ?_ _ | refine blk_drew ?_ | refine blk_alloc ?_ _)); refine blk_put (cs := #[.int .i64 x439000_4, .int .i64 x439001_4]) ?_ 0 _ rfl; (with_reducible repeat (first | refine blk_drewN ?_ _ | refine blk_drew ?_ | refine blk_alloc ?_ _)); exact BK438.out) Try.underlying33 rfl (by kernel_rfl)) rfl ?_
                exact ⟨by first | rfl | (simp [errW_none, errW_some] <;> rfl) | (simp only [← hji19, ← hji34]; first | rfl | (simp [errW_none, errW_some] <;> rfl)) | (simp [*, errW_none, errW_some] <;> rfl), bw⟩
               ·have H' := Aside0.mk H
                clear H
                obtain ⟨Ao41, co41, eo41⟩ := Kd.R_slice HO_4.out
                subst eo41
                obtain ⟨⟨ad446, e446, hx446_0⟩, p446, q446⟩ := pq (Kd.at_bool (Kd.R_reads' HO_4.out).2.2 x8_3)
                (try rw [← Nbq26.out] at hx446_0)
                (try rw [← Nbq31.out] at hx446_0)
                (try rw [← Nbq37.out] at hx446_0)
                cases e446
                obtain ⟨⟨ad447, e447, hx447_0⟩, p447, q447⟩ := pq (Kd.at_bool (Kd.R_reads' HO_4.out).2.2 x9_4)
                (try rw [← Nbq26.out] at hx447_0)
                (try rw [← Nbq31.out] at hx447_0)
                (try rw [← Nbq37.out] at hx447_0)
                obtain rfl : ad446 = ad447 := (by injection e447)
                obtain ⟨⟨ad448, e448, hx448_0⟩, p448, q448⟩ := pq (Kd.at_bool (Kd.R_reads' HO_4.out).2.2 (ji34))
                (try rw [← Nbq26.out] at hx448_0)
                (try rw [← Nbq31.out] at hx448_0)
                (try rw [← Nbq37.out] at hx448_0)
                obtain rfl : ad446 = ad448 := (by injection e448)
                go_wp2
                go_roundg k4
                case measure => have := HJ1.out; have := HK2.out; have := HK3.out; have := HK4.out; omega
                case rel => exact ⟨(wrap64 (x9_4 + 1)), (x439000_4), (x439001_4), rr, H', ⟨by have := HJ1.out; have := HK2.out; have := HK3.out; have := HK4.out; omega⟩, ⟨ro HO_4.out⟩, ⟨bo BK438.out⟩, ⟨bw⟩⟩
            ·have H' := Aside0.mk H
             clear H
             go_wp2
             go_roundg k4
             case measure => have := HJ1.out; have := HK2.out; have := HK3.out; have := HK4.out; omega
             case rel => exact ⟨(wrap64 (x8_3 + 1)), (x439000_4), (x439001_4), rr, H', ⟨by have := HJ1.out; have := HK2.out; have := HK3.out; have := HK4.out; omega⟩, ⟨ro HO_4.out⟩, ⟨bo BK438.out⟩, ⟨bw⟩⟩
         ·simp only [Option.some.injEq, Prod.mk.injEq] at H
          obtain ⟨rfl, rfl, rfl⟩ := H
          have hcz42_0 := bc BK438 0 (.int .i64 x439000_3)
          have hcz42_1 := bc BK438 1 (.int .i64 x439001_3)
          have hfz42_0 := blk_frozen BK438.out 0
          have hfz42_1 := blk_frozen BK438.out 1
          go_wp2
          refine bodyPost_ret (results_ct rfl _ _ gb438 33 #[.int .i64 0, .int .i64 0] (0, 0) _ rfl (by (with_reducible repeat (first | refine blk_drewN ?_ _ | refine blk_drew ?_ | refine blk_alloc ?_ _)); refine blk_put (cs := #[.int .i64 0, .int .i64 x439001_3]) ?_ 1 _ rfl; (with_reducible repeat (first | refine blk_drewN ?_ _ | refine blk_drew ?_ | refine blk_alloc ?_ _)); refine blk_put (cs := #[.int .i64 x439000_3, .int .i64 x439001_3]) ?_ 0 _ rfl; (with_reducible repeat (first | refine blk_drewN ?_ _ | refine blk_drew ?_ | refine blk_alloc ?_ _)); exact BK438.out) Try.underlying33 rfl (by kernel_rfl)) rfl ?_
          exact ⟨by first | rfl | (simp [errW_none, errW_some] <;> rfl) | (simp only [← hji19]; first | rfl | (simp [errW_none, errW_some] <;> rfl)) | (simp [*, errW_none, errW_some] <;> rfl), bw⟩


/-! ### impl_FromGaps: function 153 -/
mutual
def impl_FromGaps.j0 : Nat → List Int → Bool → Option (List Int × Bool)
 | 0, _, _ => none
 | k + 1, x0, x23 => if x23 = true then (some (([] : List Int), false)) else (if 401 ≤ 281474976710656 then (impl_FromGaps.l0 k x0 (List.replicate 401 false) x0 (x0.length : Int) 0) else (none))
def impl_FromGaps.l0 : Nat → List Int → List Bool → List Int → Int → Int → Option (List Int × Bool)
 | 0, _, _, _, _, _ => none
 | k + 1, x0, x6, x26, x27, x28 => if x28 < x27 then (if 0 ≤ x28 then (if x28 < (x26.length : Int) then (if 0 ≤ (rd x26 x28) then (if (rd x26 x28) < (x6.length : Int) then (impl_FromGaps.l0 k x0 (x6.set ((rd x26 x28) : Int).toNat true) x26 x27 (wrap64 (x28 + 1))) else (none)) else (none)) else (none)) else (none)) else (impl_FromGaps.l1 k x0 x6 1 ([] : List Int))
def impl_FromGaps.l1 : Nat → List Int → List Bool → Int → List Int → Option (List Int × Bool)
 | 0, _, _, _, _ => none
 | k + 1, x0, x6, x10, x461000 => if x10 < (x6.length : Int) then (if 0 ≤ x10 then (impl_FromGaps.l2 k x0 x6 x10 (rdOf false x6 x10) 1 x461000) else (none)) else ((impl_IsSemigroup.f k x461000).bind fun t467 => (if t467 = true then ((impl_Gaps.f k x461000).bind fun t468 => ((slices_Equal_int_int.f k t468 x0).bind fun t471 => (if t471 = true then (some (x461000, true)) else (some (([] : List Int), false))))) else (some (([] : List Int), false))))
def impl_FromGaps.l2 : Nat → List Int → List Bool → Int → Bool → Int → List Int → Option (List Int × Bool)
 | 0, _, _, _, _, _, _ => none
 | k + 1, x0, x6, x10, x11, x12, x461000 => if (wrap64 (2 * x12)) ≤ x10 then (if x11 = true then (impl_FromGaps.l1 k x0 x6 (wrap64 (x10 + 1)) x461000) else (if 0 ≤ x12 then (if x12 < (x6.length : Int) then (if rdOf false x6 x12 = true then (impl_FromGaps.l2 k x0 x6 x10 false (wrap64 (x12 + 1)) x461000) else (if 0 ≤ (wrap64 (x10 - x12)) then (if (wrap64 (x10 - x12)) < (x6.length : Int) then (impl_FromGaps.l2 k x0 x6 x10 (!(rdOf false x6 (wrap64 (x10 - x12)))) (wrap64 (x12 + 1)) x461000) else (none)) else (none))) else (none)) else (none))) else (if x11 = true then (impl_FromGaps.l1 k x0 x6 (wrap64 (x10 + 1)) x461000) else (if x461000.length < 17592186044416 then (impl_FromGaps.l1 k x0 x6 (wrap64 (x10 + 1)) (x461000 ++ [x10])) else (none)))
end
def impl_FromGaps.f (k : Nat) (l0 : List Int) : Option (List Int × Bool) := (impl_GapClash.f k l0).bind fun bt450 => (if bt450.2.2 = true then (impl_FromGaps.j0 k l0 true) else ((impl_gapList.f k l0).bind fun t454 => (impl_FromGaps.j0 k l0 (!t454))))
set_option maxHeartbeats 8000000 in
set_option maxRecDepth 100000 in
theorem impl_FromGaps.calls (k : Nat) (A0 : Option Addr) (c0 : Nat) (l0 : List Int) (r1 : List Int) (r2 : Bool) (w : World) (hr0 : Kd.C (Kd.int .i64) w A0 l0.length l0) (hc0 : l0.length ≤ c0) (h : impl_FromGaps.f k l0 = some (r1, r2)) :
  Calls Try.prog 153 #[.slice A0 l0.length c0] w fun e w' => ∃ v0_ : Value, e = .returned (.tuple #[.agg #[v0_], .bool r2]) ∧ Kd.R (Kd.int .i64) 3 w' w.heap.size (fun _ => True) v0_ r1 ∧ Below w.heap.size w w' := by
 have hu26 := Try.underlying26
 have hu33 := Try.underlying33
 have HR0 := Aside0.mk hr0
 have HC0 := Aside0.mk hc0
 clear hr0 hc0
 have HB := Aside0.mk (Below.refl w.heap.size w)
 have H : ((impl_GapClash.f k l0).bind fun bt450 => (if bt450.2.2 = true then (impl_FromGaps.j0 k l0 true) else ((impl_gapList.f k l0).bind fun t454 => (impl_FromGaps.j0 k l0 (!t454))))) = some (r1, r2) := h
 clear h
 replace H := ga H; obtain ⟨⟨t450, t451, t452⟩, A2, H⟩ := H
 replace H : (if t452 = true then (impl_FromGaps.j0 k l0 true) else ((impl_gapList.f k l0).bind fun t454 => (impl_FromGaps.j0 k l0 (!t454)))) = some (r1, r2) := H
 have HC3 := Aside0.mk H
 clear H
 go_enter Try.func153, Try.ntmps153
 go_upto_region 2 with (first | ((with_reducible refine gate_dst (N := 2) rfl ?_); refine bx 2 #[.slice none 0 0] 26 ?_; intro gb449 hg w4 hbox hb; have BK449 := Aside0.mk (hbox); have GW449 := Aside0.mk (gs hg : w.heap.size ≤ gb449); have GE449 := Aside0.mk (gs hg : w.heap.size ≤ gb449); replace HB := Aside0.mk (below_step bw hb); clear hb hbox hg) | ((with_reducible refine gate_callee (f := 220) rfl ?_); refine gl (some 15) Try.func220 #[.slice A0 l0.length c0] ?_; (with_reducible refine (impl_GapClash.calls k _ _ l0 t450 t451 t452 _ ?side1 ?side2 A2.out).mono ?_); (case side1 => exact co (Kd.C_below HR0.out HB.out)); (case side2 => exact HC0.out); rintro e w5 ⟨rfl, hb⟩; refine ⟨_, rfl, ?_⟩; replace BK449 := Aside0.mk (blk_below (g := gb449) (o := .cells #[.slice none 0 0] 26 (0, 0)) (bo BK449.out) hb); replace HB := Aside0.mk (below_step bw hb); clear hb) | ((with_reducible refine gate_dst (N := 4) rfl ?_); refine bx 4 #[.int .i64 0, .int .i64 0] 33 ?_; intro gb453 hg w6 hbox hb; have BK453 := Aside0.mk (hbox); have GW453 := Aside0.mk (gs hg : w.heap.size ≤ gb453); have GE453 := Aside0.mk (gs hg : w.heap.size ≤ gb453); replace HB := Aside0.mk (below_step bw hb); have NB449_453 := Aside0.mk ((by rw [hg]; exact Nat.ne_of_lt (blk_lt (g := gb449) (o := .cells #[.slice none 0 0] 26 (0, 0)) (bo BK449.out)) : gb449 ≠ gb453)); have NB453_449 := Aside0.mk ((by rw [hg]; exact Nat.ne_of_gt (blk_lt (g := gb449) (o := .cells #[.slice none 0 0] 26 (0, 0)) (bo BK449.out)) : gb453 ≠ gb449)); replace BK449 := Aside0.mk (blk_below (g := gb449) (o := .cells #[.slice none 0 0] 26 (0, 0)) (bo BK449.out) hb); clear hb hbox hg; have hnb7 := NB453_449.out; have hnc7 := NB449_453.out; have hcz8_0 := bc BK453 0 (.int .i64 0); have hcz8_1 := bc BK453 1 (.int .i64 0); have hfz8_0 := blk_frozen BK453.out 0; have hfz8_1 := blk_frozen BK453.out 1))
 (try simp only [Act.put, List.setIfInBounds_toArray, List.set_cons_zero, List.set_cons_succ])
 go_cut [23] (fun v23 wc => ∃ (kq : Nat) (x23_2 : Bool), v23 = .bool x23_2 ∧ Aside0 (impl_FromGaps.j0 kq l0 x23_2 = some (r1, r2)) ∧ Aside0 (kq ≤ k) ∧ Aside0 (wc.heap[gb449]? = some (.cells #[(.slice none 0 0)] 26 (0, 0))) ∧ Aside0 (wc.heap[gb453]? = some (.cells #[.int .i64 t450, .int .i64 t451] 33 (0, 0))) ∧ Aside0 (Below w.heap.size w wc))
 case first =>
  have H := HC3.out
  clear HC3
  replace H := gb H; obtain ⟨rfl, H⟩ | ⟨rfl, H⟩ := H
  ·have H' := Aside0.mk H
   clear H
   go_wp2
   go_meet
   case rel => exact ⟨_, (true), rr, H', ⟨om⟩, ⟨by (with_reducible repeat (first | refine blk_drewN ?_ _ | refine blk_drew ?_ | refine blk_alloc ?_ _)); refine blk_far ?_ NB449_453.out _; (with_reducible repeat (first | refine blk_drewN ?_ _ | refine blk_drew ?_ | refine blk_alloc ?_ _)); refine blk_far ?_ NB449_453.out _; (with_reducible repeat (first | refine blk_drewN ?_ _ | refine blk_drew ?_ | refine blk_alloc ?_ _)); exact BK449.out⟩, ⟨by (with_reducible repeat (first | refine blk_drewN ?_ _ | refine blk_drew ?_ | refine blk_alloc ?_ _)); refine blk_put (cs := #[.int .i64 t450, .int .i64 0]) ?_ 1 _ rfl; (with_reducible repeat (first | refine blk_drewN ?_ _ | refine blk_drew ?_ | refine blk_alloc ?_ _)); refine blk_put (cs := #[.int .i64 0, .int .i64 0]) ?_ 0 _ rfl; (with_reducible repeat (first | refine blk_drewN ?_ _ | refine blk_drew ?_ | refine blk_alloc ?_ _)); exact BK453.out⟩, ⟨bw⟩⟩
  ·replace H := ga H; obtain ⟨t454, A10, H⟩ := H
   have H' := Aside0.mk H
   clear H
   go_wp2_with (first | (go_at_call 221; (with_reducible refine (impl_gapList.calls k _ _ l0 t454 _ ?side1 ?side2 A10.out).mono ?_); (case side1 => exact Kd.C_below HR0.out bw); (case side2 => exact HC0.out); rintro e w' ⟨rfl, ⟨nd, rfl⟩⟩))
   go_meet
   case rel => exact ⟨_, (!t454), rr, H', ⟨om⟩, ⟨by (with_reducible repeat (first | refine blk_drewN ?_ _ | refine blk_drew ?_ | refine blk_alloc ?_ _)); refine blk_far ?_ NB449_453.out _; (with_reducible repeat (first | refine blk_drewN ?_ _ | refine blk_drew ?_ | refine blk_alloc ?_ _)); refine blk_far ?_ NB449_453.out _; (with_reducible repeat (first | refine blk_drewN ?_ _ | refine blk_drew ?_ | refine blk_alloc ?_ _)); exact BK449.out⟩, ⟨by (with_reducible repeat (first | refine blk_drewN ?_ _ | refine blk_drew ?_ | refine blk_alloc ?_ _)); refine blk_put (cs := #[.int .i64 t450, .int .i64 0]) ?_ 1 _ rfl; (with_reducible repeat (first | refine blk_drewN ?_ _ | refine blk_drew ?_ | refine blk_alloc ?_ _)); refine blk_put (cs := #[.int .i64 0, .int .i64 0]) ?_ 0 _ rfl; (with_reducible repeat (first | refine blk_drewN ?_ _ | refine blk_drew ?_ | refine blk_alloc ?_ _)); exact BK453.out⟩, ⟨bw⟩⟩
 case rest =>
  clear HC3
  try clear hcz8_0; try clear hcz8_1; try clear hfz8_0; try clear hfz8_1
  obtain ⟨kq, x23_2, rfl, HA, HJ2, BK449, BK453, HB⟩ := hcut
  cases kq with
  | zero => exact absurd HA.out (by simp [impl_FromGaps.j0])
  | succ kj2 =>
   have H := HA.out
   clear HA
   simp only [impl_FromGaps.j0] at H
   replace H := gb H; obtain ⟨rfl, H⟩ | ⟨rfl, H⟩ := H
   ·simp only [Option.some.injEq, Prod.mk.injEq] at H
    obtain ⟨rfl, rfl⟩ := H
    have hnb12 := NB449_453.out
    have hnc12 := NB453_449.out
    have hcz13_0 := bc BK449 0 (.slice none 0 0)
    have hfz13_0 := blk_frozen BK449.out 0
    go_wp2
    refine bodyPost_ret (results_ct rfl _ _ gb449 26 #[.slice none 0 0] (0, 0) _ rfl (by (with_reducible repeat (first | refine blk_drewN ?_ _ | refine blk_drew ?_ | refine blk_alloc ?_ _)); refine blk_put (cs := #[.slice none 0 0]) ?_ 0 _ rfl; (with_reducible repeat (first | refine blk_drewN ?_ _ | refine blk_drew ?_ | refine blk_alloc ?_ _)); exact BK449.out) Try.underlying26 rfl (by kernel_rfl)) rfl ?_
    exact ⟨_, re, by first | exact Kd.R_nil _ _ _ _ _ | exact Kd.N_nil _ _ _ _ _ | exact Kd.V_nil _ _ _ _ _ | exact Kd.Q_nil _ _ _ _ _ | exact Kd.S_nil _ _ _ _ _, bw⟩
   ·replace H := gp H; obtain ⟨c14, H⟩ := H
    have c14b0 := eq_true c14
    have c14b1 : decide (401 ≤ 281474976710656) = true := decide_eq_true c14
    clear c14
    obtain ⟨y455, hy455⟩ : ∃ y_ : List Bool, y_ = (List.replicate 401 false) := ⟨_, rfl⟩
    replace H : (impl_FromGaps.l0 kj2 l0 y455 l0 (l0.length : Int) 0) = some (r1, r2) := by first | (rw [hy455]; with_reducible exact H) | (have H2_ := (Option.bind_some _ _).symm.trans H; rw [hy455]; with_reducible exact H2_) | (have H2_ := (Option.bind_some _ _).symm.trans H; with_reducible exact H2_) | with_reducible exact H | (rw [hy455]; exact H) | exact H
    have Ny455 := Aside0.mk hy455
    clear hy455
    have H' := Aside0.mk H
    clear H
    go_wp2_with (first | ((with_reducible refine gate_dst (N := 25) rfl ?_); refine Kd.R_make Kd.bool _ 4 rfl (N := 25) rfl 109 _ _ rfl 401 rfl rfl Try.underlying109 (.bool false) 1 info4 rfl (by decide) (by omega) false (ok := fun _ => True) (okp := fun _ => True) rfl (fun _ hk => hk) trivial (by omega) (by omega) (Below.refl _ _) (Nat.le_refl _) ?_; intro v456 w15 ho16 hb hg_ hnew_; clear hg_ hnew_; (first | rw [← Ny455.out] at ho16 | (simp only [Int.reduceToNat] at ho16; rw [← Ny455.out] at ho16)); have HO457 := Aside0.mk (Kd.R_lower ho16 (below_size bw)); replace BK449 := Aside0.mk (blk_below (g := gb449) (o := .cells #[.slice none 0 0] 26 (0, 0)) (bo BK449.out) hb); replace BK453 := Aside0.mk (blk_below (g := gb453) (o := .cells #[.int .i64 t450, .int .i64 t451] 33 (0, 0)) (bo BK453.out) hb); replace HB := Aside0.mk (below_step bw hb); clear hb ho16))
    go_loopg [28] kj2 (fun kq v28 w' => ∃ (x6_2 : List Bool) (x28_2 : Int), v28 = .int .i64 x28_2 ∧ Aside0 (impl_FromGaps.l0 kq l0 x6_2 l0 (l0.length : Int) x28_2 = some (r1, r2)) ∧ Aside0 (kq ≤ kj2) ∧ Aside0 (Kd.R Kd.bool 4 w' w.heap.size (fun _ => True) v456 x6_2) ∧ Aside0 (w'.heap[gb449]? = some (.cells #[(.slice none 0 0)] 26 (0, 0))) ∧ Aside0 (w'.heap[gb453]? = some (.cells #[.int .i64 t450, .int .i64 t451] 33 (0, 0))) ∧ Aside0 (Below w.heap.size w w'))
    case atStart => exact ⟨(y455), (0), rr, H', ⟨Nat.le_refl _⟩, ⟨ro HO457.out⟩, ⟨bo BK449.out⟩, ⟨bo BK453.out⟩, ⟨bw⟩⟩
    case round =>
     clear H'
     try clear c14; try clear c14b0; try clear c14b1; try clear hcz13_0; try clear hcz8_0; try clear hcz8_1; try clear hfz13_0; try clear hfz8_0; try clear hfz8_1
     obtain ⟨x6_2, x28_2, rfl, HA, HK2, HO_6, BK449, BK453, HB⟩ := hrel
     cases gk with
     | zero => exact absurd HA.out (by simp [impl_FromGaps.l0])
     | succ k2 =>
      have H := HA.out
      clear HA
      simp only [impl_FromGaps.l0] at H
      replace H := gi H; obtain ⟨c17b0, H⟩ | ⟨c17b0, H⟩ := H
      ·replace H := gd H; obtain ⟨c18b0, H⟩ := H
       replace H := gd H; obtain ⟨c19b0, H⟩ := H
       replace H := gd H; obtain ⟨c20b0, H⟩ := H
       replace H := gd H; obtain ⟨c21b0, H⟩ := H
       obtain ⟨y459, hy459⟩ : ∃ y_ : List Bool, y_ = (x6_2.set ((rd l0 x28_2) : Int).toNat true) := ⟨_, rfl⟩
       replace H : (impl_FromGaps.l0 k2 l0 y459 l0 (l0.length : Int) (wrap64 (x28_2 + 1))) = some (r1, r2) := by first | (rw [hy459]; with_reducible exact H) | (have H2_ := (Option.bind_some _ _).symm.trans H; rw [hy459]; with_reducible exact H2_) | (have H2_ := (Option.bind_some _ _).symm.trans H; with_reducible exact H2_) | with_reducible exact H | (rw [hy459]; exact H) | exact H
       have Ny459 := Aside0.mk hy459
       clear hy459
       have H' := Aside0.mk H
       clear H
       obtain ⟨⟨ad458, e458, hx458_0⟩, p458, q458⟩ := pq (Kd.at_int HR0.out x28_2)
       cases e458
       replace hx458_0 := (HB.out.cell (World.block_lt_of_cell? w _ hx458_0)).trans hx458_0
       have p22 : 0 ≤ ((rd l0 x28_2) : Int) := of_decide_eq_true (by first | (with_reducible assumption) | assumption)
       have q22 : ((rd l0 x28_2) : Int) < ((x6_2.length : Int) : Int) := of_decide_eq_true (by first | (with_reducible assumption) | assumption)
       obtain ⟨go22, co22, eo22, gb22, gl22, cl22, HG22⟩ := Kd.R_form HO_6.out (by omega)
       (first | cases eo22 | (injection eo22 with ea_ en_ ec_; (first | subst ea_ | (injection ea_ with ea_; subst ea_)); subst ec_; clear en_))
       have GB22 := Aside0.mk gb22
       have GG22 := Aside0.mk HG22
       clear gb22 gl22 HG22
       obtain ⟨hx22_0, hf22_0⟩ := Kd.R_celln false HO_6.out ((rd l0 x28_2) : Int) p22 q22
       replace p22 := eq_true p22
       replace q22 := eq_true q22
       have HP23 := Kd.R_putg HO_6.out ((rd l0 x28_2) : Int) true
       go_wp2_with (first | ((with_reducible refine gate_store (t := 4) (p := 34) rfl ?_); refine store_event (t := 4) (p := 34) (v := ?vo_w24) (w1 := (wr.setCell ⟨go22, ((rd l0 x28_2) : Int).toNat, none⟩ (.bool true))) ?hg ?ho ?hn ?hr ?_; (case ho => rfl); (case hg => rfl); (case hn => rfl); (case hr => first | (go_simp; done) | (go_simp; rfl)); intro w24 hw; have hg : wr.grownBy w24 (some go22) := (by rw [hw]; exact HP23.2); have hp_ : Kd.R Kd.bool 4 w24 w.heap.size (fun _ => True) (.slice (some ⟨go22, 0, none⟩) x6_2.length co22) y459 := (by rw [hw, Ny459.out]; exact HP23.1); clear HP23; replace BK449 := Aside0.mk (blk_grown (g := gb449) (o := .cells #[.slice none 0 0] 26 (0, 0)) (bo BK449.out) hg (Kd.R_ne HO_6.out BK449.out (by decide))); replace BK453 := Aside0.mk (blk_grown (g := gb453) (o := .cells #[.int .i64 t450, .int .i64 t451] 33 (0, 0)) (bo BK453.out) hg (Kd.R_ne HO_6.out BK453.out (by decide))); replace HO_6 := Aside0.mk (hp_); replace HB := Aside0.mk ((by rw [hw]; exact below_set (HB.out) GB22.out : Below w.heap.size w w24)); clear hg hw hp_))
       go_roundg k2
       case measure => have := HJ2.out; have := HK2.out; omega
       case rel => exact ⟨(y459), (wrap64 (x28_2 + 1)), rr, H', ⟨by have := HJ2.out; have := HK2.out; omega⟩, ⟨ro HO_6.out⟩, ⟨bo BK449.out⟩, ⟨bo BK453.out⟩, ⟨bw⟩⟩
      ·have H' := Aside0.mk H
       clear H
       go_wp2_with (first | ((with_reducible refine gate_dst (N := 9) rfl ?_); refine bx 9 #[.slice none 0 0] 26 ?_; intro gb460 hg w25 hbox hb; replace HO_6 := Aside0.mk (Kd.R_below (ro HO_6.out) hb); have BK460 := Aside0.mk (hbox); have GW460 := Aside0.mk (gs hg : w.heap.size ≤ gb460); have GE460 := Aside0.mk (gs hg : w.heap.size ≤ gb460); replace HB := Aside0.mk (below_step bw hb); have NB449_460 := Aside0.mk ((by rw [hg]; exact Nat.ne_of_lt (blk_lt (g := gb449) (o := .cells #[.slice none 0 0] 26 (0, 0)) (bo BK449.out)) : gb449 ≠ gb460)); have NB460_449 := Aside0.mk ((by rw [hg]; exact Nat.ne_of_gt (blk_lt (g := gb449) (o := .cells #[.slice none 0 0] 26 (0, 0)) (bo BK449.out)) : gb460 ≠ gb449)); replace BK449 := Aside0.mk (blk_below (g := gb449) (o := .cells #[.slice none 0 0] 26 (0, 0)) (bo BK449.out) hb); have NB453_460 := Aside0.mk ((by rw [hg]; exact Nat.ne_of_lt (blk_lt (g := gb453) (o := .cells #[.int .i64 t450, .int .i64 t451] 33 (0, 0)) (bo BK453.out)) : gb453 ≠ gb460)); have NB460_453 := Aside0.mk ((by rw [hg]; exact Nat.ne_of_gt (blk_lt (g := gb453) (o := .cells #[.int .i64 t450, .int .i64 t451] 33 (0, 0)) (bo BK453.out)) : gb460 ≠ gb453)); replace BK453 := Aside0.mk (blk_below (g := gb453) (o := .cells #[.int .i64 t450, .int .i64 t451] 33 (0, 0)) (bo BK453.out) hb); clear hb hbox hg; have hnb26 := NB460_449.out; have hnc26 := NB449_460.out; have hnb27 := NB460_453.out; have hnc27 := NB453_460.out; have hcz28_0 := bc BK460 0 (.slice none 0 0); have hfz28_0 := blk_frozen BK460.out 0))
       go_loopg [10] k2 (fun kq v10 w' => ∃ (x10_3 : Int) (x461000_3 : List Int) (u461000 : Value), v10 = .int .i64 x10_3 ∧ Aside0 (impl_FromGaps.l1 kq l0 x6_2 x10_3 x461000_3 = some (r1, r2)) ∧ Aside0 (kq ≤ k2) ∧ Aside0 (Kd.R Kd.bool 4 w' w.heap.size (fun _ => True) v456 x6_2) ∧ Aside0 (Kd.R (Kd.int .i64) 3 w' w.heap.size (fun _ => True) u461000 x461000_3) ∧ Aside0 (w'.heap[gb449]? = some (.cells #[(.slice none 0 0)] 26 (0, 0))) ∧ Aside0 (w'.heap[gb453]? = some (.cells #[.int .i64 t450, .int .i64 t451] 33 (0, 0))) ∧ Aside0 (w'.heap[gb460]? = some (.cells #[u461000] 26 (0, 0))) ∧ Aside0 (Below w.heap.size w w'))
       case atStart => exact ⟨(1), (([] : List Int)), (.slice none 0 0), rr, H', ⟨Nat.le_refl _⟩, ⟨by (with_reducible repeat (first | apply Kd.R_alloc | apply Kd.R_drewN | apply Kd.R_drew)); exact Kd.R_mono (Kd.R_far (p := ⟨gb460, 0, none⟩) (Kd.R_types HO_6.out BK460.out (by decide)) (fun _ hk => hk.2) (.slice none 0 0)) (fun _ hk => trivial)⟩, ⟨by first | exact Kd.R_nil _ _ _ _ _ | exact Kd.N_nil _ _ _ _ _ | exact Kd.V_nil _ _ _ _ _ | exact Kd.Q_nil _ _ _ _ _ | exact Kd.S_nil _ _ _ _ _⟩, ⟨by (with_reducible repeat (first | refine blk_drewN ?_ _ | refine blk_drew ?_ | refine blk_alloc ?_ _)); refine blk_far ?_ NB449_460.out _; (with_reducible repeat (first | refine blk_drewN ?_ _ | refine blk_drew ?_ | refine blk_alloc ?_ _)); exact BK449.out⟩, ⟨by (with_reducible repeat (first | refine blk_drewN ?_ _ | refine blk_drew ?_ | refine blk_alloc ?_ _)); refine blk_far ?_ NB453_460.out _; (with_reducible repeat (first | refine blk_drewN ?_ _ | refine blk_drew ?_ | refine blk_alloc ?_ _)); exact BK453.out⟩, ⟨by (with_reducible repeat (first | refine blk_drewN ?_ _ | refine blk_drew ?_ | refine blk_alloc ?_ _)); refine blk_put (cs := #[.slice none 0 0]) ?_ 0 _ rfl; (with_reducible repeat (first | refine blk_drewN ?_ _ | refine blk_drew ?_ | refine blk_alloc ?_ _)); exact BK460.out⟩, ⟨bw⟩⟩
       case round =>
        clear H'
        try clear c14; try clear c14b0; try clear c14b1; try clear c17b0; try clear c18b0; try clear c19b0; try clear c20b0; try clear c21b0; try clear p22; try clear q22; try clear hcz13_0; try clear hcz28_0; try clear hcz8_0; try clear hcz8_1; try clear hfz13_0; try clear hfz28_0; try clear hfz8_0; try clear hfz8_1; try clear hx22_0; try clear hx458_0; try clear p458; try clear q458
        obtain ⟨x10_3, x461000_3, u461000, rfl, HA, HK3, HO_6, HO_461000, BK449, BK453, BK460, HB⟩ := hrel
        cases gk with
        | zero => exact absurd HA.out (by simp [impl_FromGaps.l1])
        | succ k3 =>
         have H := HA.out
         clear HA
         simp only [impl_FromGaps.l1] at H
         replace H := gi H; obtain ⟨c29b0, H⟩ | ⟨c29b0, H⟩ := H
         ·replace H := gd H; obtain ⟨c30b0, H⟩ := H
          have H' := Aside0.mk H
          clear H
          obtain ⟨Ao31, co31, eo31⟩ := Kd.R_slice HO_6.out
          subst eo31
          obtain ⟨⟨ad461, e461, hx461_0⟩, p461, q461⟩ := pq (Kd.at_bool (Kd.R_reads' HO_6.out).2.2 x10_3)
          cases e461
          go_wp2
          go_loopg [11, 12] k3 (fun kq v11 v12 w' => ∃ (x11_4 : Bool) (x12_4 : Int), v11 = .bool x11_4 ∧ v12 = .int .i64 x12_4 ∧ Aside0 (impl_FromGaps.l2 kq l0 x6_2 x10_3 x11_4 x12_4 x461000_3 = some (r1, r2)) ∧ Aside0 (kq ≤ k3) ∧ Aside0 (Kd.R Kd.bool 4 w' w.heap.size (fun _ => True) (.slice (some ad461) x6_2.length co31) x6_2) ∧ Aside0 (Kd.R (Kd.int .i64) 3 w' w.heap.size (fun _ => True) u461000 x461000_3) ∧ Aside0 (w'.heap[gb449]? = some (.cells #[(.slice none 0 0)] 26 (0, 0))) ∧ Aside0 (w'.heap[gb453]? = some (.cells #[.int .i64 t450, .int .i64 t451] 33 (0, 0))) ∧ Aside0 (w'.heap[gb460]? = some (.cells #[u461000] 26 (0, 0))) ∧ Aside0 (Below w.heap.size w w'))
          case atStart => exact ⟨(rdOf false x6_2 x10_3), (1), rr, rr, H', ⟨Nat.le_refl _⟩, ⟨ro HO_6.out⟩, ⟨ro HO_461000.out⟩, ⟨bo BK449.out⟩, ⟨bo BK453.out⟩, ⟨bo BK460.out⟩, ⟨bw⟩⟩
          case round =>
           clear H'
           try clear c14; try clear c14b0; try clear c14b1; try clear c17b0; try clear c18b0; try clear c19b0; try clear c20b0; try clear c21b0; try clear p22; try clear q22; try clear c29b0; try clear c30b0; try clear hcz13_0; try clear hcz28_0; try clear hcz8_0; try clear hcz8_1; try clear hfz13_0; try clear hfz28_0; try clear hfz8_0; try clear hfz8_1; try clear hx22_0; try clear hx458_0; try clear hx461_0; try clear p458; try clear p461; try clear q458; try clear q461
           obtain ⟨x11_4, x12_4, rfl, rfl, HA, HK4, HO_6, HO_461000, BK449, BK453, BK460, HB⟩ := hrel
           cases gk with
           | zero => exact absurd HA.out (by simp [impl_FromGaps.l2])
           | succ k4 =>
            have H := HA.out
            clear HA
            simp only [impl_FromGaps.l2] at H
            replace H := gi H; obtain ⟨c32b0, H⟩ | ⟨c32b0, H⟩ := H
            ·replace H := gb H; obtain ⟨rfl, H⟩ | ⟨rfl, H⟩ := H
             ·have H' := Aside0.mk H
              clear H
              go_wp2
              go_roundg k4
              case measure => have := HJ2.out; have := HK2.out; have := HK3.out; have := HK4.out; omega
              case rel => exact ⟨(wrap64 (x10_3 + 1)), (x461000_3), (u461000), rr, H', ⟨by have := HJ2.out; have := HK2.out; have := HK3.out; have := HK4.out; omega⟩, ⟨ro HO_6.out⟩, ⟨ro HO_461000.out⟩, ⟨bo BK449.out⟩, ⟨bo BK453.out⟩, ⟨bo BK460.out⟩, ⟨bw⟩⟩
             ·replace H := gd H; obtain ⟨c34b0, H⟩ := H
              replace H := gd H; obtain ⟨c35b0, H⟩ := H
              obtain ⟨bq36, hbq36⟩ : ∃ b_ : Bool, b_ = (rdOf false x6_2 x12_4) := ⟨_, rfl⟩
              replace H : (if bq36 = true then (impl_FromGaps.l2 k4 l0 x6_2 x10_3 false (wrap64 (x12_4 + 1)) x461000_3) else (if 0 ≤ (wrap64 (x10_3 - x12_4)) then (if (wrap64 (x10_3 - x12_4)) < (x6_2.length : Int) then (impl_FromGaps.l2 k4 l0 x6_2 x10_3 (!(rdOf false x6_2 (wrap64 (x10_3 - x12_4)))) (wrap64 (x12_4 + 1)) x461000_3) else (none)) else (none))) = some (r1, r2) := by rw [← hbq36] at H; exact H
              have Nbq36 := Aside0.mk hbq36
              clear hbq36
              replace H := gb H; obtain ⟨rfl, H⟩ | ⟨rfl, H⟩ := H
              ·have H' := Aside0.mk H
               clear H
               obtain ⟨⟨ad462, e462, hx462_0⟩, p462, q462⟩ := pq (Kd.at_bool (Kd.R_reads' HO_6.out).2.2 x12_4)
               (try rw [← Nbq36.out] at hx462_0)
               obtain rfl : ad461 = ad462 := (by injection e462)
               go_wp2
               go_roundg k4
               case measure => have := HJ2.out; have := HK2.out; have := HK3.out; have := HK4.out; omega
               case rel => exact ⟨(false), (wrap64 (x12_4 + 1)), rr, rr, H', ⟨by have := HJ2.out; have := HK2.out; have := HK3.out; have := HK4.out; omega⟩, ⟨ro HO_6.out⟩, ⟨ro HO_461000.out⟩, ⟨bo BK449.out⟩, ⟨bo BK453.out⟩, ⟨bo BK460.out⟩, ⟨bw⟩⟩
              ·obtain ⟨ji38, hji38⟩ : ∃ j_ : Int, (wrap64 (x10_3 - x12_4)) = j_ := ⟨_, rfl⟩
               replace H : (if 0 ≤ (ji38) then (if (ji38) < (x6_2.length : Int) then (impl_FromGaps.l2 k4 l0 x6_2 x10_3 (!(rdOf false x6_2 (ji38))) (wrap64 (x12_4 + 1)) x461000_3) else (none)) else (none)) = some (r1, r2) := by first | (rw [hji38] at H; exact H) | (simp only [hji38] at H ⊢; exact H)
               have hji38w : (IntKind.i64.wrap (x10_3 - x12_4)) = ji38 := (i64_w _).trans hji38
               replace H := gd H; obtain ⟨c39b0, H⟩ := H
               replace H := gd H; obtain ⟨c40b0, H⟩ := H
               have H' := Aside0.mk H
               clear H
               obtain ⟨⟨ad462, e462, hx462_0⟩, p462, q462⟩ := pq (Kd.at_bool (Kd.R_reads' HO_6.out).2.2 x12_4)
               (try rw [← Nbq36.out] at hx462_0)
               obtain rfl : ad461 = ad462 := (by injection e462)
               obtain ⟨⟨ad463, e463, hx463_0⟩, p463, q463⟩ := pq (Kd.at_bool (Kd.R_reads' HO_6.out).2.2 (ji38))
               (try rw [← Nbq36.out] at hx463_0)
               obtain rfl : ad461 = ad463 := (by injection e463)
               go_wp2
               go_roundg k4
               case measure => have := HJ2.out; have := HK2.out; have := HK3.out; have := HK4.out; omega
               case rel => exact ⟨(!(rdOf false x6_2 (ji38))), (wrap64 (x12_4 + 1)), (by first | rfl | (simp; done) | (simp only [← hji38] <;> (first | rfl | simp)) | (simp [*]; done)), rr, H', ⟨by have := HJ2.out; have := HK2.out; have := HK3.out; have := HK4.out; omega⟩, ⟨ro HO_6.out⟩, ⟨ro HO_461000.out⟩, ⟨bo BK449.out⟩, ⟨bo BK453.out⟩, ⟨bo BK460.out⟩, ⟨bw⟩⟩
            ·replace H := gb H; obtain ⟨rfl, H⟩ | ⟨rfl, H⟩ := H
             ·have H' := Aside0.mk H
              clear H
              go_wp2
              go_roundg k4
              case measure => have := HJ2.out; have := HK2.out; have := HK3.out; have := HK4.out; omega
              case rel => exact ⟨(wrap64 (x10_3 + 1)), (x461000_3), (u461000), rr, H', ⟨by have := HJ2.out; have := HK2.out; have := HK3.out; have := HK4.out; omega⟩, ⟨ro HO_6.out⟩, ⟨ro HO_461000.out⟩, ⟨bo BK449.out⟩, ⟨bo BK453.out⟩, ⟨bo BK460.out⟩, ⟨bw⟩⟩
             ·by_cases c42 : x461000_3.length < 17592186044416
              rotate_left
              ·rw [if_neg c42] at H
               exact absurd H (by simp)
              rw [if_pos c42] at H
              have LMc42 := Aside0.mk c42
              clear c42
              obtain ⟨y464, hy464⟩ : ∃ y_ : List Int, y_ = (x461000_3 ++ [x10_3]) := ⟨_, rfl⟩
              replace H : (impl_FromGaps.l1 k4 l0 x6_2 (wrap64 (x10_3 + 1)) y464) = some (r1, r2) := by first | (rw [hy464]; with_reducible exact H) | (have H2_ := (Option.bind_some _ _).symm.trans H; rw [hy464]; with_reducible exact H2_) | (have H2_ := (Option.bind_some _ _).symm.trans H; with_reducible exact H2_) | with_reducible exact H | (rw [hy464]; exact H) | exact H
              have Ny464 := Aside0.mk hy464
              clear hy464
              have H' := Aside0.mk H
              clear H
              have hnb43 := NB460_449.out
              have hnc43 := NB449_460.out
              have hnb44 := NB460_453.out
              have hnc44 := NB453_460.out
              have hcz45_0 := bc BK460 0 (u461000)
              have hfz45_0 := blk_frozen BK460.out 0
              go_wp2_with (first | ((with_reducible refine gate_builtin (b := .append) (xs := #[.tmp 74, .tmp 76]) rfl ?_); at_builtin; refine Kd.R_append (Kd.int .i64) (w0 := w) w.heap.size rfl (.tmp 74) (.tmp 76) 24 3 (.int .i64 0) 8 rfl Try.underlying24 info3 rfl (by decide) (by omega) u461000 x461000_3 x10_3 [.int .i64 x10_3] (fun _ => True) (fun _ => False) rfl rfl ?aP (fun _ hk => hk.elim) ?aF ?aO ?aB ?aS ?aL ?_; (case aP => exact rfl); (case aB => exact bw); (case aF => exact (fun _ _ => trivial)); (case aO => exact (ro HO_461000.out)); (case aS => exact (below_size bw)); (case aL => have := LMc42.out; omega); intro v465 w46 ho hb hg hat; rw [← Ny464.out] at ho; replace HO_6 := Aside0.mk (Kd.R_over' (ro HO_6.out) (Kd.R_typed (ro HO_461000.out)) (by decide) hg); replace BK449 := Aside0.mk (blk_grown (g := gb449) (o := .cells #[.slice none 0 0] 26 (0, 0)) (bo BK449.out) hg (Kd.R_ne HO_461000.out BK449.out (by decide))); replace BK453 := Aside0.mk (blk_grown (g := gb453) (o := .cells #[.int .i64 t450, .int .i64 t451] 33 (0, 0)) (bo BK453.out) hg (Kd.R_ne HO_461000.out BK453.out (by decide))); replace BK460 := Aside0.mk (blk_grown (g := gb460) (o := .cells #[u461000] 26 (0, 0)) (bo BK460.out) hg (Kd.R_ne HO_461000.out BK460.out (by decide))); replace HB := Aside0.mk (hb); have HO466 := Aside0.mk (ho); clear HO_461000 ho hb hg hat; obtain ⟨Ao47, co47, eo47⟩ := Kd.R_slice HO466.out; subst eo47; have hcz48_0 := bc BK460 0 (u461000); have hfz48_0 := blk_frozen BK460.out 0))
              go_roundg k4
              case measure => have := HJ2.out; have := HK2.out; have := HK3.out; have := HK4.out; omega
              case rel => exact ⟨(wrap64 (x10_3 + 1)), (y464), (.slice Ao47 y464.length co47), rr, H', ⟨by have := HJ2.out; have := HK2.out; have := HK3.out; have := HK4.out; omega⟩, ⟨by (with_reducible repeat (first | apply Kd.R_alloc | apply Kd.R_drewN | apply Kd.R_drew)); exact Kd.R_mono (Kd.R_far (p := ⟨gb460, 0, none⟩) (Kd.R_types HO_6.out BK460.out (by decide)) (fun _ hk => hk.2) (.slice Ao47 y464.length co47)) (fun _ hk => trivial)⟩, ⟨by (with_reducible repeat (first | apply Kd.R_alloc | apply Kd.R_drewN | apply Kd.R_drew)); exact Kd.R_mono (Kd.R_far (p := ⟨gb460, 0, none⟩) (Kd.R_types HO466.out BK460.out (by decide)) (fun _ hk => hk.2) (.slice Ao47 y464.length co47)) (fun _ hk => trivial)⟩, ⟨by (with_reducible repeat (first | refine blk_drewN ?_ _ | refine blk_drew ?_ | refine blk_alloc ?_ _)); refine blk_far ?_ NB449_460.out _; (with_reducible repeat (first | refine blk_drewN ?_ _ | refine blk_drew ?_ | refine blk_alloc ?_ _)); exact BK449.out⟩, ⟨by (with_reducible repeat (first | refine blk_drewN ?_ _ | refine blk_drew ?_ | refine blk_alloc ?_ _)); refine blk_far ?_ NB453_460.out _; (with_reducible repeat (first | refine blk_drewN ?_ _ | refine blk_drew ?_ | refine blk_alloc ?_ _)); exact BK453.out⟩, ⟨by (with_reducible repeat (first | refine blk_drewN ?_ _ | refine blk_drew ?_ | refine blk_alloc ?_ _)); refine blk_put (cs := #[u461000]) ?_ 0 _ rfl; (with_reducible repeat (first | refine blk_drewN ?_ _ | refine blk_drew ?_ | refine blk_alloc ?_ _)); exact BK460.out⟩, ⟨bw⟩⟩
         ·replace H := ga H; obtain ⟨t467, A49, H⟩ := H
          replace H := gb H; obtain ⟨rfl, H⟩ | ⟨rfl, H⟩ := H
          ·replace H := ga H; obtain ⟨t468, A51, H⟩ := H
           replace H := ga H; obtain ⟨t471, A52, H⟩ := H
           replace H := gb H; obtain ⟨rfl, H⟩ | ⟨rfl, H⟩ := H
           ·simp only [Option.some.injEq, Prod.mk.injEq] at H
            obtain ⟨rfl, rfl⟩ := H
            obtain ⟨Ao54, co54, eo54⟩ := Kd.R_slice HO_6.out
            subst eo54
            have hnb55 := NB460_449.out
            have hnc55 := NB449_460.out
            have hnb56 := NB460_453.out
            have hnc56 := NB453_460.out
            have hcz57_0 := bc BK460 0 (u461000)
            have hfz57_0 := blk_frozen BK460.out 0
            obtain ⟨Ao58, co58, eo58⟩ := Kd.R_slice HO_461000.out
            subst eo58
            go_wp2_with (first | ((with_reducible refine gate_callee (f := 151) rfl ?_); refine gl (some 80) Try.func151 #[.agg #[.slice Ao58 x461000_3.length co58]] ?_; (with_reducible refine (impl_IsSemigroup.calls k3 _ _ x461000_3 true _ ?side1 ?side2 A49.out).mono ?_); (case side1 => exact co (Kd.R_reads' HO_461000.out).2.2); (case side2 => exact (Kd.R_reads' HO_461000.out).2.1); rintro e w59 ⟨rfl, hb⟩; refine ⟨_, rfl, ?_⟩; replace HO_6 := Aside0.mk (Kd.R_below (ro HO_6.out) hb); replace HO_461000 := Aside0.mk (Kd.R_below (ro HO_461000.out) hb); replace BK449 := Aside0.mk (blk_below (g := gb449) (o := .cells #[.slice none 0 0] 26 (0, 0)) (bo BK449.out) hb); replace BK453 := Aside0.mk (blk_below (g := gb453) (o := .cells #[.int .i64 t450, .int .i64 t451] 33 (0, 0)) (bo BK453.out) hb); replace BK460 := Aside0.mk (blk_below (g := gb460) (o := .cells #[.slice Ao58 x461000_3.length co58] 26 (0, 0)) (bo BK460.out) hb); replace HB := Aside0.mk (below_step bw hb); clear hb; have hcz60_0 := bc BK460 0 (.slice Ao58 x461000_3.length co58); have hfz60_0 := blk_frozen BK460.out 0) | (go_at_call 90; (with_reducible refine (impl_Gaps.calls k3 _ _ x461000_3 t468 _ ?side1 ?side2 A51.out).mono ?_); (case side1 => exact co (Kd.R_reads' HO_461000.out).2.2); (case side2 => exact (Kd.R_reads' HO_461000.out).2.1); rintro e w61 ⟨v469, rfl, ho0, hb⟩; replace HO_6 := Aside0.mk (Kd.R_below (ro HO_6.out) hb); have HO470 := Aside0.mk (Kd.R_lower (Kd.R_new' ho0 (Kd.R_lt (ro HO_461000.out))) (below_size bw)); replace HO_461000 := Aside0.mk (Kd.R_elder' (ro HO_461000.out) (Kd.R_base ho0) hb); replace BK449 := Aside0.mk (blk_below (g := gb449) (o := .cells #[.slice none 0 0] 26 (0, 0)) (bo BK449.out) hb); replace BK453 := Aside0.mk (blk_below (g := gb453) (o := .cells #[.int .i64 t450, .int .i64 t451] 33 (0, 0)) (bo BK453.out) hb); replace BK460 := Aside0.mk (blk_below (g := gb460) (o := .cells #[.slice Ao58 x461000_3.length co58] 26 (0, 0)) (bo BK460.out) hb); replace HB := Aside0.mk (below_step bw hb); clear hb ho0; obtain ⟨Ao62, co62, eo62⟩ := Kd.R_slice HO470.out; subst eo62) | (go_at_call 137; (with_reducible refine (slices_Equal_int_int.calls k3 _ _ t468 _ _ l0 true _ ?side1 ?side2 ?side3 ?side4 A52.out).mono ?_); (case side1 => exact co (Kd.R_reads' HO470.out).2.2); (case side2 => exact (Kd.R_reads' HO470.out).2.1); (case side3 => exact co (Kd.C_below HR0.out HB.out)); (case side4 => exact HC0.out); rintro e w' ⟨rfl, ⟨nd, rfl⟩⟩; (try (rw [drewN_self w61]; generalize hq_ : World.drewN w61 _ = w61; have n0_ : Aside0 (Kd.R (Kd.int .i64) 3 w61 w.heap.size (fun k_ => some k_ ≠ (.slice Ao58 x461000_3.length co58 : Value).ownBlock) (.slice Ao62 t468.length co62) t468) := ⟨by rw [← hq_]; exact (by (with_reducible repeat (first | apply Kd.R_alloc | apply Kd.R_drewN | apply Kd.R_drew)); exact Kd.R_mono HO470.out (fun _ hk => hk.2))⟩; have n1_ : Aside0 (Kd.R (Kd.int .i64) 3 w61 w.heap.size (fun k_ => some k_ ≠ (.slice Ao62 t468.length co62 : Value).ownBlock) (.slice Ao58 x461000_3.length co58) x461000_3) := ⟨by rw [← hq_]; exact (by (with_reducible repeat (first | apply Kd.R_alloc | apply Kd.R_drewN | apply Kd.R_drew)); exact Kd.R_mono HO_461000.out (fun _ hk => hk.2))⟩; have n2_ : Aside0 (Kd.R Kd.bool 4 w61 w.heap.size (fun _ => True) (.slice Ao54 x6_2.length co54) x6_2) := ⟨by rw [← hq_]; exact (ro HO_6.out)⟩; have n3_ : Aside0 (w61.heap[gb449]? = some (.cells #[.slice none 0 0] 26 (0, 0))) := ⟨by rw [← hq_]; exact (bo BK449.out)⟩; have n4_ : Aside0 (w61.heap[gb453]? = some (.cells #[.int .i64 t450, .int .i64 t451] 33 (0, 0))) := ⟨by rw [← hq_]; exact (bo BK453.out)⟩; have n5_ : Aside0 (w61.heap[gb460]? = some (.cells #[.slice Ao58 x461000_3.length co58] 26 (0, 0))) := ⟨by rw [← hq_]; exact (bo BK460.out)⟩; have n6_ : Aside0 (Below w.heap.size w w61) := ⟨by rw [← hq_]; exact bw⟩; clear HO470 HO_461000 HO_6 BK449 BK453 BK460 HB hq_; have HO470 := n0_; have HO_461000 := n1_; have HO_6 := n2_; have BK449 := n3_; have BK453 := n4_; have BK460 := n5_; have HB := n6_; clear n0_ n1_ n2_ n3_ n4_ n5_ n6_)); have hcz63_0 := bc BK460 0 (.slice Ao58 x461000_3.length co58); have hfz63_0 := blk_frozen BK460.out 0; have hnb64 := NB449_453.out; have hnc64 := NB453_449.out; have hcz65_0 := bc BK449 0 (.slice none 0 0); have hfz65_0 := blk_frozen BK449.out 0))
            refine bodyPost_ret (results_ct rfl _ _ gb449 26 #[.slice Ao58 x461000_3.length co58] (0, 0) _ rfl (by (with_reducible repeat (first | refine blk_drewN ?_ _ | refine blk_drew ?_ | refine blk_alloc ?_ _)); refine blk_put (cs := #[.slice none 0 0]) ?_ 0 _ rfl; (with_reducible repeat (first | refine blk_drewN ?_ _ | refine blk_drew ?_ | refine blk_alloc ?_ _)); exact BK449.out) Try.underlying26 rfl (by kernel_rfl)) rfl ?_
            exact ⟨_, re, by (with_reducible repeat (first | apply Kd.R_alloc | apply Kd.R_drewN | apply Kd.R_drew)); exact Kd.R_mono (Kd.R_far (p := ⟨gb449, 0, none⟩) (Kd.R_types HO_461000.out BK449.out (by decide)) (fun _ hk => hk.2) (.slice Ao58 x461000_3.length co58)) (fun _ hk => trivial), bw⟩
           ·simp only [Option.some.injEq, Prod.mk.injEq] at H
            obtain ⟨rfl, rfl⟩ := H
            obtain ⟨Ao66, co66, eo66⟩ := Kd.R_slice HO_6.out
            subst eo66
            have hnb67 := NB460_449.out
            have hnc67 := NB449_460.out
            have hnb68 := NB460_453.out
            have hnc68 := NB453_460.out
            have hcz69_0 := bc BK460 0 (u461000)
            have hfz69_0 := blk_frozen BK460.out 0
            obtain ⟨Ao70, co70, eo70⟩ := Kd.R_slice HO_461000.out
            subst eo70
            go_wp2_with (first | ((with_reducible refine gate_callee (f := 151) rfl ?_); refine gl (some 80) Try.func151 #[.agg #[.slice Ao70 x461000_3.length co70]] ?_; (with_reducible refine (impl_IsSemigroup.calls k3 _ _ x461000_3 true _ ?side1 ?side2 A49.out).mono ?_); (case side1 => exact co (Kd.R_reads' HO_461000.out).2.2); (case side2 => exact (Kd.R_reads' HO_461000.out).2.1); rintro e w71 ⟨rfl, hb⟩; refine ⟨_, rfl, ?_⟩; replace HO_6 := Aside0.mk (Kd.R_below (ro HO_6.out) hb); replace HO_461000 := Aside0.mk (Kd.R_below (ro HO_461000.out) hb); replace BK449 := Aside0.mk (blk_below (g := gb449) (o := .cells #[.slice none 0 0] 26 (0, 0)) (bo BK449.out) hb); replace BK453 := Aside0.mk (blk_below (g := gb453) (o := .cells #[.int .i64 t450, .int .i64 t451] 33 (0, 0)) (bo BK453.out) hb); replace BK460 := Aside0.mk (blk_below (g := gb460) (o := .cells #[.slice Ao70 x461000_3.length co70] 26 (0, 0)) (bo BK460.out) hb); replace HB := Aside0.mk (below_step bw hb); clear hb; have hcz72_0 := bc BK460 0 (.slice Ao70 x461000_3.length co70); have hfz72_0 := blk_frozen BK460.out 0) | (go_at_call 90; (with_reducible refine (impl_Gaps.calls k3 _ _ x461000_3 t468 _ ?side1 ?side2 A51.out).mono ?_); (case side1 => exact co (Kd.R_reads' HO_461000.out).2.2); (case side2 => exact (Kd.R_reads' HO_461000.out).2.1); rintro e w73 ⟨v469, rfl, ho0, hb⟩; replace HO_6 := Aside0.mk (Kd.R_below (ro HO_6.out) hb); have HO470 := Aside0.mk (Kd.R_lower (Kd.R_new' ho0 (Kd.R_lt (ro HO_461000.out))) (below_size bw)); replace HO_461000 := Aside0.mk (Kd.R_elder' (ro HO_461000.out) (Kd.R_base ho0) hb); replace BK449 := Aside0.mk (blk_below (g := gb449) (o := .cells #[.slice none 0 0] 26 (0, 0)) (bo BK449.out) hb); replace BK453 := Aside0.mk (blk_below (g := gb453) (o := .cells #[.int .i64 t450, .int .i64 t451] 33 (0, 0)) (bo BK453.out) hb); replace BK460 := Aside0.mk (blk_below (g := gb460) (o := .cells #[.slice Ao70 x461000_3.length co70] 26 (0, 0)) (bo BK460.out) hb); replace HB := Aside0.mk (below_step bw hb); clear hb ho0; obtain ⟨Ao74, co74, eo74⟩ := Kd.R_slice HO470.out; subst eo74) | (go_at_call 137; (with_reducible refine (slices_Equal_int_int.calls k3 _ _ t468 _ _ l0 false _ ?side1 ?side2 ?side3 ?side4 A52.out).mono ?_); (case side1 => exact co (Kd.R_reads' HO470.out).2.2); (case side2 => exact (Kd.R_reads' HO470.out).2.1); (case side3 => exact co (Kd.C_below HR0.out HB.out)); (case side4 => exact HC0.out); rintro e w' ⟨rfl, ⟨nd, rfl⟩⟩; (try (rw [drewN_self w73]; generalize hq_ : World.drewN w73 _ = w73; have n0_ : Aside0 (Kd.R (Kd.int .i64) 3 w73 w.heap.size (fun k_ => some k_ ≠ (.slice Ao70 x461000_3.length co70 : Value).ownBlock) (.slice Ao74 t468.length co74) t468) := ⟨by rw [← hq_]; exact (by (with_reducible repeat (first | apply Kd.R_alloc | apply Kd.R_drewN | apply Kd.R_drew)); exact Kd.R_mono HO470.out (fun _ hk => hk.2))⟩; have n1_ : Aside0 (Kd.R (Kd.int .i64) 3 w73 w.heap.size (fun k_ => some k_ ≠ (.slice Ao74 t468.length co74 : Value).ownBlock) (.slice Ao70 x461000_3.length co70) x461000_3) := ⟨by rw [← hq_]; exact (by (with_reducible repeat (first | apply Kd.R_alloc | apply Kd.R_drewN | apply Kd.R_drew)); exact Kd.R_mono HO_461000.out (fun _ hk => hk.2))⟩; have n2_ : Aside0 (Kd.R Kd.bool 4 w73 w.heap.size (fun _ => True) (.slice Ao66 x6_2.length co66) x6_2) := ⟨by rw [← hq_]; exact (ro HO_6.out)⟩; have n3_ : Aside0 (w73.heap[gb449]? = some (.cells #[.slice none 0 0] 26 (0, 0))) := ⟨by rw [← hq_]; exact (bo BK449.out)⟩; have n4_ : Aside0 (w73.heap[gb453]? = some (.cells #[.int .i64 t450, .int .i64 t451] 33 (0, 0))) := ⟨by rw [← hq_]; exact (bo BK453.out)⟩; have n5_ : Aside0 (w73.heap[gb460]? = some (.cells #[.slice Ao70 x461000_3.length co70] 26 (0, 0))) := ⟨by rw [← hq_]; exact (bo BK460.out)⟩; have n6_ : Aside0 (Below w.heap.size w w73) := ⟨by rw [← hq_]; exact bw⟩; clear HO470 HO_461000 HO_6 BK449 BK453 BK460 HB hq_; have HO470 := n0_; have HO_461000 := n1_; have HO_6 := n2_; have BK449 := n3_; have BK453 := n4_; have BK460 := n5_; have HB := n6_; clear n0_ n1_ n2_ n3_ n4_ n5_ n6_)); have hnb75 := NB449_453.out; have hnc75 := NB453_449.out; have hcz76_0 := bc BK449 0 (.slice none 0 0); have hfz76_0 := blk_frozen BK449.out 0))
            refine bodyPost_ret (results_ct rfl _ _ gb449 26 #[.slice none 0 0] (0, 0) _ rfl (by (with_reducible repeat (first | refine blk_drewN ?_ _ | refine blk_drew ?_ | refine blk_alloc ?_ _)); refine blk_put (cs := #[.slice none 0 0]) ?_ 0 _ rfl; (with_reducible repeat (first | refine blk_drewN ?_ _ | refine blk_drew ?_ | refine blk_alloc ?_ _)); exact BK449.out) Try.underlying26 rfl (by kernel_rfl)) rfl ?_
            exact ⟨_, re, by first | exact Kd.R_nil _ _ _ _ _ | exact Kd.N_nil _ _ _ _ _ | exact Kd.V_nil _ _ _ _ _ | exact Kd.Q_nil _ _ _ _ _ | exact Kd.S_nil _ _ _ _ _, bw⟩
          ·simp only [Option.some.injEq, Prod.mk.injEq] at H
           obtain ⟨rfl, rfl⟩ := H
           obtain ⟨Ao77, co77, eo77⟩ := Kd.R_slice HO_6.out
           subst eo77
           have hnb78 := NB460_449.out
           have hnc78 := NB449_460.out
           have hnb79 := NB460_453.out
           have hnc79 := NB453_460.out
           have hcz80_0 := bc BK460 0 (u461000)
           have hfz80_0 := blk_frozen BK460.out 0
           obtain ⟨Ao81, co81, eo81⟩ := Kd.R_slice HO_461000.out
           subst eo81
           go_wp2_with (first | ((with_reducible refine gate_callee (f := 151) rfl ?_); refine gl (some 80) Try.func151 #[.agg #[.slice Ao81 x461000_3.length co81]] ?_; (with_reducible refine (impl_IsSemigroup.calls k3 _ _ x461000_3 false _ ?side1 ?side2 A49.out).mono ?_); (case side1 => exact co (Kd.R_reads' HO_461000.out).2.2); (case side2 => exact (Kd.R_reads' HO_461000.out).2.1); rintro e w82 ⟨rfl, hb⟩; refine ⟨_, rfl, ?_⟩; replace HO_6 := Aside0.mk (Kd.R_below (ro HO_6.out) hb); replace HO_461000 := Aside0.mk (Kd.R_below (ro HO_461000.out) hb); replace BK449 := Aside0.mk (blk_below (g := gb449) (o := .cells #[.slice none 0 0] 26 (0, 0)) (bo BK449.out) hb); replace BK453 := Aside0.mk (blk_below (g := gb453) (o := .cells #[.int .i64 t450, .int .i64 t451] 33 (0, 0)) (bo BK453.out) hb); replace BK460 := Aside0.mk (blk_below (g := gb460) (o := .cells #[.slice Ao81 x461000_3.length co81] 26 (0, 0)) (bo BK460.out) hb); replace HB := Aside0.mk (below_step bw hb); clear hb; have hnb83 := NB449_453.out; have hnc83 := NB453_449.out; have hcz84_0 := bc BK449 0 (.slice none 0 0); have hfz84_0 := blk_frozen BK449.out 0))
           refine bodyPost_ret (results_ct rfl _ _ gb449 26 #[.slice none 0 0] (0, 0) _ rfl (by (with_reducible repeat (first | refine blk_drewN ?_ _ | refine blk_drew ?_ | refine blk_alloc ?_ _)); refine blk_put (cs := #[.slice none 0 0]) ?_ 0 _ rfl; (with_reducible repeat (first | refine blk_drewN ?_ _ | refine blk_drew ?_ | refine blk_alloc ?_ _)); exact BK449.out) Try.underlying26 rfl (by kernel_rfl)) rfl ?_
           exact ⟨_, re, by first | exact Kd.R_nil _ _ _ _ _ | exact Kd.N_nil _ _ _ _ _ | exact Kd.V_nil _ _ _ _ _ | exact Kd.Q_nil _ _ _ _ _ | exact Kd.S_nil _ _ _ _ _, bw⟩

end Go.Proofs.Ytkfplkdchkmgbaa.C
