/- Contracts of functions of the program: impl_ValueOf, impl_IsFactorization, spec_ValueOf, spec_IsFactorization, impl_FormatInt, impl_Join, impl_FactorText, spec_FormatInt, spec_Join, spec_FactorText, laws_worth. -/
import Derived.Test.YtbbehmbpoilffaaDoorC0
import Derived.Test.YtbbehmbpoilffaaDoorC1
import Derived.Test.YtbbehmbpoilffaaDoorC3
import Derived.Test.YtbbehmbpoilffaaDoorC7
import Derived.Test.YtbbehmbpoilffaaDoorC8
namespace Go.Proofs.YtbbehmbpoilffaaDoor.C
open Go.RowKit Go.Proofs.YtbbehmbpoilffaaDoorW.PrintWords Go.Proofs.YtbbehmbpoilffaaDoorW.PrintLast Go.Proofs.YtbbehmbpoilffaaDoorW.PrintMore
attribute [local go_sem] max2_int min2_int max_two min_two max_three min_three max_four min_four
set_option linter.unusedVariables false
set_option linter.unusedSimpArgs false

/-! ### impl_ValueOf: function 16 -/
mutual
def impl_ValueOf.j0 : Nat → List Int → Bool → List Int → Option (Int)
 | 0, _, _, _ => none
 | k + 1, x1, x23, x638000 => if x23 = true then (some (-1)) else (impl_ValueOf.l0 k 0 x1 (x1.length : Int) 0 x638000)
def impl_ValueOf.l0 : Nat → Int → List Int → Int → Int → List Int → Option (Int)
 | 0, _, _, _, _, _ => none
 | k + 1, x5, x24, x25, x26, x638000 => if x26 < x25 then (if 0 ≤ x26 then (if x26 < (x24.length : Int) then (if x26 < (x638000.length : Int) then (impl_ValueOf.l0 k (wrap64 (x5 + (wrap64 ((rd x24 x26) * (rd x638000 x26))))) x24 x25 (wrap64 (x26 + 1)) x638000) else (none)) else (none)) else (none)) else (some x5)
end
def impl_ValueOf.f (k : Nat) (l0_0 : List Int) (l1 : List Int) : Option (Int) := (impl_IsSemigroup.f k l0_0).bind fun t638 => (if t638 = true then (if (l1.length : Int) = (l0_0.length : Int) then ((impl_allWithin.f k l1 0 1000000).bind fun t639 => (impl_ValueOf.j0 k l1 (!t639) l0_0)) else (impl_ValueOf.j0 k l1 true l0_0)) else (impl_ValueOf.j0 k l1 true l0_0))
set_option maxHeartbeats 8000000 in
set_option maxRecDepth 100000 in
theorem impl_ValueOf.calls (k : Nat) (A0_0 : Option Addr) (c0_0 : Nat) (l0_0 : List Int) (A1 : Option Addr) (c1 : Nat) (l1 : List Int) (r : Int) (w : World) (hr0_0 : Kd.C (Kd.int .i64) w A0_0 l0_0.length l0_0) (hc0_0 : l0_0.length ≤ c0_0) (hr1 : Kd.C (Kd.int .i64) w A1 l1.length l1) (hc1 : l1.length ≤ c1) (h : impl_ValueOf.f k l0_0 l1 = some r) :
  Calls Tryd.prog 16 #[.agg #[.slice A0_0 l0_0.length c0_0], .slice A1 l1.length c1] w fun e w' => e = .returned (.int .i64 r) ∧ Below w.heap.size w w' := by
 have hu26 := Tryd.underlying26
 have HR0_0 := am hr0_0
 have HC0_0 := am hc0_0
 clear hr0_0 hc0_0
 have HR1 := am hr1
 have HC1 := am hc1
 clear hr1 hc1
 have HB := am (Below.refl w.heap.size w)
 have H : ((impl_IsSemigroup.f k l0_0).bind fun t638 => (if t638 = true then (if (l1.length : Int) = (l0_0.length : Int) then ((impl_allWithin.f k l1 0 1000000).bind fun t639 => (impl_ValueOf.j0 k l1 (!t639) l0_0)) else (impl_ValueOf.j0 k l1 true l0_0)) else (impl_ValueOf.j0 k l1 true l0_0))) = some r := h
 clear h
 have HC3 := am H
 clear H
 go_enter Tryd.func16, Tryd.ntmps16
 go_upto_region 1 with (first | ((with_reducible refine gate_dst (N := 2) rfl ?_); (try (refine gate_guard (by rfl) ?_; dsimp only)); refine bx 2 #[.slice A0_0 l0_0.length c0_0] 26 ?_; intro gb637 hg w4 hbox hb; have BK637 := am (hbox); have GW637 := am (gs hg : w.heap.size ≤ gb637); have GE637 := GW637; replace HB := am (below_step bw hb); clear hb hbox hg))
 (try simp only [Act.put, List.setIfInBounds_toArray, List.set_cons_zero, List.set_cons_succ])
 go_cut [23] (fun v23 wc => ∃ (kq : Nat) (x23_2 : Bool), v23 = .bool x23_2 ∧ Aside0 (impl_ValueOf.j0 kq l1 x23_2 l0_0 = some r) ∧ Aside0 (kq ≤ k) ∧ Aside0 (wc.heap[gb637]? = some (.cells #[(.slice A0_0 l0_0.length c0_0)] 26 (0, 0))) ∧ Aside0 (Below w.heap.size w wc))
 case first =>
  have H := HC3.out
  clear HC3
  replace H := ga H; obtain ⟨t638, A5, H⟩ := H
  replace H := gb H; obtain ⟨rfl, H⟩ | ⟨rfl, H⟩ := H
  ·by_cases c7 : (l1.length : Int) = (l0_0.length : Int)
   ·rw [if_pos c7] at H
    have c7b0 : ((l1.length : Int) == (l0_0.length : Int)) = true := beq_iff_eq.mpr c7
    have c7b1 : ((l1.length : Int) != (l0_0.length : Int)) = false := bne_eq_false_iff_eq.mpr c7
    have c7b2 : (l1.length == l0_0.length) = true := by first | simpa using c7 | (simp at c7 ⊢; omega)
    clear c7
    (first | rw [c7b0] | (simp only [i64_w, i32_w]; rw [c7b0]) | skip)
    replace H := ga H; obtain ⟨t639, A8, H⟩ := H
    have H' := am H
    clear H
    have hcz9_0 := bc BK637 0 (.slice A0_0 l0_0.length c0_0)
    have hfz9_0 := blk_frozen BK637.out 0
    go_wp2_with (first | ((with_reducible refine gate_callee (f := 25) rfl ?_); refine goesL_ (some 9) rfl rfl Tryd.func25 (by kernel_rfl) rfl #[.agg #[.slice A0_0 l0_0.length c0_0]] rfl (by (try simp only [List.map_toArray, List.map_cons, List.map_nil]); first | done | rfl | (simp only [List.length_drop, List.length_take]; rfl)) ?_; (with_reducible refine (impl_IsSemigroup.calls k _ _ l0_0 true _ ?side1 ?side2 A5.out).mono ?_); (case side1 => exact co (Kd.C_below HR0_0.out HB.out)); (case side2 => exact HC0_0.out); rintro e w10 ⟨rfl, hb⟩; refine ⟨_, rfl, ?_⟩; replace BK637 := kb BK637 hb; replace HB := am (below_step bw hb); clear hb; have hcz11_0 := bc BK637 0 (.slice A0_0 l0_0.length c0_0); have hfz11_0 := blk_frozen BK637.out 0) | (go_at_call 35; (with_reducible refine (impl_allWithin.calls k _ _ l1 0 1000000 t639 _ ?side1 ?side2 A8.out).mono ?_); (case side1 => exact co (Kd.C_below HR1.out HB.out)); (case side2 => exact HC1.out); rintro e w' ⟨rfl, ⟨nd, rfl⟩⟩))
    go_meet
    case rel => exact ⟨_, (!t639), rr, H', ⟨om⟩, ⟨bo BK637.out⟩, ⟨bw⟩⟩
   rw [if_neg c7] at H
   have c7b0 : ((l1.length : Int) == (l0_0.length : Int)) = false := beq_eq_false_iff_ne.mpr c7
   have c7b1 : ((l1.length : Int) != (l0_0.length : Int)) = true := bne_iff_ne.mpr c7
   have c7b2 : (l1.length == l0_0.length) = false := by first | simpa using c7 | (simp at c7 ⊢; omega)
   (first | rw [c7b0] | (simp only [i64_w, i32_w]; rw [c7b0]) | skip)
   have H' := am H
   clear H
   have hcz12_0 := bc BK637 0 (.slice A0_0 l0_0.length c0_0)
   have hfz12_0 := blk_frozen BK637.out 0
   go_wp2_with (first | ((with_reducible refine gate_callee (f := 25) rfl ?_); refine goesL_ (some 9) rfl rfl Tryd.func25 (by kernel_rfl) rfl #[.agg #[.slice A0_0 l0_0.length c0_0]] rfl (by (try simp only [List.map_toArray, List.map_cons, List.map_nil]); first | done | rfl | (simp only [List.length_drop, List.length_take]; rfl)) ?_; (with_reducible refine (impl_IsSemigroup.calls k _ _ l0_0 true _ ?side1 ?side2 A5.out).mono ?_); (case side1 => exact co (Kd.C_below HR0_0.out HB.out)); (case side2 => exact HC0_0.out); rintro e w13 ⟨rfl, hb⟩; refine ⟨_, rfl, ?_⟩; replace BK637 := kb BK637 hb; replace HB := am (below_step bw hb); clear hb; have hcz14_0 := bc BK637 0 (.slice A0_0 l0_0.length c0_0); have hfz14_0 := blk_frozen BK637.out 0))
   go_meet
   case rel => exact ⟨_, (true), rr, H', ⟨om⟩, ⟨bo BK637.out⟩, ⟨bw⟩⟩
  have H' := am H
  clear H
  have hcz15_0 := bc BK637 0 (.slice A0_0 l0_0.length c0_0)
  have hfz15_0 := blk_frozen BK637.out 0
  go_wp2_with (first | ((with_reducible refine gate_callee (f := 25) rfl ?_); refine goesL_ (some 9) rfl rfl Tryd.func25 (by kernel_rfl) rfl #[.agg #[.slice A0_0 l0_0.length c0_0]] rfl (by (try simp only [List.map_toArray, List.map_cons, List.map_nil]); first | done | rfl | (simp only [List.length_drop, List.length_take]; rfl)) ?_; (with_reducible refine (impl_IsSemigroup.calls k _ _ l0_0 false _ ?side1 ?side2 A5.out).mono ?_); (case side1 => exact co (Kd.C_below HR0_0.out HB.out)); (case side2 => exact HC0_0.out); rintro e w16 ⟨rfl, hb⟩; refine ⟨_, rfl, ?_⟩; replace BK637 := kb BK637 hb; replace HB := am (below_step bw hb); clear hb))
  go_meet
  case rel => exact ⟨_, (true), rr, H', ⟨om⟩, ⟨bo BK637.out⟩, ⟨bw⟩⟩
 case rest =>
  clear HC3
  try clear c1; try clear c7; try clear c7b0; try clear c7b1; try clear c7b2; try clear hcz11_0; try clear hcz12_0; try clear hcz14_0; try clear hcz15_0; try clear hcz9_0; try clear hfz11_0; try clear hfz12_0; try clear hfz14_0; try clear hfz15_0; try clear hfz9_0
  obtain ⟨kq, x23_2, rfl, HA, HJ2, BK637, HB⟩ := hcut
  cases kq with
  | zero => exact absurd HA.out (by simp [impl_ValueOf.j0])
  | succ kj2 =>
   have H := HA.out
   clear HA
   simp only [impl_ValueOf.j0] at H
   replace H := gb H; obtain ⟨rfl, H⟩ | ⟨rfl, H⟩ := H
   ·obtain rfl := Option.some.inj H
    go_wp2
    go_ret
    exact ⟨re, bw⟩
   have H' := am H
   clear H
   go_wp2
   go_loopg [5, 26] kj2 (fun kq v5 v26 w' => ∃ (x5_2 : Int) (x26_2 : Int), v5 = .int .i64 x5_2 ∧ v26 = .int .i64 x26_2 ∧ Aside0 (impl_ValueOf.l0 kq x5_2 l1 (l1.length : Int) x26_2 l0_0 = some r) ∧ Aside0 (kq ≤ kj2) ∧ Aside0 (w'.heap[gb637]? = some (.cells #[(.slice A0_0 l0_0.length c0_0)] 26 (0, 0))) ∧ Aside0 (Below w.heap.size w w'))
   case atStart => exact ⟨(0), (0), rr, rr, H', ⟨Nat.le_refl _⟩, ⟨bo BK637.out⟩, ⟨bw⟩⟩
   case round =>
    clear H'
    try clear c1; try clear c7; try clear c7b0; try clear c7b1; try clear c7b2; try clear hcz11_0; try clear hcz12_0; try clear hcz14_0; try clear hcz15_0; try clear hcz9_0; try clear hfz11_0; try clear hfz12_0; try clear hfz14_0; try clear hfz15_0; try clear hfz9_0
    obtain ⟨x5_2, x26_2, rfl, rfl, HA, HK2, BK637, HB⟩ := hrel
    cases gk with
    | zero => exact absurd HA.out (by simp [impl_ValueOf.l0])
    | succ k2 =>
     have H := HA.out
     clear HA
     simp only [impl_ValueOf.l0] at H
     replace H := gi H; obtain ⟨c18b0, H⟩ | ⟨c18b0, H⟩ := H
     ·replace H := gd H; obtain ⟨c19b0, H⟩ := H
      replace H := gd H; obtain ⟨c20b0, H⟩ := H
      replace H := gd H; obtain ⟨c21b0, H⟩ := H
      have H' := am H
      clear H
      obtain ⟨⟨ad640, e640, hx640_0⟩, p640, q640⟩ := pq (Kd.at_int HR1.out x26_2)
      cases e640
      replace hx640_0 := hw HB hx640_0
      have hcz22_0 := bc BK637 0 (.slice A0_0 l0_0.length c0_0)
      have hfz22_0 := blk_frozen BK637.out 0
      obtain ⟨⟨ad641, e641, hx641_0⟩, p641, q641⟩ := pq (Kd.at_int HR0_0.out x26_2)
      cases e641
      replace hx641_0 := hw HB hx641_0
      go_wp2
      go_roundg k2
      case measure => have := HJ2.out; have := HK2.out; omega
      case rel => exact ⟨(wrap64 (x5_2 + (wrap64 ((rd l1 x26_2) * (rd l0_0 x26_2))))), (wrap64 (x26_2 + 1)), rr, rr, H', ⟨by have := HJ2.out; have := HK2.out; omega⟩, ⟨bo BK637.out⟩, ⟨bw⟩⟩
     obtain rfl := Option.some.inj H
     go_wp2
     go_ret
     exact ⟨re, bw⟩


/-! ### impl_IsFactorization: function 14 -/
def impl_IsFactorization.f (k : Nat) (l0_0 : List Int) (a1 : Int) (l2 : List Int) : Option (Bool) := (impl_ValueOf.f k l0_0 l2).bind fun t643 => (if t643 ≥ 0 then (some (t643 == a1)) else (some false))
set_option maxHeartbeats 8000000 in
set_option maxRecDepth 100000 in
theorem impl_IsFactorization.calls (k : Nat) (A0_0 : Option Addr) (c0_0 : Nat) (l0_0 : List Int) (a1 : Int) (A2 : Option Addr) (c2 : Nat) (l2 : List Int) (r : Bool) (w : World) (hr0_0 : Kd.C (Kd.int .i64) w A0_0 l0_0.length l0_0) (hc0_0 : l0_0.length ≤ c0_0) (hr2 : Kd.C (Kd.int .i64) w A2 l2.length l2) (hc2 : l2.length ≤ c2) (h : impl_IsFactorization.f k l0_0 a1 l2 = some r) :
  Calls Tryd.prog 14 #[.agg #[.slice A0_0 l0_0.length c0_0], .int .i64 a1, .slice A2 l2.length c2] w fun e w' => e = .returned (.bool r) ∧ Below w.heap.size w w' := by
 have hu26 := Tryd.underlying26
 have HR0_0 := am hr0_0
 have HC0_0 := am hc0_0
 clear hr0_0 hc0_0
 have HR2 := am hr2
 have HC2 := am hc2
 clear hr2 hc2
 have HB := am (Below.refl w.heap.size w)
 have H : ((impl_ValueOf.f k l0_0 l2).bind fun t643 => (if t643 ≥ 0 then (some (t643 == a1)) else (some false))) = some r := h
 clear h
 replace H := ga H; obtain ⟨t643, A4, H⟩ := H
 replace H := gj H; obtain ⟨c5, H⟩ | ⟨c5, H⟩ := H
 ·have c5b0 : decide (0 ≤ t643) = true := decide_eq_true c5
  clear c5
  obtain rfl := Option.some.inj H
  go_enter Tryd.func14, Tryd.ntmps14
  go_wp2_with (first | ((with_reducible refine gate_dst (N := 3) rfl ?_); refine bx 3 #[.slice A0_0 l0_0.length c0_0] 26 ?_; intro gb642 hg w6 hbox hb; have BK642 := am (hbox); have GW642 := am (gs hg : w.heap.size ≤ gb642); have GE642 := GW642; replace HB := am (below_step bw hb); clear hb hbox hg; have hcz7_0 := bc BK642 0 (.slice A0_0 l0_0.length c0_0); have hfz7_0 := blk_frozen BK642.out 0) | ((with_reducible refine gate_callee (f := 16) rfl ?_); refine goesL_ (some 10) rfl rfl Tryd.func16 (by kernel_rfl) rfl #[.agg #[.slice A0_0 l0_0.length c0_0], .slice A2 l2.length c2] rfl (by (try simp only [List.map_toArray, List.map_cons, List.map_nil]); first | done | rfl | (simp only [List.length_drop, List.length_take]; rfl)) ?_; (with_reducible refine (impl_ValueOf.calls k _ _ l0_0 _ _ l2 t643 _ ?side1 ?side2 ?side3 ?side4 A4.out).mono ?_); (case side1 => exact co (Kd.C_below HR0_0.out HB.out)); (case side2 => exact HC0_0.out); (case side3 => exact co (Kd.C_below HR2.out HB.out)); (case side4 => exact HC2.out); rintro e w8 ⟨rfl, hb⟩; refine ⟨_, rfl, ?_⟩; replace BK642 := kb BK642 hb; replace HB := am (below_step bw hb); clear hb))
  go_ret
  exact ⟨re, bw⟩
 have c5b0 : decide (0 ≤ t643) = false := decide_eq_false c5
 clear c5
 obtain rfl := Option.some.inj H
 go_enter Tryd.func14, Tryd.ntmps14
 go_wp2_with (first | ((with_reducible refine gate_dst (N := 3) rfl ?_); refine bx 3 #[.slice A0_0 l0_0.length c0_0] 26 ?_; intro gb642 hg w9 hbox hb; have BK642 := am (hbox); have GW642 := am (gs hg : w.heap.size ≤ gb642); have GE642 := GW642; replace HB := am (below_step bw hb); clear hb hbox hg; have hcz10_0 := bc BK642 0 (.slice A0_0 l0_0.length c0_0); have hfz10_0 := blk_frozen BK642.out 0) | ((with_reducible refine gate_callee (f := 16) rfl ?_); refine goesL_ (some 10) rfl rfl Tryd.func16 (by kernel_rfl) rfl #[.agg #[.slice A0_0 l0_0.length c0_0], .slice A2 l2.length c2] rfl (by (try simp only [List.map_toArray, List.map_cons, List.map_nil]); first | done | rfl | (simp only [List.length_drop, List.length_take]; rfl)) ?_; (with_reducible refine (impl_ValueOf.calls k _ _ l0_0 _ _ l2 t643 _ ?side1 ?side2 ?side3 ?side4 A4.out).mono ?_); (case side1 => exact co (Kd.C_below HR0_0.out HB.out)); (case side2 => exact HC0_0.out); (case side3 => exact co (Kd.C_below HR2.out HB.out)); (case side4 => exact HC2.out); rintro e w11 ⟨rfl, hb⟩; refine ⟨_, rfl, ?_⟩; replace BK642 := kb BK642 hb; replace HB := am (below_step bw hb); clear hb))
 go_ret
 exact ⟨re, bw⟩


/-! ### spec_ValueOf: function 17 -/
mutual
def spec_ValueOf.j0 : Nat → List Int → Bool → List Int → Option (Int)
 | 0, _, _, _ => none
 | k + 1, x1, x17, x645000 => if x17 = true then (some (-1)) else (spec_ValueOf.l0 k x1 0 0 x645000)
def spec_ValueOf.l0 : Nat → List Int → Int → Int → List Int → Option (Int)
 | 0, _, _, _, _ => none
 | k + 1, x1, x5, x6, x645000 => if x6 < (x1.length : Int) then (if 0 ≤ x6 then ((spec_l1In.f (rd x1 x6) 0 1000000).bind fun t647 => (if t647 = true then (if x6 < (x645000.length : Int) then (spec_ValueOf.l0 k x1 (wrap64 (x5 + (wrap64 ((rd x1 x6) * (rd x645000 x6))))) (wrap64 (x6 + 1)) x645000) else (none)) else (some (-1)))) else (none)) else (some x5)
end
def spec_ValueOf.f (k : Nat) (l0_0 : List Int) (l1 : List Int) : Option (Int) := (spec_IsSemigroup.f k l0_0).bind fun t645 => (if t645 = true then (spec_ValueOf.j0 k l1 ((l1.length : Int) != (l0_0.length : Int)) l0_0) else (spec_ValueOf.j0 k l1 true l0_0))
set_option maxHeartbeats 8000000 in
set_option maxRecDepth 100000 in
theorem spec_ValueOf.calls (k : Nat) (A0_0 : Option Addr) (c0_0 : Nat) (l0_0 : List Int) (A1 : Option Addr) (c1 : Nat) (l1 : List Int) (r : Int) (w : World) (hr0_0 : Kd.C (Kd.int .i64) w A0_0 l0_0.length l0_0) (hc0_0 : l0_0.length ≤ c0_0) (hr1 : Kd.C (Kd.int .i64) w A1 l1.length l1) (hc1 : l1.length ≤ c1) (h : spec_ValueOf.f k l0_0 l1 = some r) :
  Calls Tryd.prog 17 #[.agg #[.slice A0_0 l0_0.length c0_0], .slice A1 l1.length c1] w fun e w' => e = .returned (.int .i64 r) ∧ Below w.heap.size w w' := by
 have hu26 := Tryd.underlying26
 have HR0_0 := am hr0_0
 have HC0_0 := am hc0_0
 clear hr0_0 hc0_0
 have HR1 := am hr1
 have HC1 := am hc1
 clear hr1 hc1
 have HB := am (Below.refl w.heap.size w)
 have H : ((spec_IsSemigroup.f k l0_0).bind fun t645 => (if t645 = true then (spec_ValueOf.j0 k l1 ((l1.length : Int) != (l0_0.length : Int)) l0_0) else (spec_ValueOf.j0 k l1 true l0_0))) = some r := h
 clear h
 have HC3 := am H
 clear H
 go_enter Tryd.func17, Tryd.ntmps17
 go_upto_region 1 with (first | ((with_reducible refine gate_dst (N := 2) rfl ?_); (try (refine gate_guard (by rfl) ?_; dsimp only)); refine bx 2 #[.slice A0_0 l0_0.length c0_0] 26 ?_; intro gb644 hg w4 hbox hb; have BK644 := am (hbox); have GW644 := am (gs hg : w.heap.size ≤ gb644); have GE644 := GW644; replace HB := am (below_step bw hb); clear hb hbox hg))
 repeat (go_quiet (fail); go_upto_region 1 with (first | ((with_reducible refine gate_dst (N := 2) rfl ?_); (try (refine gate_guard (by rfl) ?_; dsimp only)); refine bx 2 #[.slice A0_0 l0_0.length c0_0] 26 ?_; intro gb644 hg w4 hbox hb; have BK644 := am (hbox); have GW644 := am (gs hg : w.heap.size ≤ gb644); have GE644 := GW644; replace HB := am (below_step bw hb); clear hb hbox hg)))
 (try simp only [Act.put, List.setIfInBounds_toArray, List.set_cons_zero, List.set_cons_succ])
 go_cut [17] (fun v17 wc => ∃ (kq : Nat) (x17_2 : Bool), v17 = .bool x17_2 ∧ Aside0 (spec_ValueOf.j0 kq l1 x17_2 l0_0 = some r) ∧ Aside0 (kq ≤ k) ∧ Aside0 (wc.heap[gb644]? = some (.cells #[(.slice A0_0 l0_0.length c0_0)] 26 (0, 0))) ∧ Aside0 (Below w.heap.size w wc))
 case first =>
  have H := HC3.out
  clear HC3
  replace H := ga H; obtain ⟨t645, A5, H⟩ := H
  replace H := gb H; obtain ⟨rfl, H⟩ | ⟨rfl, H⟩ := H
  ·have H' := am H
   clear H
   have hcz7_0 := bc BK644 0 (.slice A0_0 l0_0.length c0_0)
   have hfz7_0 := blk_frozen BK644.out 0
   go_wp2_with (first | (go_at_call 22; (with_reducible refine (spec_IsSemigroup.calls k _ _ l0_0 true _ ?side1 ?side2 A5.out).mono ?_); (case side1 => exact co (Kd.C_below HR0_0.out HB.out)); (case side2 => exact HC0_0.out); rintro e w8 ⟨rfl, hb⟩; replace BK644 := kb BK644 hb; replace HB := am (below_step bw hb); clear hb; have hcz9_0 := bc BK644 0 (.slice A0_0 l0_0.length c0_0); have hfz9_0 := blk_frozen BK644.out 0))
   repeat (go_quiet (first | (go_at_call 22; (with_reducible refine (spec_IsSemigroup.calls k _ _ l0_0 true _ ?side1 ?side2 A5.out).mono ?_); (case side1 => exact co (Kd.C_below HR0_0.out HB.out)); (case side2 => exact HC0_0.out); rintro e w8 ⟨rfl, hb⟩; have n0_ := am (blk_below (g := gb644) (o := .cells #[.slice A0_0 l0_0.length c0_0] 26 (0, 0)) (bo BK644.out) hb); have n1_ := am (below_step bw hb); clear BK644; clear HB; have BK644 := n0_; have HB := n1_; clear n0_ n1_; (try clear hb); (try clear hb2); (try clear hk); (try clear hi); have hcz9_0 := bc BK644 0 (.slice A0_0 l0_0.length c0_0); have hfz9_0 := blk_frozen BK644.out 0)); try go_wp2_with (first | (go_at_call 22; (with_reducible refine (spec_IsSemigroup.calls k _ _ l0_0 true _ ?side1 ?side2 A5.out).mono ?_); (case side1 => exact co (Kd.C_below HR0_0.out HB.out)); (case side2 => exact HC0_0.out); rintro e w8 ⟨rfl, hb⟩; have n0_ := am (blk_below (g := gb644) (o := .cells #[.slice A0_0 l0_0.length c0_0] 26 (0, 0)) (bo BK644.out) hb); have n1_ := am (below_step bw hb); clear BK644; clear HB; have BK644 := n0_; have HB := n1_; clear n0_ n1_; (try clear hb); (try clear hb2); (try clear hk); (try clear hi); have hcz9_0 := bc BK644 0 (.slice A0_0 l0_0.length c0_0); have hfz9_0 := blk_frozen BK644.out 0)))
   go_meet
   case rel => exact ⟨_, (((l1.length : Int) != (l0_0.length : Int))), rr, H', ⟨om⟩, ⟨bo BK644.out⟩, ⟨bw⟩⟩
  have H' := am H
  clear H
  have hcz10_0 := bc BK644 0 (.slice A0_0 l0_0.length c0_0)
  have hfz10_0 := blk_frozen BK644.out 0
  go_wp2_with (first | (go_at_call 22; (with_reducible refine (spec_IsSemigroup.calls k _ _ l0_0 false _ ?side1 ?side2 A5.out).mono ?_); (case side1 => exact co (Kd.C_below HR0_0.out HB.out)); (case side2 => exact HC0_0.out); rintro e w11 ⟨rfl, hb⟩; replace BK644 := kb BK644 hb; replace HB := am (below_step bw hb); clear hb))
  repeat (go_quiet (first | (go_at_call 22; (with_reducible refine (spec_IsSemigroup.calls k _ _ l0_0 false _ ?side1 ?side2 A5.out).mono ?_); (case side1 => exact co (Kd.C_below HR0_0.out HB.out)); (case side2 => exact HC0_0.out); rintro e w11 ⟨rfl, hb⟩; have n0_ := am (blk_below (g := gb644) (o := .cells #[.slice A0_0 l0_0.length c0_0] 26 (0, 0)) (bo BK644.out) hb); have n1_ := am (below_step bw hb); clear BK644; clear HB; have BK644 := n0_; have HB := n1_; clear n0_ n1_; (try clear hb); (try clear hb2); (try clear hk); (try clear hi))); try go_wp2_with (first | (go_at_call 22; (with_reducible refine (spec_IsSemigroup.calls k _ _ l0_0 false _ ?side1 ?side2 A5.out).mono ?_); (case side1 => exact co (Kd.C_below HR0_0.out HB.out)); (case side2 => exact HC0_0.out); rintro e w11 ⟨rfl, hb⟩; have n0_ := am (blk_below (g := gb644) (o := .cells #[.slice A0_0 l0_0.length c0_0] 26 (0, 0)) (bo BK644.out) hb); have n1_ := am (below_step bw hb); clear BK644; clear HB; have BK644 := n0_; have HB := n1_; clear n0_ n1_; (try clear hb); (try clear hb2); (try clear hk); (try clear hi))))
  go_meet
  case rel => exact ⟨_, (true), rr, H', ⟨om⟩, ⟨bo BK644.out⟩, ⟨bw⟩⟩
 case rest =>
  clear HC3
  try clear c1; try clear hcz10_0; try clear hcz7_0; try clear hcz9_0; try clear hfz10_0; try clear hfz7_0; try clear hfz9_0
  obtain ⟨kq, x17_2, rfl, HA, HJ2, BK644, HB⟩ := hcut
  cases kq with
  | zero => exact absurd HA.out (by simp [spec_ValueOf.j0])
  | succ kj2 =>
   have H := HA.out
   clear HA
   simp only [spec_ValueOf.j0] at H
   replace H := gb H; obtain ⟨rfl, H⟩ | ⟨rfl, H⟩ := H
   ·obtain rfl := Option.some.inj H
    go_wp2
    repeat (go_quiet (fail); try go_wp2)
    go_ret
    exact ⟨re, bw⟩
   have H' := am H
   clear H
   go_wp2
   repeat (go_quiet (fail); try go_wp2)
   go_loopg [5, 6] kj2 (fun kq v5 v6 w' => ∃ (x5_2 : Int) (x6_2 : Int), v5 = .int .i64 x5_2 ∧ v6 = .int .i64 x6_2 ∧ Aside0 (spec_ValueOf.l0 kq l1 x5_2 x6_2 l0_0 = some r) ∧ Aside0 (kq ≤ kj2) ∧ Aside0 (w'.heap[gb644]? = some (.cells #[(.slice A0_0 l0_0.length c0_0)] 26 (0, 0))) ∧ Aside0 (Below w.heap.size w w'))
   case atStart => exact ⟨(0), (0), rr, rr, H', ⟨Nat.le_refl _⟩, ⟨bo BK644.out⟩, ⟨bw⟩⟩
   case round =>
    clear H'
    try clear c1; try clear hcz10_0; try clear hcz7_0; try clear hcz9_0; try clear hfz10_0; try clear hfz7_0; try clear hfz9_0
    obtain ⟨x5_2, x6_2, rfl, rfl, HA, HK2, BK644, HB⟩ := hrel
    cases gk with
    | zero => exact absurd HA.out (by simp [spec_ValueOf.l0])
    | succ k2 =>
     have H := HA.out
     clear HA
     simp only [spec_ValueOf.l0] at H
     replace H := gi H; obtain ⟨c13b0, H⟩ | ⟨c13b0, H⟩ := H
     ·replace H := gd H; obtain ⟨c14b0, H⟩ := H
      replace H := ga H; obtain ⟨t647, A15, H⟩ := H
      replace H := gb H; obtain ⟨rfl, H⟩ | ⟨rfl, H⟩ := H
      ·replace H := gd H; obtain ⟨c17b0, H⟩ := H
       have H' := am H
       clear H
       obtain ⟨⟨ad646, e646, hx646_0⟩, p646, q646⟩ := pq (Kd.at_int HR1.out x6_2)
       cases e646
       replace hx646_0 := hw HB hx646_0
       go_wp2_with (first | (go_at_call 33; (with_reducible refine (spec_l1In.calls (rd l1 x6_2) 0 1000000 true _ A15.out).mono ?_); rintro e w' ⟨rfl, ⟨nd, rfl⟩⟩; (try first | exact ⟨rfl, _, World.drewN_drewN _ _ _⟩ | exact ⟨rfl, _, Eq.trans (World.drewN_drewN _ _ _) (congrArg (World.drewN _) (Nat.add_assoc _ _ _))⟩); have p648 : 0 ≤ (x6_2 : Int) := of_decide_eq_true (by first | (with_reducible assumption) | assumption); have q648 : x6_2 < (l1.length : Int) := of_decide_eq_true (by first | (with_reducible assumption) | assumption); obtain ⟨ad648, e648, hx648_0⟩ := Kd.at_int HR1.out x6_2 p648 q648; obtain rfl : ad646 = ad648 := (by injection e648); replace hx648_0 := hw HB hx648_0; replace p648 := eq_true p648; replace q648 := eq_true q648; have hcz18_0 := bc BK644 0 (.slice A0_0 l0_0.length c0_0); have hfz18_0 := blk_frozen BK644.out 0; have p649 : 0 ≤ (x6_2 : Int) := of_decide_eq_true (by first | (with_reducible assumption) | assumption); have q649 : x6_2 < (l0_0.length : Int) := of_decide_eq_true (by first | (with_reducible assumption) | assumption); obtain ⟨ad649, e649, hx649_0⟩ := Kd.at_int HR0_0.out x6_2 p649 q649; cases e649; replace hx649_0 := hw HB hx649_0; replace p649 := eq_true p649; replace q649 := eq_true q649))
       repeat (go_quiet (first | (go_at_call 33; (with_reducible refine (spec_l1In.calls (rd l1 x6_2) 0 1000000 true _ A15.out).mono ?_); rintro e w' ⟨rfl, ⟨nd, rfl⟩⟩; (try first | exact ⟨rfl, _, World.drewN_drewN _ _ _⟩ | exact ⟨rfl, _, Eq.trans (World.drewN_drewN _ _ _) (congrArg (World.drewN _) (Nat.add_assoc _ _ _))⟩); have p648 : 0 ≤ (x6_2 : Int) := of_decide_eq_true (by first | (with_reducible assumption) | assumption); have q648 : x6_2 < (l1.length : Int) := of_decide_eq_true (by first | (with_reducible assumption) | assumption); obtain ⟨ad648, e648, hx648_0⟩ := Kd.at_int HR1.out x6_2 p648 q648; obtain rfl : ad646 = ad648 := (by injection e648); replace hx648_0 := hw HB hx648_0; replace p648 := eq_true p648; replace q648 := eq_true q648; have hcz18_0 := bc BK644 0 (.slice A0_0 l0_0.length c0_0); have hfz18_0 := blk_frozen BK644.out 0; have p649 : 0 ≤ (x6_2 : Int) := of_decide_eq_true (by first | (with_reducible assumption) | assumption); have q649 : x6_2 < (l0_0.length : Int) := of_decide_eq_true (by first | (with_reducible assumption) | assumption); obtain ⟨ad649, e649, hx649_0⟩ := Kd.at_int HR0_0.out x6_2 p649 q649; cases e649; replace hx649_0 := hw HB hx649_0; replace p649 := eq_true p649; replace q649 := eq_true q649)); try go_wp2_with (first | (go_at_call 33; (with_reducible refine (spec_l1In.calls (rd l1 x6_2) 0 1000000 true _ A15.out).mono ?_); rintro e w' ⟨rfl, ⟨nd, rfl⟩⟩; (try first | exact ⟨rfl, _, World.drewN_drewN _ _ _⟩ | exact ⟨rfl, _, Eq.trans (World.drewN_drewN _ _ _) (congrArg (World.drewN _) (Nat.add_assoc _ _ _))⟩); have p648 : 0 ≤ (x6_2 : Int) := of_decide_eq_true (by first | (with_reducible assumption) | assumption); have q648 : x6_2 < (l1.length : Int) := of_decide_eq_true (by first | (with_reducible assumption) | assumption); obtain ⟨ad648, e648, hx648_0⟩ := Kd.at_int HR1.out x6_2 p648 q648; obtain rfl : ad646 = ad648 := (by injection e648); replace hx648_0 := hw HB hx648_0; replace p648 := eq_true p648; replace q648 := eq_true q648; have hcz18_0 := bc BK644 0 (.slice A0_0 l0_0.length c0_0); have hfz18_0 := blk_frozen BK644.out 0; have p649 : 0 ≤ (x6_2 : Int) := of_decide_eq_true (by first | (with_reducible assumption) | assumption); have q649 : x6_2 < (l0_0.length : Int) := of_decide_eq_true (by first | (with_reducible assumption) | assumption); obtain ⟨ad649, e649, hx649_0⟩ := Kd.at_int HR0_0.out x6_2 p649 q649; cases e649; replace hx649_0 := hw HB hx649_0; replace p649 := eq_true p649; replace q649 := eq_true q649)))
       go_roundg k2
       case measure => have := HJ2.out; have := HK2.out; omega
       case rel => exact ⟨(wrap64 (x5_2 + (wrap64 ((rd l1 x6_2) * (rd l0_0 x6_2))))), (wrap64 (x6_2 + 1)), rr, rr, H', ⟨by have := HJ2.out; have := HK2.out; omega⟩, ⟨bo BK644.out⟩, ⟨bw⟩⟩
      obtain rfl := Option.some.inj H
      obtain ⟨⟨ad646, e646, hx646_0⟩, p646, q646⟩ := pq (Kd.at_int HR1.out x6_2)
      cases e646
      replace hx646_0 := hw HB hx646_0
      go_wp2_with (first | (go_at_call 33; (with_reducible refine (spec_l1In.calls (rd l1 x6_2) 0 1000000 false _ A15.out).mono ?_); rintro e w' ⟨rfl, ⟨nd, rfl⟩⟩; (try first | exact ⟨rfl, _, World.drewN_drewN _ _ _⟩ | exact ⟨rfl, _, Eq.trans (World.drewN_drewN _ _ _) (congrArg (World.drewN _) (Nat.add_assoc _ _ _))⟩)))
      repeat (go_quiet (first | (go_at_call 33; (with_reducible refine (spec_l1In.calls (rd l1 x6_2) 0 1000000 false _ A15.out).mono ?_); rintro e w' ⟨rfl, ⟨nd, rfl⟩⟩; (try first | exact ⟨rfl, _, World.drewN_drewN _ _ _⟩ | exact ⟨rfl, _, Eq.trans (World.drewN_drewN _ _ _) (congrArg (World.drewN _) (Nat.add_assoc _ _ _))⟩))); try go_wp2_with (first | (go_at_call 33; (with_reducible refine (spec_l1In.calls (rd l1 x6_2) 0 1000000 false _ A15.out).mono ?_); rintro e w' ⟨rfl, ⟨nd, rfl⟩⟩; (try first | exact ⟨rfl, _, World.drewN_drewN _ _ _⟩ | exact ⟨rfl, _, Eq.trans (World.drewN_drewN _ _ _) (congrArg (World.drewN _) (Nat.add_assoc _ _ _))⟩))))
      go_ret
      exact ⟨re, bw⟩
     obtain rfl := Option.some.inj H
     go_wp2
     repeat (go_quiet (fail); try go_wp2)
     go_ret
     exact ⟨re, bw⟩


/-! ### spec_IsFactorization: function 15 -/
def spec_IsFactorization.f (k : Nat) (l0_0 : List Int) (a1 : Int) (l2 : List Int) : Option (Bool) := if a1 ≥ 0 then ((spec_ValueOf.f k l0_0 l2).bind fun t651 => (some (t651 == a1))) else (some false)
set_option maxHeartbeats 8000000 in
set_option maxRecDepth 100000 in
theorem spec_IsFactorization.calls (k : Nat) (A0_0 : Option Addr) (c0_0 : Nat) (l0_0 : List Int) (a1 : Int) (A2 : Option Addr) (c2 : Nat) (l2 : List Int) (r : Bool) (w : World) (hr0_0 : Kd.C (Kd.int .i64) w A0_0 l0_0.length l0_0) (hc0_0 : l0_0.length ≤ c0_0) (hr2 : Kd.C (Kd.int .i64) w A2 l2.length l2) (hc2 : l2.length ≤ c2) (h : spec_IsFactorization.f k l0_0 a1 l2 = some r) :
  Calls Tryd.prog 15 #[.agg #[.slice A0_0 l0_0.length c0_0], .int .i64 a1, .slice A2 l2.length c2] w fun e w' => e = .returned (.bool r) ∧ Below w.heap.size w w' := by
 have hu26 := Tryd.underlying26
 have HR0_0 := am hr0_0
 have HC0_0 := am hc0_0
 clear hr0_0 hc0_0
 have HR2 := am hr2
 have HC2 := am hc2
 clear hr2 hc2
 have HB := am (Below.refl w.heap.size w)
 have H : (if a1 ≥ 0 then ((spec_ValueOf.f k l0_0 l2).bind fun t651 => (some (t651 == a1))) else (some false)) = some r := h
 clear h
 replace H := gj H; obtain ⟨c4, H⟩ | ⟨c4, H⟩ := H
 ·have c4b0 : decide (0 ≤ a1) = true := decide_eq_true c4
  clear c4
  replace H := ga H; obtain ⟨t651, A5, H⟩ := H
  obtain rfl := Option.some.inj H
  go_enter Tryd.func15, Tryd.ntmps15
  go_wp2_with (first | ((with_reducible refine gate_dst (N := 3) rfl ?_); refine bx 3 #[.slice A0_0 l0_0.length c0_0] 26 ?_; intro gb650 hg w6 hbox hb; have BK650 := am (hbox); have GW650 := am (gs hg : w.heap.size ≤ gb650); have GE650 := GW650; replace HB := am (below_step bw hb); clear hb hbox hg; have hcz7_0 := bc BK650 0 (.slice A0_0 l0_0.length c0_0); have hfz7_0 := blk_frozen BK650.out 0) | (go_at_call 17; (with_reducible refine (spec_ValueOf.calls k _ _ l0_0 _ _ l2 t651 _ ?side1 ?side2 ?side3 ?side4 A5.out).mono ?_); (case side1 => exact co (Kd.C_below HR0_0.out HB.out)); (case side2 => exact HC0_0.out); (case side3 => exact co (Kd.C_below HR2.out HB.out)); (case side4 => exact HC2.out); rintro e w8 ⟨rfl, hb⟩; replace BK650 := kb BK650 hb; replace HB := am (below_step bw hb); clear hb))
  go_ret
  exact ⟨re, bw⟩
 have c4b0 : decide (0 ≤ a1) = false := decide_eq_false c4
 clear c4
 obtain rfl := Option.some.inj H
 go_enter Tryd.func15, Tryd.ntmps15
 go_wp2_with (first | ((with_reducible refine gate_dst (N := 3) rfl ?_); refine bx 3 #[.slice A0_0 l0_0.length c0_0] 26 ?_; intro gb650 hg w9 hbox hb; have BK650 := am (hbox); have GW650 := am (gs hg : w.heap.size ≤ gb650); have GE650 := GW650; replace HB := am (below_step bw hb); clear hb hbox hg))
 go_ret
 exact ⟨re, bw⟩


/-! ### impl_FormatInt: function 36 -/
abbrev Tab10 (w : World) : Prop := Lib.TabIs Tryd.prog w "internal/strconv.uint64pow10" .u64 Lib.pow10Tab
theorem Tab10.below {w w' : World} (h : Tab10 w) (hb : Below w.heap.size w w') : Tab10 w' := by
 unfold Tab10 Lib.TabIs World.var? at h ⊢
 rcases hg : Tryd.prog.globalNamed "internal/strconv.uint64pow10" with _ | g
 ·(try rw [hg] at h)
  cases h
 (try rw [hg] at h)
 (try rw [hg])
 simp only [Option.bind_some] at h ⊢
 have hlt : g < w.heap.size := by
  rcases Nat.lt_or_ge g w.heap.size with h' | h'
  ·exact h'
  ·rw [Array.getElem?_eq_none h'] at h; cases h
 rw [hb.block g hlt]
 exact h
def impl_FormatInt.f (a0 : Int) : Option ByteArray := if -9223372036854775808 ≤ a0 then (if a0 ≤ 9223372036854775807 then some ⟨(Lib.itoa a0).toArray⟩ else none) else none
set_option maxHeartbeats 8000000 in
set_option maxRecDepth 100000 in
theorem impl_FormatInt.calls (a0 : Int) (r : ByteArray) (w : World) (h : impl_FormatInt.f a0 = some r) (htab : Tab10 w) :
  Calls Tryd.prog 36 #[.int .i64 a0] w fun e w' => e = .returned (.string r) ∧ Below w.heap.size w w' := by
 have H : impl_FormatInt.f a0 = some r := h
 unfold impl_FormatInt.f at H
 replace H := gp H; obtain ⟨h0, H⟩ := H
 replace H := gp H; obtain ⟨h1, H⟩ := H
 obtain rfl := Option.some.inj H
 clear H h
 go_enter Tryd.func36, Tryd.ntmps36
 go_wp2_with (first | ((with_reducible refine gate_callee (f := 54) rfl ?_); refine gl (some 4) Tryd.func54 #[.int .i64 a0] ?_; (refine Calls.mono (Tryd.strconv_Itoa a0 h0 h1 w htab) ?_); rintro e w1 ⟨rfl, k_, os_, rfl⟩; refine ⟨_, rfl, ?_⟩))
 go_ret
 exact ⟨rfl, Go.Lib.below_grow _ _ (Nat.le_refl _) _ _⟩


/-! ### impl_Join: function 37 -/
def impl_Join.f (l0 : List ByteArray) (a1 : ByteArray) : Option ByteArray := if l0.length ≤ 140737488355328 then (if (Lib.join (l0.map (·.data.toList)) a1.data.toList).length ≤ 140737488355328 then some ⟨(Lib.join (l0.map (·.data.toList)) a1.data.toList).toArray⟩ else none) else none
theorem impl_Join.strings (A0 : Option Addr) (c0 : Nat) (l0 : List ByteArray) (a1 : ByteArray) (r : ByteArray) (w : World) (hr0 : Kd.C Kd.string w A0 l0.length l0) (hc0 : l0.length ≤ c0) (h : impl_Join.f l0 a1 = some r) :
  Calls Tryd.prog 55 #[.slice A0 l0.length c0, .string a1] w fun e w' => e = .returned (.string r) ∧ Below w.heap.size w w' := by
 unfold impl_Join.f at h
 replace h := gp h; obtain ⟨h0, h⟩ := h
 replace h := gp h; obtain ⟨h1, h⟩ := h
 obtain rfl := Option.some.inj h
 rcases Nat.eq_zero_or_pos l0.length with e0 | hp
 ·have e1 : l0 = [] := List.eq_nil_of_length_eq_zero e0
  subst e1
  refine (Tryd.strings_Join_none A0 c0 a1 w).mono ?_
  rintro e w' ⟨rfl, rfl⟩
  exact ⟨rfl, Below.refl _ _⟩
 ·obtain ⟨ad, rfl, hc⟩ := hr0.2.2 hp
  obtain ⟨b, off, sp⟩ := ad
  have hcell : ∀ (j : Nat) x, l0[j]? = some x → w.cell? (Addr.add ⟨b, off, sp⟩ j) = some (.string x) := fun j x hj => by
   obtain ⟨c, _, e2, h2⟩ := hc j x hj
   have := h2 0 (.string x) (by rw [show c = [.string x] from e2]; rfl)
   rwa [show Kd.string.sz = 1 from rfl, Nat.mul_one, Nat.add_zero] at this
  have h00 := hcell 0 _ (List.getElem?_eq_getElem hp)
  have hsp : sp = none := by
   have h1 := h00
   rw [Addr.add, if_pos rfl] at h1
   cases sp with
   | none => rfl
   | some x =>
    unfold World.cell? at h1
    simp only [Option.isSome_some, if_true] at h1
    split at h1 <;> cases h1
  subst hsp
  have hadd : ∀ j : Nat, (Addr.add ⟨b, off, none⟩ j) = ⟨b, off + j, none⟩ := fun j => by
   rw [Addr.add]
   split
   ·rename_i hz
    subst hz
    rfl
   ·rfl
  refine Tryd.strings_Join b off c0 l0 a1 w (fun j x hj => ?_) ?_ h0 hc0 h1
  ·have := hcell j x hj
   rwa [hadd] at this
  ·rw [hadd] at h00
   exact World.block_lt_of_cell? w _ h00
set_option maxHeartbeats 8000000 in
set_option maxRecDepth 100000 in
theorem impl_Join.calls (A0 : Option Addr) (c0 : Nat) (l0 : List ByteArray) (a1 : ByteArray) (r : ByteArray) (w : World) (hr0 : Kd.C Kd.string w A0 l0.length l0) (hc0 : l0.length ≤ c0) (h : impl_Join.f l0 a1 = some r) :
  Calls Tryd.prog 37 #[.slice A0 l0.length c0, .string a1] w fun e w' => e = .returned (.string r) ∧ Below w.heap.size w w' := by
 have hJ := impl_Join.strings A0 c0 l0 a1 r w hr0 hc0 h
 clear h
 go_enter Tryd.func37, Tryd.ntmps37
 go_wp2_with (first | ((with_reducible refine gate_callee (f := 55) rfl ?_); refine gl (some 7) Tryd.func55 #[.slice A0 l0.length c0, .string a1] ?_; (refine Calls.mono hJ ?_); rintro e w1 ⟨rfl, hb⟩; refine ⟨_, rfl, ?_⟩))
 go_ret
 exact ⟨rfl, hb⟩


/-! ### impl_FactorText: function 18 -/
def impl_FactorText.l0 : Nat → List ByteArray → List Int → Int → Int → List Int → Option (ByteArray)
 | 0, _, _, _, _, _ => none
 | k + 1, x5, x13, x14, x15, x673000 => if x15 < x14 then (if 0 ≤ x15 then (if x15 < (x13.length : Int) then (if (rd x13 x15) = 0 then (impl_FactorText.l0 k x5 x13 x14 (wrap64 (x15 + 1)) x673000) else ((impl_FormatInt.f (rd x13 x15)).bind fun t679 => (if t679.size + 1 ≤ 9223372036854775807 then (if x15 < (x673000.length : Int) then ((impl_FormatInt.f (rd x673000 x15)).bind fun t681 => (if (t679 ++ (⟨#[42]⟩ : ByteArray)).size + t681.size ≤ 9223372036854775807 then (if x5.length < 8796093022208 then (impl_FactorText.l0 k (x5 ++ [(t679 ++ (⟨#[42]⟩ : ByteArray)) ++ t681]) x13 x14 (wrap64 (x15 + 1)) x673000) else (none)) else (none))) else (none)) else (none)))) else (none)) else (none)) else (if (x5.length : Int) = 0 then (some (⟨#[48]⟩ : ByteArray)) else ((impl_Join.f x5 (⟨#[43]⟩ : ByteArray)).bind fun t677 => (some t677)))
def impl_FactorText.f (k : Nat) (l0_0 : List Int) (l1 : List Int) : Option (ByteArray) := (impl_ValueOf.f k l0_0 l1).bind fun t673 => (if t673 < 0 then (some (⟨#[]⟩ : ByteArray)) else (impl_FactorText.l0 k (([] : List ByteArray)) l1 (l1.length : Int) 0 l0_0))
def impl_FactorText.T8 : Bool × List (List Nat × List Nat) := (true, [([], []), ([], []), ([1], [1]), ([2], [2]), ([], []), ([4], [4]), ([], []), ([5, 6], [5, 6]), ([7], [7]), ([8, 2], [8]), ([3, 9], [3, 9]), ([10], [10]), ([0, 11, 9], [0, 11]), ([12, 12, 0, 1, 2, 3, 4, 5, 6, 7, 8, 9, 10, 11, 12], [0, 12])])
def impl_FactorText.B8 : List Nat := [0, 0, 2, 6, 0, 16, 0, 112, 240, 502, 1022, 2046, 4095, 8191]
theorem impl_FactorText.tab8 : rtab .any (opsOf Tryd.f18 8) = impl_FactorText.T8 := by kernel_rfl
theorem impl_FactorText.bits8 : waitsOk impl_FactorText.T8.2 impl_FactorText.B8 = true := by kernel_rfl
set_option maxHeartbeats 8000000 in
set_option maxRecDepth 100000 in
theorem impl_FactorText.calls (k : Nat) (A0_0 : Option Addr) (c0_0 : Nat) (l0_0 : List Int) (A1 : Option Addr) (c1 : Nat) (l1 : List Int) (r : ByteArray) (w : World) (hr0_0 : Kd.C (Kd.int .i64) w A0_0 l0_0.length l0_0) (hc0_0 : l0_0.length ≤ c0_0) (hr1 : Kd.C (Kd.int .i64) w A1 l1.length l1) (hc1 : l1.length ≤ c1) (h : impl_FactorText.f k l0_0 l1 = some r) (htab : Tab10 w) :
  Calls Tryd.prog 18 #[.agg #[.slice A0_0 l0_0.length c0_0], .slice A1 l1.length c1] w fun e w' => e = .returned (.string r) ∧ Below w.heap.size w w' := by
 have hu26 := Tryd.underlying26
 have HR0_0 := am hr0_0
 have HC0_0 := am hc0_0
 clear hr0_0 hc0_0
 have HR1 := am hr1
 have HC1 := am hc1
 clear hr1 hc1
 have HB := am (Below.refl w.heap.size w)
 have H : ((impl_ValueOf.f k l0_0 l1).bind fun t673 => (if t673 < 0 then (some (⟨#[]⟩ : ByteArray)) else (impl_FactorText.l0 k (([] : List ByteArray)) l1 (l1.length : Int) 0 l0_0))) = some r := h
 clear h
 replace H := ga H; obtain ⟨t673, A3, H⟩ := H
 replace H := gi H; obtain ⟨c4b0, H⟩ | ⟨c4b0, H⟩ := H
 ·obtain rfl := Option.some.inj H
  go_enter Tryd.func18, Tryd.ntmps18
  go_wp2_with (first | ((with_reducible refine gate_dst (N := 2) rfl ?_); refine bx 2 #[.slice A0_0 l0_0.length c0_0] 26 ?_; intro gb672 hg w5 hbox hb; have BK672 := am (hbox); have GW672 := am (gs hg : w.heap.size ≤ gb672); have GE672 := GW672; replace HB := am (below_step bw hb); clear hb hbox hg; have hcz6_0 := bc BK672 0 (.slice A0_0 l0_0.length c0_0); have hfz6_0 := blk_frozen BK672.out 0) | ((with_reducible refine gate_callee (f := 16) rfl ?_); refine goesL_ (some 10) rfl rfl Tryd.func16 (by kernel_rfl) rfl #[.agg #[.slice A0_0 l0_0.length c0_0], .slice A1 l1.length c1] rfl (by (try simp only [List.map_toArray, List.map_cons, List.map_nil]); first | done | rfl | (simp only [List.length_drop, List.length_take]; rfl)) ?_; (with_reducible refine (impl_ValueOf.calls k _ _ l0_0 _ _ l1 t673 _ ?side1 ?side2 ?side3 ?side4 A3.out).mono ?_); (case side1 => exact co (Kd.C_below HR0_0.out HB.out)); (case side2 => exact HC0_0.out); (case side3 => exact co (Kd.C_below HR1.out HB.out)); (case side4 => exact HC1.out); rintro e w7 ⟨rfl, hb⟩; refine ⟨_, rfl, ?_⟩; replace BK672 := kb BK672 hb; replace HB := am (below_step bw hb); clear hb))
  go_ret
  exact ⟨re, bw⟩
 obtain ⟨y674, hy674⟩ : ∃ y_ : List ByteArray, y_ = (([] : List ByteArray)) := ⟨_, rfl⟩
 replace H : (impl_FactorText.l0 k y674 l1 (l1.length : Int) 0 l0_0) = some r := by first | (rw [hy674]; with_reducible first | exact H | exact bs H) | (with_reducible first | exact bs H | exact H) | (rw [hy674]; exact H) | exact H
 have Ny674 := am hy674
 clear hy674
 have H' := am H
 clear H
 go_enter Tryd.func18, Tryd.ntmps18
 go_wp2_with (first | ((with_reducible refine gate_dst (N := 2) rfl ?_); refine bx 2 #[.slice A0_0 l0_0.length c0_0] 26 ?_; intro gb672 hg w8 hbox hb; have BK672 := am (hbox); have GW672 := am (gs hg : w.heap.size ≤ gb672); have GE672 := GW672; replace HB := am (below_step bw hb); clear hb hbox hg; have hcz9_0 := bc BK672 0 (.slice A0_0 l0_0.length c0_0); have hfz9_0 := blk_frozen BK672.out 0) | ((with_reducible refine gate_callee (f := 16) rfl ?_); refine goesL_ (some 10) rfl rfl Tryd.func16 (by kernel_rfl) rfl #[.agg #[.slice A0_0 l0_0.length c0_0], .slice A1 l1.length c1] rfl (by (try simp only [List.map_toArray, List.map_cons, List.map_nil]); first | done | rfl | (simp only [List.length_drop, List.length_take]; rfl)) ?_; (with_reducible refine (impl_ValueOf.calls k _ _ l0_0 _ _ l1 t673 _ ?side1 ?side2 ?side3 ?side4 A3.out).mono ?_); (case side1 => exact co (Kd.C_below HR0_0.out HB.out)); (case side2 => exact HC0_0.out); (case side3 => exact co (Kd.C_below HR1.out HB.out)); (case side4 => exact HC1.out); rintro e w10 ⟨rfl, hb⟩; refine ⟨_, rfl, ?_⟩; replace BK672 := kb BK672 hb; replace HB := am (below_step bw hb); clear hb) | ((with_reducible refine gate_dst (N := 12) rfl ?_); refine Kd.R_lit Kd.string _ 9 ?hg (N := 12) ?hd (xs := ([] : List ByteArray)) (inner := []) (ok := fun _ => True) (okp := fun _ => True) ?hr ?hp (fun _ hk => hk) trivial (Below.refl _ _) (Nat.le_refl _) (by simp) ?_; (case hd => rfl); (case hg => rfl); (case hr => first | (go_simp; done) | (go_simp; rfl)); (case hp => exact (Reps.none _ _)); intro v675 w11 ho12 hb hg_ hnew_; clear hg_ hnew_; (first | rw [← Ny674.out] at ho12 | (simp only [Int.reduceToNat] at ho12; rw [← Ny674.out] at ho12)); have HO676 := am (Kd.R_lower ho12 (below_size bw)); replace BK672 := kb BK672 hb; replace HB := am (below_step bw hb); clear hb ho12))
 go_loopg [5, 15] k (fun kq v5 v15 w' => ∃ (x5_1 : List ByteArray) (x15_1 : Int), v15 = .int .i64 x15_1 ∧ Aside0 (impl_FactorText.l0 kq x5_1 l1 (l1.length : Int) x15_1 l0_0 = some r) ∧ Aside0 (kq ≤ k) ∧ Aside0 (Kd.R Kd.string 9 w' w.heap.size (fun _ => True) v5 x5_1) ∧ Aside0 (w'.heap[gb672]? = some (.cells #[(.slice A0_0 l0_0.length c0_0)] 26 (0, 0))) ∧ Aside0 (Below w.heap.size w w'))
 case atStart => exact ⟨(y674), (0), rr, H', ⟨Nat.le_refl _⟩, ⟨ro HO676.out⟩, ⟨bo BK672.out⟩, ⟨bw⟩⟩
 case round =>
  clear H'
  try clear c1; try clear c4b0; try clear hcz6_0; try clear hcz9_0; try clear hfz6_0; try clear hfz9_0
  obtain ⟨x5_1, x15_1, rfl, HA, HK1, HO_5, BK672, HB⟩ := hrel
  cases gk with
  | zero => exact absurd HA.out (by simp [impl_FactorText.l0])
  | succ k1 =>
   have H := HA.out
   clear HA
   simp only [impl_FactorText.l0] at H
   replace H := gi H; obtain ⟨c13b0, H⟩ | ⟨c13b0, H⟩ := H
   ·replace H := gd H; obtain ⟨c14b0, H⟩ := H
    replace H := gd H; obtain ⟨c15b0, H⟩ := H
    by_cases c16 : (rd l1 x15_1) = 0
    ·rw [if_pos c16] at H
     have c16b0 : ((rd l1 x15_1) == 0) = true := beq_iff_eq.mpr c16
     have c16b1 : ((rd l1 x15_1) != 0) = false := bne_eq_false_iff_eq.mpr c16
     clear c16
     have H' := am H
     clear H
     obtain ⟨⟨ad678, e678, hx678_0⟩, p678, q678⟩ := pq (Kd.at_int HR1.out x15_1)
     cases e678
     replace hx678_0 := hw HB hx678_0
     go_wp2
     go_roundg k1
     case measure => have := HK1.out; omega
     case rel => exact ⟨(x5_1), (wrap64 (x15_1 + 1)), rr, H', ⟨by have := HK1.out; omega⟩, ⟨ro HO_5.out⟩, ⟨bo BK672.out⟩, ⟨bw⟩⟩
    rw [if_neg c16] at H
    have c16b0 : ((rd l1 x15_1) == 0) = false := beq_eq_false_iff_ne.mpr c16
    have c16b1 : ((rd l1 x15_1) != 0) = true := bne_iff_ne.mpr c16
    replace H := ga H; obtain ⟨t679, A17, H⟩ := H
    by_cases c18 : t679.size + 1 ≤ 9223372036854775807
    rotate_left
    ·rw [if_neg c18] at H
     exact absurd H (by simp)
    rw [if_pos c18] at H
    have c18b0 := eq_true c18
    have c18b1 : decide (t679.size + 1 ≤ 9223372036854775807) = true := decide_eq_true c18
    try have c18b2 : (9223372036854775807 < t679.size + 1) = False := eq_false (Nat.not_lt.2 c18)
    replace H := gd H; obtain ⟨c19b0, H⟩ := H
    replace H := ga H; obtain ⟨t681, A20, H⟩ := H
    by_cases c21 : (t679 ++ (⟨#[42]⟩ : ByteArray)).size + t681.size ≤ 9223372036854775807
    rotate_left
    ·rw [if_neg c21] at H
     exact absurd H (by simp)
    rw [if_pos c21] at H
    have c21b7 : t679.size + 1 + t681.size ≤ 9223372036854775807 := by have q_ := c21; rw [ByteArray.size_append] at q_; exact q_
    have c21b0 := eq_true c21
    have c21b1 : decide ((t679 ++ (⟨#[42]⟩ : ByteArray)).size + t681.size ≤ 9223372036854775807) = true := decide_eq_true c21
    try have c21b2 : (9223372036854775807 < (t679 ++ (⟨#[42]⟩ : ByteArray)).size + t681.size) = False := eq_false (Nat.not_lt.2 c21)
    by_cases c22 : x5_1.length < 8796093022208
    rotate_left
    ·rw [if_neg c22] at H
     exact absurd H (by simp)
    rw [if_pos c22] at H
    have LMc22 := am c22
    clear c22
    obtain ⟨y682, hy682⟩ : ∃ y_ : List ByteArray, y_ = (x5_1 ++ [(t679 ++ (⟨#[42]⟩ : ByteArray)) ++ t681]) := ⟨_, rfl⟩
    replace H : (impl_FactorText.l0 k1 y682 l1 (l1.length : Int) (wrap64 (x15_1 + 1)) l0_0) = some r := by first | (rw [hy682]; with_reducible first | exact H | exact bs H) | (with_reducible first | exact bs H | exact H) | (rw [hy682]; exact H) | exact H
    have Ny682 := am hy682
    clear hy682
    have H' := am H
    clear H
    obtain ⟨⟨ad678, e678, hx678_0⟩, p678, q678⟩ := pq (Kd.at_int HR1.out x15_1)
    cases e678
    replace hx678_0 := hw HB hx678_0
    try go_wp2
    replace HO_5 := am (Kd.R_drew HO_5.out)
    replace BK672 := bd BK672
    replace HB := am (below_drew1 HB.out)
    obtain ⟨⟨ad680, e680, hx680_0⟩, p680, q680⟩ := pq (Kd.at_int HR0_0.out x15_1)
    have hw680_0 := hx680_0
    cases e680
    replace hx680_0 := hw HB hx680_0
    refine start_ (n := 14) (S := fun w' => w'.cell? ⟨gb672, 0, none⟩ = some (.slice (some ad680) l0_0.length c0_0) ∧ w'.cell? (ad680.add (x15_1).toNat) = some (.int .i64 (rd l0_0 x15_1))) (ds := []) (yz 14 0) (by kernel_rfl) rfl rfl ⟨bc BK672 0 _, ((HB.out.cell (World.block_lt_of_cell? w _ hw680_0)).trans hw680_0)⟩ (fun hHeld => ?_); refine with_tabW impl_FactorText.tab8 impl_FactorText.bits8 (fun HT_ HW_ => ?_)
    generalize wr.drew = w23 at HO_5 BK672 HB hx680_0 hHeld ⊢
    refine pa 0 (some 22) (yz 14 1) HT_ ?_
    refine pa 1 (some 23) (yz 14 3) HT_ ?_
    refine pa 4 (some 26) (yz 14 19) HT_ ?_
    refine pa 6 (some 28) (yz 14 83) HT_ ?_
    refine tk 5 (some 27) (yz 14 115) HT_ HW_ hHeld ?_
    refine pa 7 (some 29) (yz 14 243) HT_ ?_
    refine tk 8 (some 30) (yz 14 499) HT_ HW_ hHeld ?_
    refine oa 2 (some 24) (yz 14 503) HT_ (fun K hK => ?_)
    refine goes_ Tryd.func36 (by kernel_rfl) rfl #[.int .i64 (rd l1 x15_1)] (by rfl) rfl rfl (by (try simp only [List.map_toArray, List.map_cons, List.map_nil]); first | done | rfl | (simp only [List.length_drop, List.length_take]; rfl)) ?_
    with_reducible refine (impl_FormatInt.calls (rd l1 x15_1) t679 _ A17.out (htab.below bw)).mono ?_
    rintro e w24 ⟨rfl, hb⟩
    refine ⟨_, rfl, ?_⟩
    replace HO_5 := rK HO_5 hb
    replace BK672 := kb BK672 hb
    replace HB := am (below_step bw hb)
    clear hb
    refine hK.out _ _ ⟨bc BK672 0 _, ((HB.out.cell (World.block_lt_of_cell? w _ hw680_0)).trans hw680_0)⟩ (fun hHeld => ?_)
    clear hK K
    refine nm (some 24) ?_
    refine pa 3 (some 25) (yz 14 511) HT_ ?_
    refine oa 9 (some 31) (yz 14 1023) HT_ (fun K hK => ?_)
    refine goes_ Tryd.func36 (by kernel_rfl) rfl #[.int .i64 (rd l0_0 x15_1)] (by rfl) rfl rfl (by (try simp only [List.map_toArray, List.map_cons, List.map_nil]); first | done | rfl | (simp only [List.length_drop, List.length_take]; rfl)) ?_
    with_reducible refine (impl_FormatInt.calls (rd l0_0 x15_1) t681 _ A20.out (htab.below bw)).mono ?_
    rintro e w25 ⟨rfl, hb⟩
    refine ⟨_, rfl, ?_⟩
    replace HO_5 := rK HO_5 hb
    replace BK672 := kb BK672 hb
    replace HB := am (below_step bw hb)
    clear hb
    refine hK.out _ _ ⟨bc BK672 0 _, ((HB.out.cell (World.block_lt_of_cell? w _ hw680_0)).trans hw680_0)⟩ (fun hHeld => ?_)
    clear hK K
    refine nm (some 31) ?_
    refine pa 10 (some 32) (yz 14 2047) HT_ ?_
    refine oa 11 (some 33) (yz 14 4095) HT_ (fun K hK => ?_)
    refine value_ (w1 := ?_) (v := ?_) (by rfl) rfl ?_ ?_
    rotate_left 2
    ·go_simp
     constructor
     ·rfl
     rfl
    refine hK.out _ _ ⟨(blk_cell (blk_alloc BK672.out _) 0).trans rfl, (World.cell?_alloc_lt _ _ _ (World.block_lt_of_cell? _ _ (((HB.out.cell (World.block_lt_of_cell? w _ hw680_0)).trans hw680_0)))).trans (((HB.out.cell (World.block_lt_of_cell? w _ hw680_0)).trans hw680_0))⟩ (fun hHeld => ?_)
    clear hK K
    refine nm (some 33) ?_
    refine oa 12 (some 34) (yz 14 8191) HT_ (fun K hK => ?_)
    refine Kd.R_append_step Kd.string (w0 := w) w.heap.size (by rfl) (.tmp 22) (.tmp 33) 53 9 (.string ⟨#[]⟩) 16 rfl Tryd.underlying53 info9 rfl (by decide) (by omega) u5 x5_1 ((t679 ++ (⟨#[42]⟩ : ByteArray)) ++ t681) [.string ((t679 ++ (⟨#[42]⟩ : ByteArray)) ++ t681)] (fun _ => True) (fun _ => False) rfl rfl ?aP (fun _ hk => hk.elim) ?aF ?aO ?aB ?aS ?aL ?_
    (case aP => exact rfl)
    (case aB => exact bw)
    (case aF => exact (fun _ _ => trivial))
    (case aO => exact (ro HO_5.out))
    (case aS => exact (below_size bw))
    (case aL => have := LMc22.out; omega)
    intro v683 w26 ho hb hg hat
    rw [← Ny682.out] at ho
    replace BK672 := am (blk_grown (g := gb672) (o := .cells #[.slice (some ad680) l0_0.length c0_0] 26 (0, 0)) (bo BK672.out) hg (Kd.R_ne HO_5.out BK672.out (by decide)))
    replace HB := am (hb)
    have HO684 := am (ho)
    clear HO_5 ho hb hg hat
    refine hK.out _ _ ⟨bc BK672 0 _, ((HB.out.cell (World.block_lt_of_cell? w _ hw680_0)).trans hw680_0)⟩ (fun hHeld => ?_)
    clear hK K
    refine nm (some 34) ?_
    refine pa 13 (some 5) (yz 14 16383) HT_ ?_
    refine done_ (done_of HT_.out (by kernel_rfl)) ?_
    try go_wp2
    go_roundg k1
    case measure => have := HK1.out; omega
    case rel => exact ⟨(y682), (wrap64 (x15_1 + 1)), rr, H', ⟨by have := HK1.out; omega⟩, ⟨ro HO684.out⟩, ⟨bo BK672.out⟩, ⟨bw⟩⟩
   by_cases c27 : (x5_1.length : Int) = 0
   ·rw [if_pos c27] at H
    have c27b0 : ((x5_1.length : Int) == 0) = true := beq_iff_eq.mpr c27
    have c27b1 : ((x5_1.length : Int) != 0) = false := bne_eq_false_iff_eq.mpr c27
    clear c27
    obtain rfl := Option.some.inj H
    obtain ⟨Ao28, co28, eo28⟩ := Kd.R_slice HO_5.out
    subst eo28
    go_wp2
    go_ret
    exact ⟨re, bw⟩
   rw [if_neg c27] at H
   have c27b0 : ((x5_1.length : Int) == 0) = false := beq_eq_false_iff_ne.mpr c27
   have c27b1 : ((x5_1.length : Int) != 0) = true := bne_iff_ne.mpr c27
   have c27b2 : ¬ (x5_1 = []) := fun h_ => c27 (by rw [h_]; rfl)
   replace H := ga H; obtain ⟨t677, A29, H⟩ := H
   obtain rfl := Option.some.inj H
   obtain ⟨Ao30, co30, eo30⟩ := Kd.R_slice HO_5.out
   subst eo30
   go_wp2_with (first | ((with_reducible refine gate_callee (f := 37) rfl ?_); refine goesL_ (some 40) rfl rfl Tryd.func37 (by kernel_rfl) rfl #[.slice Ao30 x5_1.length co30, .string (⟨#[43]⟩ : ByteArray)] rfl (by (try simp only [List.map_toArray, List.map_cons, List.map_nil]); first | done | rfl | (simp only [List.length_drop, List.length_take]; rfl)) ?_; (with_reducible refine (impl_Join.calls _ _ x5_1 (⟨#[43]⟩ : ByteArray) t677 _ ?side1 ?side2 A29.out).mono ?_); (case side1 => exact co (Kd.R_reads' HO_5.out).2.2); (case side2 => exact (Kd.R_reads' HO_5.out).2.1); rintro e w31 ⟨rfl, hb⟩; refine ⟨_, rfl, ?_⟩; replace HO_5 := rK HO_5 hb; replace BK672 := kb BK672 hb; replace HB := am (below_step bw hb); clear hb))
   go_ret
   exact ⟨re, bw⟩


/-! ### spec_FormatInt: function 38 -/
def spec_FormatInt.l0 : Nat → Int → Bool → ByteArray → Option (ByteArray)
 | 0, _, _, _ => none
 | k + 1, x0, x3, x4 => if x0 = 0 then (if x3 = true then (if 1 + x4.size ≤ 9223372036854775807 then (some ((⟨#[45]⟩ : ByteArray) ++ x4)) else (none)) else (some x4)) else (if (Int.tmod x0 10) < 0 then ((some (([(wrap64 (48 + (wrap64 (-(Int.tmod x0 10))))) % 256] : List Int) : List Int)).bind fun y685 => (if (strOfNums y685).size + x4.size ≤ 9223372036854775807 then (spec_FormatInt.l0 k (wrap64 (Int.tdiv x0 10)) x3 ((strOfNums y685) ++ x4)) else (none))) else ((some (([(wrap64 (48 + (Int.tmod x0 10))) % 256] : List Int) : List Int)).bind fun y688 => (if (strOfNums y688).size + x4.size ≤ 9223372036854775807 then (spec_FormatInt.l0 k (wrap64 (Int.tdiv x0 10)) x3 ((strOfNums y688) ++ x4)) else (none))))
def spec_FormatInt.f (k : Nat) (a0 : Int) : Option (ByteArray) := if a0 = 0 then (some (⟨#[48]⟩ : ByteArray)) else (spec_FormatInt.l0 k a0 (decide (a0 < 0)) (⟨#[]⟩ : ByteArray))
set_option maxHeartbeats 8000000 in
set_option maxRecDepth 100000 in
theorem spec_FormatInt.calls (k : Nat) (a0 : Int) (r : ByteArray) (w : World) (h : spec_FormatInt.f k a0 = some r) :
  Calls Tryd.prog 38 #[.int .i64 a0] w fun e w' => e = .returned (.string r) ∧ Below w.heap.size w w' := by
 have HB := am (Below.refl w.heap.size w)
 have H : (if a0 = 0 then (some (⟨#[48]⟩ : ByteArray)) else (spec_FormatInt.l0 k a0 (decide (a0 < 0)) (⟨#[]⟩ : ByteArray))) = some r := h
 clear h
 by_cases c2 : a0 = 0
 ·rw [if_pos c2] at H
  have c2b0 : (a0 == 0) = true := beq_iff_eq.mpr c2
  have c2b1 : (a0 != 0) = false := bne_eq_false_iff_eq.mpr c2
  clear c2
  obtain rfl := Option.some.inj H
  go_enter Tryd.func38, Tryd.ntmps38
  go_wp2
  go_ret
  exact ⟨re, bw⟩
 rw [if_neg c2] at H
 have c2b0 : (a0 == 0) = false := beq_eq_false_iff_ne.mpr c2
 have c2b1 : (a0 != 0) = true := bne_iff_ne.mpr c2
 have H' := am H
 clear H
 go_enter Tryd.func38, Tryd.ntmps38
 go_wp2
 go_loopg [0, 4] k (fun kq v0 v4 w' => ∃ (x0_1 : Int) (x4_1 : ByteArray), v0 = .int .i64 x0_1 ∧ v4 = .string x4_1 ∧ Aside0 (spec_FormatInt.l0 kq x0_1 (decide (a0 < 0)) x4_1 = some r) ∧ Aside0 (kq ≤ k) ∧ Aside0 (Below w.heap.size w w'))
 case atStart => exact ⟨(a0), ((⟨#[]⟩ : ByteArray)), rr, rr, H', ⟨Nat.le_refl _⟩, ⟨bw⟩⟩
 case round =>
  clear H'
  try clear c2; try clear c2b0; try clear c2b1
  obtain ⟨x0_1, x4_1, rfl, rfl, HA, HK1, HB⟩ := hrel
  cases gk with
  | zero => exact absurd HA.out (by simp [spec_FormatInt.l0])
  | succ k1 =>
   have H := HA.out
   clear HA
   simp only [spec_FormatInt.l0] at H
   by_cases c3 : x0_1 = 0
   ·rw [if_pos c3] at H
    have c3b0 : (x0_1 == 0) = true := beq_iff_eq.mpr c3
    have c3b1 : (x0_1 != 0) = false := bne_eq_false_iff_eq.mpr c3
    clear c3
    replace H := gj H; obtain ⟨c4, H⟩ | ⟨c4, H⟩ := H
    ·have c4b0 : (decide (a0 < 0)) = true := c4
     have c4b9 := of_decide_eq_true c4b0
     clear c4
     by_cases c5 : 1 + x4_1.size ≤ 9223372036854775807
     rotate_left
     ·rw [if_neg c5] at H
      exact absurd H (by simp)
     rw [if_pos c5] at H
     have c5b0 := eq_true c5
     have c5b1 : decide (1 + x4_1.size ≤ 9223372036854775807) = true := decide_eq_true c5
     try have c5b2 : (9223372036854775807 < 1 + x4_1.size) = False := eq_false (Nat.not_lt.2 c5)
     obtain rfl := Option.some.inj H
     go_wp2
     go_ret
     exact ⟨re, bw⟩
    have c4b0 : (decide (a0 < 0)) = false := by simpa using c4
    have c4b9 := of_decide_eq_false c4b0
    clear c4
    obtain rfl := Option.some.inj H
    go_wp2
    go_ret
    exact ⟨re, bw⟩
   rw [if_neg c3] at H
   have c3b0 : (x0_1 == 0) = false := beq_eq_false_iff_ne.mpr c3
   have c3b1 : (x0_1 != 0) = true := bne_iff_ne.mpr c3
   replace H := gi H; obtain ⟨c6b0, H⟩ | ⟨c6b0, H⟩ := H
   ·obtain ⟨y685, hy685⟩ : ∃ y_ : List Int, y_ = (([(wrap64 (48 + (wrap64 (-(Int.tmod x0_1 10))))) % 256] : List Int)) := ⟨_, rfl⟩
    replace H : (if (strOfNums y685).size + x4_1.size ≤ 9223372036854775807 then (spec_FormatInt.l0 k1 (wrap64 (Int.tdiv x0_1 10)) (decide (a0 < 0)) ((strOfNums y685) ++ x4_1)) else (none)) = some r := by first | (rw [hy685]; with_reducible first | exact H | exact bs H) | (with_reducible first | exact bs H | exact H) | (rw [hy685]; exact H) | exact H
    have Ny685 := am hy685
    clear hy685
    by_cases c7 : (strOfNums y685).size + x4_1.size ≤ 9223372036854775807
    rotate_left
    ·rw [if_neg c7] at H
     exact absurd H (by simp)
    rw [if_pos c7] at H
    have c7b0 := eq_true c7
    have c7b1 : decide ((strOfNums y685).size + x4_1.size ≤ 9223372036854775807) = true := decide_eq_true c7
    try have c7b2 : (9223372036854775807 < (strOfNums y685).size + x4_1.size) = False := eq_false (Nat.not_lt.2 c7)
    have H' := am H
    clear H
    go_wp2_with (first | ((with_reducible refine gate_dst (N := 21) rfl ?_); refine Kd.R_lit (Kd.int .u8) _ 5 ?hg (N := 21) ?hd (xs := ([(wrap64 (48 + (wrap64 (-(Int.tmod x0_1 10))))) % 256] : List Int)) (inner := [.int .u8 ((wrap64 (48 + (wrap64 (-(Int.tmod x0_1 10))))) % 256)]) (ok := fun _ => True) (okp := fun _ => True) ?hr ?hp (fun _ hk => hk) trivial (Below.refl _ _) (Nat.le_refl _) (by simp) ?_; (case hd => rfl); (case hg => rfl); (case hr => first | (go_simp; done) | (go_simp; rfl)); (case hp => exact (Reps.one (show Kd.M (Kd.int .u8) _ _ _ ((wrap64 (48 + (wrap64 (-(Int.tmod x0_1 10))))) % 256) [.int .u8 ((wrap64 (48 + (wrap64 (-(Int.tmod x0_1 10))))) % 256)] from rfl) (Reps.none _ _))); intro v686 w8 ho9 hb hg_ hnew_; clear hg_ hnew_; (first | rw [← Ny685.out] at ho9 | (simp only [Int.reduceToNat] at ho9; rw [← Ny685.out] at ho9)); have HO687 := am (Kd.R_lower ho9 (below_size bw)); replace HB := am (below_step bw hb); clear hb ho9; have hcv10 := own_string (P := Tryd.prog) Tryd.underlying22 Tryd.underlying5 Tryd.underlying9 (Kd.own_of_R HO687.out)))
    go_roundg k1
    case measure => have := HK1.out; omega
    case rel => exact ⟨(wrap64 (Int.tdiv x0_1 10)), ((strOfNums y685) ++ x4_1), rr, rr, H', ⟨by have := HK1.out; omega⟩, ⟨bw⟩⟩
   obtain ⟨y688, hy688⟩ : ∃ y_ : List Int, y_ = (([(wrap64 (48 + (Int.tmod x0_1 10))) % 256] : List Int)) := ⟨_, rfl⟩
   replace H : (if (strOfNums y688).size + x4_1.size ≤ 9223372036854775807 then (spec_FormatInt.l0 k1 (wrap64 (Int.tdiv x0_1 10)) (decide (a0 < 0)) ((strOfNums y688) ++ x4_1)) else (none)) = some r := by first | (rw [hy688]; with_reducible first | exact H | exact bs H) | (with_reducible first | exact bs H | exact H) | (rw [hy688]; exact H) | exact H
   have Ny688 := am hy688
   clear hy688
   by_cases c11 : (strOfNums y688).size + x4_1.size ≤ 9223372036854775807
   rotate_left
   ·rw [if_neg c11] at H
    exact absurd H (by simp)
   rw [if_pos c11] at H
   have c11b0 := eq_true c11
   have c11b1 : decide ((strOfNums y688).size + x4_1.size ≤ 9223372036854775807) = true := decide_eq_true c11
   try have c11b2 : (9223372036854775807 < (strOfNums y688).size + x4_1.size) = False := eq_false (Nat.not_lt.2 c11)
   have H' := am H
   clear H
   go_wp2_with (first | ((with_reducible refine gate_dst (N := 21) rfl ?_); refine Kd.R_lit (Kd.int .u8) _ 5 ?hg (N := 21) ?hd (xs := ([(wrap64 (48 + (Int.tmod x0_1 10))) % 256] : List Int)) (inner := [.int .u8 ((wrap64 (48 + (Int.tmod x0_1 10))) % 256)]) (ok := fun _ => True) (okp := fun _ => True) ?hr ?hp (fun _ hk => hk) trivial (Below.refl _ _) (Nat.le_refl _) (by simp) ?_; (case hd => rfl); (case hg => rfl); (case hr => first | (go_simp; done) | (go_simp; rfl)); (case hp => exact (Reps.one (show Kd.M (Kd.int .u8) _ _ _ ((wrap64 (48 + (Int.tmod x0_1 10))) % 256) [.int .u8 ((wrap64 (48 + (Int.tmod x0_1 10))) % 256)] from rfl) (Reps.none _ _))); intro v689 w12 ho13 hb hg_ hnew_; clear hg_ hnew_; (first | rw [← Ny688.out] at ho13 | (simp only [Int.reduceToNat] at ho13; rw [← Ny688.out] at ho13)); have HO690 := am (Kd.R_lower ho13 (below_size bw)); replace HB := am (below_step bw hb); clear hb ho13; have hcv14 := own_string (P := Tryd.prog) Tryd.underlying22 Tryd.underlying5 Tryd.underlying9 (Kd.own_of_R HO690.out)))
   go_roundg k1
   case measure => have := HK1.out; omega
   case rel => exact ⟨(wrap64 (Int.tdiv x0_1 10)), ((strOfNums y688) ++ x4_1), rr, rr, H', ⟨by have := HK1.out; omega⟩, ⟨bw⟩⟩


/-! ### spec_Join: function 39 -/
def spec_Join.l0 : Nat → List ByteArray → ByteArray → List Int → Int → Option (ByteArray)
 | 0, _, _, _, _ => none
 | k + 1, x0, x1, x5, x6 => if x6 < (x0.length : Int) then (if x6 > 0 then (if x5.length + x1.size < 140737488355328 then ((some (x5 ++ bytesOf x1 : List Int)).bind fun y694 => (if 0 ≤ x6 then (if y694.length + (rdOf ByteArray.empty x0 x6).size < 140737488355328 then (spec_Join.l0 k x0 x1 (y694 ++ bytesOf (rdOf ByteArray.empty x0 x6)) (wrap64 (x6 + 1))) else (none)) else (none))) else (none)) else (if 0 ≤ x6 then (if x5.length + (rdOf ByteArray.empty x0 x6).size < 140737488355328 then (spec_Join.l0 k x0 x1 (x5 ++ bytesOf (rdOf ByteArray.empty x0 x6)) (wrap64 (x6 + 1))) else (none)) else (none))) else (some (strOfNums x5))
def spec_Join.f (k : Nat) (l0 : List ByteArray) (a1 : ByteArray) : Option (ByteArray) := spec_Join.l0 k l0 a1 (([] : List Int)) 0
set_option maxHeartbeats 8000000 in
set_option maxRecDepth 100000 in
theorem spec_Join.calls (k : Nat) (A0 : Option Addr) (c0 : Nat) (l0 : List ByteArray) (a1 : ByteArray) (r : ByteArray) (w : World) (hr0 : Kd.C Kd.string w A0 l0.length l0) (hc0 : l0.length ≤ c0) (h : spec_Join.f k l0 a1 = some r) :
  Calls Tryd.prog 39 #[.slice A0 l0.length c0, .string a1] w fun e w' => e = .returned (.string r) ∧ Below w.heap.size w w' := by
 have HR0 := am hr0
 have HC0 := am hc0
 clear hr0 hc0
 have HB := am (Below.refl w.heap.size w)
 have H : (spec_Join.l0 k l0 a1 (([] : List Int)) 0) = some r := h
 clear h
 obtain ⟨y691, hy691⟩ : ∃ y_ : List Int, y_ = (([] : List Int)) := ⟨_, rfl⟩
 replace H : (spec_Join.l0 k l0 a1 y691 0) = some r := by first | (rw [hy691]; with_reducible first | exact H | exact bs H) | (with_reducible first | exact bs H | exact H) | (rw [hy691]; exact H) | exact H
 have Ny691 := am hy691
 clear hy691
 have H' := am H
 clear H
 go_enter Tryd.func39, Tryd.ntmps39
 go_wp2_with (first | ((with_reducible refine gate_dst (N := 7) rfl ?_); refine Kd.R_lit (Kd.int .u8) _ 5 ?hg (N := 7) ?hd (xs := ([] : List Int)) (inner := []) (ok := fun _ => True) (okp := fun _ => True) ?hr ?hp (fun _ hk => hk) trivial (Below.refl _ _) (Nat.le_refl _) (by simp) ?_; (case hd => rfl); (case hg => rfl); (case hr => first | (go_simp; done) | (go_simp; rfl)); (case hp => exact (Reps.none _ _)); intro v692 w3 ho4 hb hg_ hnew_; clear hg_ hnew_; (first | rw [← Ny691.out] at ho4 | (simp only [Int.reduceToNat] at ho4; rw [← Ny691.out] at ho4)); have HO693 := am (Kd.R_lower ho4 (below_size bw)); replace HB := am (below_step bw hb); clear hb ho4))
 go_loopg [5, 6] k (fun kq v5 v6 w' => ∃ (x5_1 : List Int) (x6_1 : Int), v6 = .int .i64 x6_1 ∧ Aside0 (spec_Join.l0 kq l0 a1 x5_1 x6_1 = some r) ∧ Aside0 (kq ≤ k) ∧ Aside0 (Kd.R (Kd.int .u8) 5 w' w.heap.size (fun _ => True) v5 x5_1) ∧ Aside0 (Below w.heap.size w w'))
 case atStart => exact ⟨(y691), (0), rr, H', ⟨Nat.le_refl _⟩, ⟨ro HO693.out⟩, ⟨bw⟩⟩
 case round =>
  clear H'
  obtain ⟨x5_1, x6_1, rfl, HA, HK1, HO_5, HB⟩ := hrel
  cases gk with
  | zero => exact absurd HA.out (by simp [spec_Join.l0])
  | succ k1 =>
   have H := HA.out
   clear HA
   simp only [spec_Join.l0] at H
   replace H := gi H; obtain ⟨c5b0, H⟩ | ⟨c5b0, H⟩ := H
   ·replace H := gj H; obtain ⟨c6, H⟩ | ⟨c6, H⟩ := H
    ·have c6b0 : decide (0 < x6_1) = true := decide_eq_true c6
     clear c6
     by_cases c7 : x5_1.length + a1.size < 140737488355328
     rotate_left
     ·rw [if_neg c7] at H
      exact absurd H (by simp)
     rw [if_pos c7] at H
     have LMc7 := am c7
     clear c7
     obtain ⟨y694, hy694⟩ : ∃ y_ : List Int, y_ = (x5_1 ++ bytesOf a1) := ⟨_, rfl⟩
     replace H : (if 0 ≤ x6_1 then (if y694.length + (rdOf ByteArray.empty l0 x6_1).size < 140737488355328 then (spec_Join.l0 k1 l0 a1 (y694 ++ bytesOf (rdOf ByteArray.empty l0 x6_1)) (wrap64 (x6_1 + 1))) else (none)) else (none)) = some r := by first | (rw [hy694]; with_reducible first | exact H | exact bs H) | (with_reducible first | exact bs H | exact H) | (rw [hy694]; exact H) | exact H
     have Ny694 := am hy694
     clear hy694
     replace H := gd H; obtain ⟨c8b0, H⟩ := H
     by_cases c9 : y694.length + (rdOf ByteArray.empty l0 x6_1).size < 140737488355328
     rotate_left
     ·rw [if_neg c9] at H
      exact absurd H (by simp)
     rw [if_pos c9] at H
     have LMc9 := am c9
     clear c9
     obtain ⟨y698, hy698⟩ : ∃ y_ : List Int, y_ = (y694 ++ bytesOf (rdOf ByteArray.empty l0 x6_1)) := ⟨_, rfl⟩
     replace H : (spec_Join.l0 k1 l0 a1 y698 (wrap64 (x6_1 + 1))) = some r := by first | (rw [hy698]; with_reducible first | exact H | exact bs H) | (with_reducible first | exact bs H | exact H) | (rw [hy698]; exact H) | exact H
     have Ny698 := am hy698
     clear hy698
     have H' := am H
     clear H
     go_wp2_with (first | (at_builtin; refine print_append_str (w0 := w) w.heap.size rfl (.tmp 16) _ 22 9 5 rfl Tryd.underlying22 Tryd.underlying9 info5 u5 x5_1 a1 rfl rfl ?aO ?aB ?aS ?aL ?_; (case aB => exact bw); (case aO => exact (Kd.own_of_R (ro HO_5.out))); (case aS => exact (below_size bw)); (case aL => have := LMc7.out; omega); intro v695 w10 ho0 hb hg; have ho := Kd.R_of_own (h1 := fun _ => rfl) (ok := fun _ => True) ho0 (fun _ _ => trivial); clear ho0; have hat := True.intro; rw [← Ny694.out] at ho; change Kd.R (Kd.int .u8) 5 w10 w.heap.size (fun _ => True) v695 y694 at ho; replace HB := am (hb); have HO696 := am (ho); clear HO_5 ho hb hg hat; have p697 : 0 ≤ (x6_1 : Int) := of_decide_eq_true (by first | (with_reducible assumption) | assumption); have q697 : x6_1 < (l0.length : Int) := of_decide_eq_true (by first | (with_reducible assumption) | assumption); obtain ⟨ad697, e697, hx697_0⟩ := Kd.at_string HR0.out x6_1 p697 q697; cases e697; replace hx697_0 := hw HB hx697_0; replace p697 := eq_true p697; replace q697 := eq_true q697) | (at_builtin; refine print_append_str (w0 := w) w.heap.size rfl (.tmp 19) _ 22 9 5 rfl Tryd.underlying22 Tryd.underlying9 info5 v695 y694 (rdOf ByteArray.empty l0 x6_1) rfl rfl ?aO ?aB ?aS ?aL ?_; (case aB => exact bw); (case aO => exact (Kd.own_of_R (ro HO696.out))); (case aS => exact (below_size bw)); (case aL => have := LMc9.out; omega); intro v699 w11 ho0 hb hg; have ho := Kd.R_of_own (h1 := fun _ => rfl) (ok := fun _ => True) ho0 (fun _ _ => trivial); clear ho0; have hat := True.intro; rw [← Ny698.out] at ho; change Kd.R (Kd.int .u8) 5 w11 w.heap.size (fun _ => True) v699 y698 at ho; replace HB := am (hb); have HO700 := am (ho); clear HO696 ho hb hg hat))
     go_roundg k1
     case measure => have := HK1.out; omega
     case rel => exact ⟨(y698), (wrap64 (x6_1 + 1)), rr, H', ⟨by have := HK1.out; omega⟩, ⟨ro HO700.out⟩, ⟨bw⟩⟩
    have c6b0 : decide (0 < x6_1) = false := decide_eq_false c6
    clear c6
    replace H := gd H; obtain ⟨c12b0, H⟩ := H
    by_cases c13 : x5_1.length + (rdOf ByteArray.empty l0 x6_1).size < 140737488355328
    rotate_left
    ·rw [if_neg c13] at H
     exact absurd H (by simp)
    rw [if_pos c13] at H
    have LMc13 := am c13
    clear c13
    obtain ⟨y702, hy702⟩ : ∃ y_ : List Int, y_ = (x5_1 ++ bytesOf (rdOf ByteArray.empty l0 x6_1)) := ⟨_, rfl⟩
    replace H : (spec_Join.l0 k1 l0 a1 y702 (wrap64 (x6_1 + 1))) = some r := by first | (rw [hy702]; with_reducible first | exact H | exact bs H) | (with_reducible first | exact bs H | exact H) | (rw [hy702]; exact H) | exact H
    have Ny702 := am hy702
    clear hy702
    have H' := am H
    clear H
    obtain ⟨⟨ad701, e701, hx701_0⟩, p701, q701⟩ := pq (Kd.at_string HR0.out x6_1)
    cases e701
    replace hx701_0 := hw HB hx701_0
    go_wp2_with (first | (at_builtin; refine print_append_str (w0 := w) w.heap.size rfl (.tmp 19) _ 22 9 5 rfl Tryd.underlying22 Tryd.underlying9 info5 u5 x5_1 (rdOf ByteArray.empty l0 x6_1) rfl rfl ?aO ?aB ?aS ?aL ?_; (case aB => exact bw); (case aO => exact (Kd.own_of_R (ro HO_5.out))); (case aS => exact (below_size bw)); (case aL => have := LMc13.out; omega); intro v703 w14 ho0 hb hg; have ho := Kd.R_of_own (h1 := fun _ => rfl) (ok := fun _ => True) ho0 (fun _ _ => trivial); clear ho0; have hat := True.intro; rw [← Ny702.out] at ho; change Kd.R (Kd.int .u8) 5 w14 w.heap.size (fun _ => True) v703 y702 at ho; replace HB := am (hb); have HO704 := am (ho); clear HO_5 ho hb hg hat))
    go_roundg k1
    case measure => have := HK1.out; omega
    case rel => exact ⟨(y702), (wrap64 (x6_1 + 1)), rr, H', ⟨by have := HK1.out; omega⟩, ⟨ro HO704.out⟩, ⟨bw⟩⟩
   obtain rfl := Option.some.inj H
   have hcv15 := own_string (P := Tryd.prog) Tryd.underlying22 Tryd.underlying5 Tryd.underlying9 (Kd.own_of_R HO_5.out)
   go_wp2
   go_ret
   exact ⟨re, bw⟩


/-! ### spec_FactorText: function 19 -/
def spec_FactorText.l0 : Nat → List Int → List ByteArray → Int → List Int → Option (ByteArray)
 | 0, _, _, _, _ => none
 | k + 1, x1, x5, x6, x706000 => if x6 < (x1.length : Int) then (if 0 ≤ x6 then (if (rd x1 x6) > 0 then ((spec_FormatInt.f k (rd x1 x6)).bind fun t713 => (if t713.size + 1 ≤ 9223372036854775807 then (if x6 < (x706000.length : Int) then ((spec_FormatInt.f k (rd x706000 x6)).bind fun t715 => (if (t713 ++ (⟨#[42]⟩ : ByteArray)).size + t715.size ≤ 9223372036854775807 then (if x5.length < 8796093022208 then (spec_FactorText.l0 k x1 (x5 ++ [(t713 ++ (⟨#[42]⟩ : ByteArray)) ++ t715]) (wrap64 (x6 + 1)) x706000) else (none)) else (none))) else (none)) else (none))) else (spec_FactorText.l0 k x1 x5 (wrap64 (x6 + 1)) x706000)) else (none)) else (if (x5.length : Int) = 0 then (some (⟨#[48]⟩ : ByteArray)) else ((spec_Join.f k x5 (⟨#[43]⟩ : ByteArray)).bind fun t710 => (some t710)))
def spec_FactorText.f (k : Nat) (l0_0 : List Int) (l1 : List Int) : Option (ByteArray) := (spec_ValueOf.f k l0_0 l1).bind fun t706 => (if t706 < 0 then (some (⟨#[]⟩ : ByteArray)) else (spec_FactorText.l0 k l1 (([] : List ByteArray)) 0 l0_0))
def spec_FactorText.T8 : Bool × List (List Nat × List Nat) := (true, [([], []), ([], []), ([], []), ([1, 2], [1, 2]), ([3], [3]), ([4], [4]), ([5], [5]), ([], []), ([7], [7]), ([], []), ([8, 9], [8, 9]), ([10], [10]), ([11, 5], [11]), ([6, 12], [6, 12]), ([13], [13]), ([0, 14, 12], [0, 14]), ([15, 15, 0, 1, 2, 3, 4, 5, 6, 7, 8, 9, 10, 11, 12, 13, 14, 15], [0, 15])])
def spec_FactorText.B8 : List Nat := [0, 0, 0, 6, 14, 30, 62, 0, 128, 0, 896, 1920, 4030, 8190, 16382, 32767, 65535]
theorem spec_FactorText.tab8 : rtab .any (opsOf Tryd.f19 8) = spec_FactorText.T8 := by kernel_rfl
theorem spec_FactorText.bits8 : waitsOk spec_FactorText.T8.2 spec_FactorText.B8 = true := by kernel_rfl
set_option maxHeartbeats 8000000 in
set_option maxRecDepth 100000 in
theorem spec_FactorText.calls (k : Nat) (A0_0 : Option Addr) (c0_0 : Nat) (l0_0 : List Int) (A1 : Option Addr) (c1 : Nat) (l1 : List Int) (r : ByteArray) (w : World) (hr0_0 : Kd.C (Kd.int .i64) w A0_0 l0_0.length l0_0) (hc0_0 : l0_0.length ≤ c0_0) (hr1 : Kd.C (Kd.int .i64) w A1 l1.length l1) (hc1 : l1.length ≤ c1) (h : spec_FactorText.f k l0_0 l1 = some r) :
  Calls Tryd.prog 19 #[.agg #[.slice A0_0 l0_0.length c0_0], .slice A1 l1.length c1] w fun e w' => e = .returned (.string r) ∧ Below w.heap.size w w' := by
 have hu26 := Tryd.underlying26
 have HR0_0 := am hr0_0
 have HC0_0 := am hc0_0
 clear hr0_0 hc0_0
 have HR1 := am hr1
 have HC1 := am hc1
 clear hr1 hc1
 have HB := am (Below.refl w.heap.size w)
 have H : ((spec_ValueOf.f k l0_0 l1).bind fun t706 => (if t706 < 0 then (some (⟨#[]⟩ : ByteArray)) else (spec_FactorText.l0 k l1 (([] : List ByteArray)) 0 l0_0))) = some r := h
 clear h
 replace H := ga H; obtain ⟨t706, A3, H⟩ := H
 replace H := gi H; obtain ⟨c4b0, H⟩ | ⟨c4b0, H⟩ := H
 ·obtain rfl := Option.some.inj H
  go_enter Tryd.func19, Tryd.ntmps19
  go_wp2_with (first | ((with_reducible refine gate_dst (N := 2) rfl ?_); refine bx 2 #[.slice A0_0 l0_0.length c0_0] 26 ?_; intro gb705 hg w5 hbox hb; have BK705 := am (hbox); have GW705 := am (gs hg : w.heap.size ≤ gb705); have GE705 := GW705; replace HB := am (below_step bw hb); clear hb hbox hg; have hcz6_0 := bc BK705 0 (.slice A0_0 l0_0.length c0_0); have hfz6_0 := blk_frozen BK705.out 0) | ((with_reducible refine gate_callee (f := 17) rfl ?_); refine goesL_ (some 9) rfl rfl Tryd.func17 (by kernel_rfl) rfl #[.agg #[.slice A0_0 l0_0.length c0_0], .slice A1 l1.length c1] rfl (by (try simp only [List.map_toArray, List.map_cons, List.map_nil]); first | done | rfl | (simp only [List.length_drop, List.length_take]; rfl)) ?_; (with_reducible refine (spec_ValueOf.calls k _ _ l0_0 _ _ l1 t706 _ ?side1 ?side2 ?side3 ?side4 A3.out).mono ?_); (case side1 => exact co (Kd.C_below HR0_0.out HB.out)); (case side2 => exact HC0_0.out); (case side3 => exact co (Kd.C_below HR1.out HB.out)); (case side4 => exact HC1.out); rintro e w7 ⟨rfl, hb⟩; refine ⟨_, rfl, ?_⟩; replace BK705 := kb BK705 hb; replace HB := am (below_step bw hb); clear hb))
  go_ret
  exact ⟨re, bw⟩
 obtain ⟨y707, hy707⟩ : ∃ y_ : List ByteArray, y_ = (([] : List ByteArray)) := ⟨_, rfl⟩
 replace H : (spec_FactorText.l0 k l1 y707 0 l0_0) = some r := by first | (rw [hy707]; with_reducible first | exact H | exact bs H) | (with_reducible first | exact bs H | exact H) | (rw [hy707]; exact H) | exact H
 have Ny707 := am hy707
 clear hy707
 have H' := am H
 clear H
 go_enter Tryd.func19, Tryd.ntmps19
 go_wp2_with (first | ((with_reducible refine gate_dst (N := 2) rfl ?_); refine bx 2 #[.slice A0_0 l0_0.length c0_0] 26 ?_; intro gb705 hg w8 hbox hb; have BK705 := am (hbox); have GW705 := am (gs hg : w.heap.size ≤ gb705); have GE705 := GW705; replace HB := am (below_step bw hb); clear hb hbox hg; have hcz9_0 := bc BK705 0 (.slice A0_0 l0_0.length c0_0); have hfz9_0 := blk_frozen BK705.out 0) | ((with_reducible refine gate_callee (f := 17) rfl ?_); refine goesL_ (some 9) rfl rfl Tryd.func17 (by kernel_rfl) rfl #[.agg #[.slice A0_0 l0_0.length c0_0], .slice A1 l1.length c1] rfl (by (try simp only [List.map_toArray, List.map_cons, List.map_nil]); first | done | rfl | (simp only [List.length_drop, List.length_take]; rfl)) ?_; (with_reducible refine (spec_ValueOf.calls k _ _ l0_0 _ _ l1 t706 _ ?side1 ?side2 ?side3 ?side4 A3.out).mono ?_); (case side1 => exact co (Kd.C_below HR0_0.out HB.out)); (case side2 => exact HC0_0.out); (case side3 => exact co (Kd.C_below HR1.out HB.out)); (case side4 => exact HC1.out); rintro e w10 ⟨rfl, hb⟩; refine ⟨_, rfl, ?_⟩; replace BK705 := kb BK705 hb; replace HB := am (below_step bw hb); clear hb) | ((with_reducible refine gate_dst (N := 11) rfl ?_); refine Kd.R_lit Kd.string _ 9 ?hg (N := 11) ?hd (xs := ([] : List ByteArray)) (inner := []) (ok := fun _ => True) (okp := fun _ => True) ?hr ?hp (fun _ hk => hk) trivial (Below.refl _ _) (Nat.le_refl _) (by simp) ?_; (case hd => rfl); (case hg => rfl); (case hr => first | (go_simp; done) | (go_simp; rfl)); (case hp => exact (Reps.none _ _)); intro v708 w11 ho12 hb hg_ hnew_; clear hg_ hnew_; (first | rw [← Ny707.out] at ho12 | (simp only [Int.reduceToNat] at ho12; rw [← Ny707.out] at ho12)); have HO709 := am (Kd.R_lower ho12 (below_size bw)); replace BK705 := kb BK705 hb; replace HB := am (below_step bw hb); clear hb ho12))
 go_loopg [5, 6] k (fun kq v5 v6 w' => ∃ (x5_1 : List ByteArray) (x6_1 : Int), v6 = .int .i64 x6_1 ∧ Aside0 (spec_FactorText.l0 kq l1 x5_1 x6_1 l0_0 = some r) ∧ Aside0 (kq ≤ k) ∧ Aside0 (Kd.R Kd.string 9 w' w.heap.size (fun _ => True) v5 x5_1) ∧ Aside0 (w'.heap[gb705]? = some (.cells #[(.slice A0_0 l0_0.length c0_0)] 26 (0, 0))) ∧ Aside0 (Below w.heap.size w w'))
 case atStart => exact ⟨(y707), (0), rr, H', ⟨Nat.le_refl _⟩, ⟨ro HO709.out⟩, ⟨bo BK705.out⟩, ⟨bw⟩⟩
 case round =>
  clear H'
  try clear c1; try clear c4b0; try clear hcz6_0; try clear hcz9_0; try clear hfz6_0; try clear hfz9_0
  obtain ⟨x5_1, x6_1, rfl, HA, HK1, HO_5, BK705, HB⟩ := hrel
  cases gk with
  | zero => exact absurd HA.out (by simp [spec_FactorText.l0])
  | succ k1 =>
   have H := HA.out
   clear HA
   simp only [spec_FactorText.l0] at H
   replace H := gi H; obtain ⟨c13b0, H⟩ | ⟨c13b0, H⟩ := H
   ·replace H := gd H; obtain ⟨c14b0, H⟩ := H
    replace H := gj H; obtain ⟨c15, H⟩ | ⟨c15, H⟩ := H
    ·have c15b0 : decide (0 < (rd l1 x6_1)) = true := decide_eq_true c15
     clear c15
     replace H := ga H; obtain ⟨t713, A16, H⟩ := H
     by_cases c17 : t713.size + 1 ≤ 9223372036854775807
     rotate_left
     ·rw [if_neg c17] at H
      exact absurd H (by simp)
     rw [if_pos c17] at H
     have c17b0 := eq_true c17
     have c17b1 : decide (t713.size + 1 ≤ 9223372036854775807) = true := decide_eq_true c17
     try have c17b2 : (9223372036854775807 < t713.size + 1) = False := eq_false (Nat.not_lt.2 c17)
     replace H := gd H; obtain ⟨c18b0, H⟩ := H
     replace H := ga H; obtain ⟨t715, A19, H⟩ := H
     by_cases c20 : (t713 ++ (⟨#[42]⟩ : ByteArray)).size + t715.size ≤ 9223372036854775807
     rotate_left
     ·rw [if_neg c20] at H
      exact absurd H (by simp)
     rw [if_pos c20] at H
     have c20b7 : t713.size + 1 + t715.size ≤ 9223372036854775807 := by have q_ := c20; rw [ByteArray.size_append] at q_; exact q_
     have c20b0 := eq_true c20
     have c20b1 : decide ((t713 ++ (⟨#[42]⟩ : ByteArray)).size + t715.size ≤ 9223372036854775807) = true := decide_eq_true c20
     try have c20b2 : (9223372036854775807 < (t713 ++ (⟨#[42]⟩ : ByteArray)).size + t715.size) = False := eq_false (Nat.not_lt.2 c20)
     by_cases c21 : x5_1.length < 8796093022208
     rotate_left
     ·rw [if_neg c21] at H
      exact absurd H (by simp)
     rw [if_pos c21] at H
     have LMc21 := am c21
     clear c21
     obtain ⟨y716, hy716⟩ : ∃ y_ : List ByteArray, y_ = (x5_1 ++ [(t713 ++ (⟨#[42]⟩ : ByteArray)) ++ t715]) := ⟨_, rfl⟩
     replace H : (spec_FactorText.l0 k1 l1 y716 (wrap64 (x6_1 + 1)) l0_0) = some r := by first | (rw [hy716]; with_reducible first | exact H | exact bs H) | (with_reducible first | exact bs H | exact H) | (rw [hy716]; exact H) | exact H
     have Ny716 := am hy716
     clear hy716
     have H' := am H
     clear H
     obtain ⟨⟨ad711, e711, hx711_0⟩, p711, q711⟩ := pq (Kd.at_int HR1.out x6_1)
     cases e711
     replace hx711_0 := hw HB hx711_0
     try go_wp2
     replace HO_5 := am (Kd.R_drew HO_5.out)
     replace BK705 := bd BK705
     replace HB := am (below_drew1 HB.out)
     obtain ⟨⟨ad712, e712, hx712_0⟩, p712, q712⟩ := pq (Kd.at_int HR1.out x6_1)
     have hw712_0 := hx712_0
     obtain rfl : ad711 = ad712 := (by injection e712)
     replace hx712_0 := hw HB hx712_0
     obtain ⟨⟨ad714, e714, hx714_0⟩, p714, q714⟩ := pq (Kd.at_int HR0_0.out x6_1)
     have hw714_0 := hx714_0
     cases e714
     replace hx714_0 := hw HB hx714_0
     refine start_ (n := 17) (S := fun w' => w'.cell? ⟨gb705, 0, none⟩ = some (.slice (some ad714) l0_0.length c0_0) ∧ w'.cell? (ad711.add (x6_1).toNat) = some (.int .i64 (rd l1 x6_1)) ∧ w'.cell? (ad714.add (x6_1).toNat) = some (.int .i64 (rd l0_0 x6_1))) (ds := []) (yz 17 0) (by kernel_rfl) rfl rfl ⟨bc BK705 0 _, ((HB.out.cell (World.block_lt_of_cell? w _ hw712_0)).trans hw712_0), ((HB.out.cell (World.block_lt_of_cell? w _ hw714_0)).trans hw714_0)⟩ (fun hHeld => ?_); refine with_tabW spec_FactorText.tab8 spec_FactorText.bits8 (fun HT_ HW_ => ?_)
     generalize wr.drew = w22 at HO_5 BK705 HB hx712_0 hx714_0 hHeld ⊢
     refine pa 0 (some 23) (yz 17 1) HT_ ?_
     refine pa 1 (some 24) (yz 17 3) HT_ ?_
     refine pa 2 (some 25) (yz 17 7) HT_ ?_
     refine pa 3 (some 26) (yz 17 15) HT_ ?_
     refine pa 7 (some 30) (yz 17 143) HT_ ?_
     refine pa 9 (some 32) (yz 17 655) HT_ ?_
     refine tk 4 (some 27) (yz 17 671) HT_ HW_ hHeld ?_
     refine tk 8 (some 31) (yz 17 927) HT_ HW_ hHeld ?_
     refine pa 10 (some 33) (yz 17 1951) HT_ ?_
     refine tk 11 (some 34) (yz 17 3999) HT_ HW_ hHeld ?_
     refine oa 5 (some 28) (yz 17 4031) HT_ (fun K hK => ?_)
     refine goes_ Tryd.func38 (by kernel_rfl) rfl #[.int .i64 (rd l1 x6_1)] (by rfl) rfl rfl (by (try simp only [List.map_toArray, List.map_cons, List.map_nil]); first | done | rfl | (simp only [List.length_drop, List.length_take]; rfl)) ?_
     with_reducible refine (spec_FormatInt.calls k1 (rd l1 x6_1) t713 _ A16.out).mono ?_
     rintro e w23 ⟨rfl, hb⟩
     refine ⟨_, rfl, ?_⟩
     replace HO_5 := rK HO_5 hb
     replace BK705 := kb BK705 hb
     replace HB := am (below_step bw hb)
     clear hb
     refine hK.out _ _ ⟨bc BK705 0 _, ((HB.out.cell (World.block_lt_of_cell? w _ hw712_0)).trans hw712_0), ((HB.out.cell (World.block_lt_of_cell? w _ hw714_0)).trans hw714_0)⟩ (fun hHeld => ?_)
     clear hK K
     refine nm (some 28) ?_
     refine pa 6 (some 29) (yz 17 4095) HT_ ?_
     refine oa 12 (some 35) (yz 17 8191) HT_ (fun K hK => ?_)
     refine goes_ Tryd.func38 (by kernel_rfl) rfl #[.int .i64 (rd l0_0 x6_1)] (by rfl) rfl rfl (by (try simp only [List.map_toArray, List.map_cons, List.map_nil]); first | done | rfl | (simp only [List.length_drop, List.length_take]; rfl)) ?_
     with_reducible refine (spec_FormatInt.calls k1 (rd l0_0 x6_1) t715 _ A19.out).mono ?_
     rintro e w24 ⟨rfl, hb⟩
     refine ⟨_, rfl, ?_⟩
     replace HO_5 := rK HO_5 hb
     replace BK705 := kb BK705 hb
     replace HB := am (below_step bw hb)
     clear hb
     refine hK.out _ _ ⟨bc BK705 0 _, ((HB.out.cell (World.block_lt_of_cell? w _ hw712_0)).trans hw712_0), ((HB.out.cell (World.block_lt_of_cell? w _ hw714_0)).trans hw714_0)⟩ (fun hHeld => ?_)
     clear hK K
     refine nm (some 35) ?_
     refine pa 13 (some 36) (yz 17 16383) HT_ ?_
     refine oa 14 (some 37) (yz 17 32767) HT_ (fun K hK => ?_)
     refine value_ (w1 := ?_) (v := ?_) (by rfl) rfl ?_ ?_
     rotate_left 2
     ·go_simp
      constructor
      ·rfl
      rfl
     refine hK.out _ _ ⟨(blk_cell (blk_alloc BK705.out _) 0).trans rfl, (World.cell?_alloc_lt _ _ _ (World.block_lt_of_cell? _ _ (((HB.out.cell (World.block_lt_of_cell? w _ hw712_0)).trans hw712_0)))).trans (((HB.out.cell (World.block_lt_of_cell? w _ hw712_0)).trans hw712_0)), (World.cell?_alloc_lt _ _ _ (World.block_lt_of_cell? _ _ (((HB.out.cell (World.block_lt_of_cell? w _ hw714_0)).trans hw714_0)))).trans (((HB.out.cell (World.block_lt_of_cell? w _ hw714_0)).trans hw714_0))⟩ (fun hHeld => ?_)
     clear hK K
     refine nm (some 37) ?_
     refine oa 15 (some 38) (yz 17 65535) HT_ (fun K hK => ?_)
     refine Kd.R_append_step Kd.string (w0 := w) w.heap.size (by rfl) (.tmp 23) (.tmp 37) 53 9 (.string ⟨#[]⟩) 16 rfl Tryd.underlying53 info9 rfl (by decide) (by omega) u5 x5_1 ((t713 ++ (⟨#[42]⟩ : ByteArray)) ++ t715) [.string ((t713 ++ (⟨#[42]⟩ : ByteArray)) ++ t715)] (fun _ => True) (fun _ => False) rfl rfl ?aP (fun _ hk => hk.elim) ?aF ?aO ?aB ?aS ?aL ?_
     (case aP => exact rfl)
     (case aB => exact bw)
     (case aF => exact (fun _ _ => trivial))
     (case aO => exact (ro HO_5.out))
     (case aS => exact (below_size bw))
     (case aL => have := LMc21.out; omega)
     intro v717 w25 ho hb hg hat
     rw [← Ny716.out] at ho
     replace BK705 := am (blk_grown (g := gb705) (o := .cells #[.slice (some ad714) l0_0.length c0_0] 26 (0, 0)) (bo BK705.out) hg (Kd.R_ne HO_5.out BK705.out (by decide)))
     replace HB := am (hb)
     have HO718 := am (ho)
     clear HO_5 ho hb hg hat
     refine hK.out _ _ ⟨bc BK705 0 _, ((HB.out.cell (World.block_lt_of_cell? w _ hw712_0)).trans hw712_0), ((HB.out.cell (World.block_lt_of_cell? w _ hw714_0)).trans hw714_0)⟩ (fun hHeld => ?_)
     clear hK K
     refine nm (some 38) ?_
     refine pa 16 (some 5) (yz 17 131071) HT_ ?_
     refine done_ (done_of HT_.out (by kernel_rfl)) ?_
     try go_wp2
     go_roundg k1
     case measure => have := HK1.out; omega
     case rel => exact ⟨(y716), (wrap64 (x6_1 + 1)), rr, H', ⟨by have := HK1.out; omega⟩, ⟨ro HO718.out⟩, ⟨bo BK705.out⟩, ⟨bw⟩⟩
    have c15b0 : decide (0 < (rd l1 x6_1)) = false := decide_eq_false c15
    clear c15
    have H' := am H
    clear H
    obtain ⟨⟨ad711, e711, hx711_0⟩, p711, q711⟩ := pq (Kd.at_int HR1.out x6_1)
    cases e711
    replace hx711_0 := hw HB hx711_0
    go_wp2
    go_roundg k1
    case measure => have := HK1.out; omega
    case rel => exact ⟨(x5_1), (wrap64 (x6_1 + 1)), rr, H', ⟨by have := HK1.out; omega⟩, ⟨ro HO_5.out⟩, ⟨bo BK705.out⟩, ⟨bw⟩⟩
   by_cases c26 : (x5_1.length : Int) = 0
   ·rw [if_pos c26] at H
    have c26b0 : ((x5_1.length : Int) == 0) = true := beq_iff_eq.mpr c26
    have c26b1 : ((x5_1.length : Int) != 0) = false := bne_eq_false_iff_eq.mpr c26
    clear c26
    obtain rfl := Option.some.inj H
    obtain ⟨Ao27, co27, eo27⟩ := Kd.R_slice HO_5.out
    subst eo27
    go_wp2
    go_ret
    exact ⟨re, bw⟩
   rw [if_neg c26] at H
   have c26b0 : ((x5_1.length : Int) == 0) = false := beq_eq_false_iff_ne.mpr c26
   have c26b1 : ((x5_1.length : Int) != 0) = true := bne_iff_ne.mpr c26
   have c26b2 : ¬ (x5_1 = []) := fun h_ => c26 (by rw [h_]; rfl)
   replace H := ga H; obtain ⟨t710, A28, H⟩ := H
   obtain rfl := Option.some.inj H
   obtain ⟨Ao29, co29, eo29⟩ := Kd.R_slice HO_5.out
   subst eo29
   go_wp2_with (first | ((with_reducible refine gate_callee (f := 39) rfl ?_); refine goesL_ (some 43) rfl rfl Tryd.func39 (by kernel_rfl) rfl #[.slice Ao29 x5_1.length co29, .string (⟨#[43]⟩ : ByteArray)] rfl (by (try simp only [List.map_toArray, List.map_cons, List.map_nil]); first | done | rfl | (simp only [List.length_drop, List.length_take]; rfl)) ?_; (with_reducible refine (spec_Join.calls k1 _ _ x5_1 (⟨#[43]⟩ : ByteArray) t710 _ ?side1 ?side2 A28.out).mono ?_); (case side1 => exact co (Kd.R_reads' HO_5.out).2.2); (case side2 => exact (Kd.R_reads' HO_5.out).2.1); rintro e w30 ⟨rfl, hb⟩; refine ⟨_, rfl, ?_⟩; replace HO_5 := rK HO_5 hb; replace BK705 := kb BK705 hb; replace HB := am (below_step bw hb); clear hb))
   go_ret
   exact ⟨re, bw⟩


/-! ### laws_worth: function 20 -/
def laws_worth.l0 : Nat → List Int → List Int → Int → Int → Option (Int)
 | 0, _, _, _, _ => none
 | k + 1, x0, x1, x5, x6 => if x6 < (x0.length : Int) then (if x6 < (x1.length : Int) then (if 0 ≤ x6 then (laws_worth.l0 k x0 x1 (wrap64 (x5 + (wrap64 ((rd x0 x6) * (rd x1 x6))))) (wrap64 (x6 + 1))) else (none)) else (some x5)) else (some x5)
def laws_worth.f (k : Nat) (l0 : List Int) (l1 : List Int) : Option (Int) := laws_worth.l0 k l0 l1 0 0
set_option maxHeartbeats 8000000 in
set_option maxRecDepth 100000 in
theorem laws_worth.calls (k : Nat) (A0 : Option Addr) (c0 : Nat) (l0 : List Int) (A1 : Option Addr) (c1 : Nat) (l1 : List Int) (r : Int) (w : World) (hr0 : Kd.C (Kd.int .i64) w A0 l0.length l0) (hc0 : l0.length ≤ c0) (hr1 : Kd.C (Kd.int .i64) w A1 l1.length l1) (hc1 : l1.length ≤ c1) (h : laws_worth.f k l0 l1 = some r) :
  Calls Tryd.prog 20 #[.slice A0 l0.length c0, .slice A1 l1.length c1] w fun e w' => e = .returned (.int .i64 r) ∧ Drawn0 w w' := by
 have HR0 := am hr0
 have HC0 := am hc0
 clear hr0 hc0
 have HR1 := am hr1
 have HC1 := am hc1
 clear hr1 hc1
 have H : (laws_worth.l0 k l0 l1 0 0) = some r := h
 clear h
 have H' := am H
 clear H
 go_enter Tryd.func20, Tryd.ntmps20
 go_wp2
 repeat (go_quiet (fail); try go_wp2)
 go_loopg [5, 6] k (fun kq v5 v6 w' => ∃ (x5_1 : Int) (x6_1 : Int), v5 = .int .i64 x5_1 ∧ v6 = .int .i64 x6_1 ∧ Aside0 (laws_worth.l0 kq l0 l1 x5_1 x6_1 = some r) ∧ Aside0 (kq ≤ k) ∧ Drawn0 w w')
 case atStart => exact ⟨(0), (0), rr, rr, H', ⟨Nat.le_refl _⟩, dw⟩
 case round =>
  clear H'
  try clear c1
  obtain ⟨x5_1, x6_1, rfl, rfl, HA, HK1, ⟨m1, rfl⟩⟩ := hrel
  cases gk with
  | zero => exact absurd HA.out (by simp [laws_worth.l0])
  | succ k1 =>
   have H := HA.out
   clear HA
   simp only [laws_worth.l0] at H
   replace H := gi H; obtain ⟨c3b0, H⟩ | ⟨c3b0, H⟩ := H
   ·replace H := gi H; obtain ⟨c4b0, H⟩ | ⟨c4b0, H⟩ := H
    ·replace H := gd H; obtain ⟨c5b0, H⟩ := H
     have H' := am H
     clear H
     obtain ⟨⟨ad719, e719, hx719_0⟩, p719, q719⟩ := pq (Kd.at_int HR0.out x6_1)
     cases e719
     obtain ⟨⟨ad720, e720, hx720_0⟩, p720, q720⟩ := pq (Kd.at_int HR1.out x6_1)
     cases e720
     go_wp2
     repeat (go_quiet (fail); try go_wp2)
     go_roundg k1
     case measure => have := HK1.out; omega
     case rel => exact ⟨(wrap64 (x5_1 + (wrap64 ((rd l0 x6_1) * (rd l1 x6_1))))), (wrap64 (x6_1 + 1)), rr, rr, H', ⟨by have := HK1.out; omega⟩, dw⟩
    obtain rfl := Option.some.inj H
    go_wp2
    repeat (go_quiet (fail); try go_wp2)
    go_ret
    exact ⟨rr, dw⟩
   obtain rfl := Option.some.inj H
   go_wp2
   repeat (go_quiet (fail); try go_wp2)
   go_ret
   exact ⟨rr, dw⟩

end Go.Proofs.YtbbehmbpoilffaaDoor.C
