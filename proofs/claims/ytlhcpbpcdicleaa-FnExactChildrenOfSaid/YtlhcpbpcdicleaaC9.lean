/- Contracts of functions of the program: slices_Equal_int_int, impl_FromGaps, slices_Sort_int_int, slices_Compact_int_int, impl_SortList, impl_RemoveGenerator, impl_FrobeniusOf, impl_ChildrenOf. -/
import Derived.Test.YtlhcpbpcdicleaaC0
import Derived.Test.YtlhcpbpcdicleaaC7
import Derived.Test.YtlhcpbpcdicleaaC8
namespace Go.Proofs.Ytlhcpbpcdicleaa.C
open Go.RowKit Go.Proofs.YtlhcpbpcdicleaaW.PrintWords Go.Proofs.YtlhcpbpcdicleaaW.PrintLast Go.Proofs.YtlhcpbpcdicleaaW.PrintMore
attribute [local go_sem] max2_int min2_int max_two min_two max_three min_three max_four min_four
set_option linter.unusedVariables false
set_option linter.unusedSimpArgs false

/-! ### slices_Equal_int_int: function 63 -/
def slices_Equal_int_int.l0 : Nat → List Int → List Int → Int → Int → Option (Bool)
 | 0, _, _, _, _ => none
 | k + 1, x0, x1, x12, x13 => if x13 < x12 then (if 0 ≤ x13 then (if x13 < (x0.length : Int) then (if x13 < (x1.length : Int) then (if (rd x0 x13) = (rd x1 x13) then (slices_Equal_int_int.l0 k x0 x1 x12 (wrap64 (x13 + 1))) else (some false)) else (none)) else (none)) else (none)) else (some true)
def slices_Equal_int_int.f (k : Nat) (l0 : List Int) (l1 : List Int) : Option (Bool) := if (l0.length : Int) = (l1.length : Int) then (slices_Equal_int_int.l0 k l0 l1 (l0.length : Int) 0) else (some false)
set_option maxHeartbeats 8000000 in
set_option maxRecDepth 100000 in
theorem slices_Equal_int_int.calls (k : Nat) (A0 : Option Addr) (c0 : Nat) (l0 : List Int) (A1 : Option Addr) (c1 : Nat) (l1 : List Int) (r : Bool) (w : World) (hr0 : Kd.C (Kd.int .i64) w A0 l0.length l0) (hc0 : l0.length ≤ c0) (hr1 : Kd.C (Kd.int .i64) w A1 l1.length l1) (hc1 : l1.length ≤ c1) (h : slices_Equal_int_int.f k l0 l1 = some r) :
  Calls Try.prog 63 #[.slice A0 l0.length c0, .slice A1 l1.length c1] w fun e w' => e = .returned (.bool r) ∧ Drawn0 w w' := by
 have HR0 := am hr0
 have HC0 := am hc0
 clear hr0 hc0
 have HR1 := am hr1
 have HC1 := am hc1
 clear hr1 hc1
 have H : (if (l0.length : Int) = (l1.length : Int) then (slices_Equal_int_int.l0 k l0 l1 (l0.length : Int) 0) else (some false)) = some r := h
 clear h
 by_cases c3 : (l0.length : Int) = (l1.length : Int)
 ·rw [if_pos c3] at H
  have c3b0 : ((l0.length : Int) == (l1.length : Int)) = true := beq_iff_eq.mpr c3
  have c3b1 : ((l0.length : Int) != (l1.length : Int)) = false := bne_eq_false_iff_eq.mpr c3
  have c3b2 : (l0.length == l1.length) = true := by first | simpa using c3 | (simp at c3 ⊢; omega)
  clear c3
  have H' := am H
  clear H
  go_enter Try.func63, Try.ntmps63
  go_wp2
  repeat (go_quiet (fail); try go_wp2)
  go_loopg [13] k (fun kq v13 w' => ∃ (x13_1 : Int), v13 = .int .i64 x13_1 ∧ Aside0 (slices_Equal_int_int.l0 kq l0 l1 (l0.length : Int) x13_1 = some r) ∧ Aside0 (kq ≤ k) ∧ Drawn0 w w')
  case atStart => exact ⟨(0), rr, H', ⟨Nat.le_refl _⟩, dw⟩
  case round =>
   clear H'
   try clear c1; try clear c3; try clear c3b0; try clear c3b1; try clear c3b2
   obtain ⟨x13_1, rfl, HA, HK1, ⟨m1, rfl⟩⟩ := hrel
   cases gk with
   | zero => exact absurd HA.out (by simp [slices_Equal_int_int.l0])
   | succ k1 =>
    have H := HA.out
    clear HA
    simp only [slices_Equal_int_int.l0] at H
    replace H := gi H; obtain ⟨c4b0, H⟩ | ⟨c4b0, H⟩ := H
    ·replace H := gd H; obtain ⟨c5b0, H⟩ := H
     replace H := gd H; obtain ⟨c6b0, H⟩ := H
     replace H := gd H; obtain ⟨c7b0, H⟩ := H
     by_cases c8 : (rd l0 x13_1) = (rd l1 x13_1)
     ·rw [if_pos c8] at H
      have c8b0 : ((rd l0 x13_1) == (rd l1 x13_1)) = true := beq_iff_eq.mpr c8
      have c8b1 : ((rd l0 x13_1) != (rd l1 x13_1)) = false := bne_eq_false_iff_eq.mpr c8
      clear c8
      have H' := am H
      clear H
      obtain ⟨⟨ad415, e415, hx415_0⟩, p415, q415⟩ := pq (Kd.at_int HR0.out x13_1)
      cases e415
      obtain ⟨⟨ad416, e416, hx416_0⟩, p416, q416⟩ := pq (Kd.at_int HR1.out x13_1)
      cases e416
      go_wp2
      repeat (go_quiet (fail); try go_wp2)
      go_roundg k1
      case measure => have := HK1.out; omega
      case rel => exact ⟨(wrap64 (x13_1 + 1)), rr, H', ⟨by have := HK1.out; omega⟩, dw⟩
     rw [if_neg c8] at H
     have c8b0 : ((rd l0 x13_1) == (rd l1 x13_1)) = false := beq_eq_false_iff_ne.mpr c8
     have c8b1 : ((rd l0 x13_1) != (rd l1 x13_1)) = true := bne_iff_ne.mpr c8
     obtain rfl := Option.some.inj H
     obtain ⟨⟨ad415, e415, hx415_0⟩, p415, q415⟩ := pq (Kd.at_int HR0.out x13_1)
     cases e415
     obtain ⟨⟨ad416, e416, hx416_0⟩, p416, q416⟩ := pq (Kd.at_int HR1.out x13_1)
     cases e416
     go_wp2
     repeat (go_quiet (fail); try go_wp2)
     go_ret
     exact ⟨rr, dw⟩
    obtain rfl := Option.some.inj H
    go_wp2
    repeat (go_quiet (fail); try go_wp2)
    go_ret
    exact ⟨rr, dw⟩
 rw [if_neg c3] at H
 have c3b0 : ((l0.length : Int) == (l1.length : Int)) = false := beq_eq_false_iff_ne.mpr c3
 have c3b1 : ((l0.length : Int) != (l1.length : Int)) = true := bne_iff_ne.mpr c3
 have c3b2 : (l0.length == l1.length) = false := by first | simpa using c3 | (simp at c3 ⊢; omega)
 obtain rfl := Option.some.inj H
 go_enter Try.func63, Try.ntmps63
 go_wp2
 repeat (go_quiet (fail); try go_wp2)
 go_ret
 exact ⟨rr, dw⟩


/-! ### impl_FromGaps: function 29 -/
mutual
def impl_FromGaps.j0 : Nat → List Int → Bool → Option (List Int × Bool)
 | 0, _, _ => none
 | k + 1, x0, x23 => if x23 = true then (some (([] : List Int), false)) else (if 401 ≤ 281474976710656 then (impl_FromGaps.l0 k x0 (List.replicate 401 false) x0 (x0.length : Int) 0) else (none))
def impl_FromGaps.l0 : Nat → List Int → List Bool → List Int → Int → Int → Option (List Int × Bool)
 | 0, _, _, _, _, _ => none
 | k + 1, x0, x6, x26, x27, x28 => if x28 < x27 then (if 0 ≤ x28 then (if x28 < (x26.length : Int) then (if 0 ≤ (rd x26 x28) then (if (rd x26 x28) < (x6.length : Int) then (impl_FromGaps.l0 k x0 (x6.set ((rd x26 x28) : Int).toNat true) x26 x27 (wrap64 (x28 + 1))) else (none)) else (none)) else (none)) else (none)) else (impl_FromGaps.l1 k x0 x6 1 ([] : List Int))
def impl_FromGaps.l1 : Nat → List Int → List Bool → Int → List Int → Option (List Int × Bool)
 | 0, _, _, _, _ => none
 | k + 1, x0, x6, x10, x429000 => if x10 < (x6.length : Int) then (if 0 ≤ x10 then (impl_FromGaps.l2 k x0 x6 x10 (rdOf false x6 x10) 1 x429000) else (none)) else ((impl_IsSemigroup.f k x429000).bind fun t435 => (if t435 = true then ((impl_Gaps.f k x429000).bind fun t436 => ((slices_Equal_int_int.f k t436 x0).bind fun t439 => (if t439 = true then (some (x429000, true)) else (some (([] : List Int), false))))) else (some (([] : List Int), false))))
def impl_FromGaps.l2 : Nat → List Int → List Bool → Int → Bool → Int → List Int → Option (List Int × Bool)
 | 0, _, _, _, _, _, _ => none
 | k + 1, x0, x6, x10, x11, x12, x429000 => if (wrap64 (2 * x12)) ≤ x10 then (if x11 = true then (impl_FromGaps.l1 k x0 x6 (wrap64 (x10 + 1)) x429000) else (if 0 ≤ x12 then (if x12 < (x6.length : Int) then (if rdOf false x6 x12 = true then (impl_FromGaps.l2 k x0 x6 x10 false (wrap64 (x12 + 1)) x429000) else (if 0 ≤ (wrap64 (x10 - x12)) then (if (wrap64 (x10 - x12)) < (x6.length : Int) then (impl_FromGaps.l2 k x0 x6 x10 (!(rdOf false x6 (wrap64 (x10 - x12)))) (wrap64 (x12 + 1)) x429000) else (none)) else (none))) else (none)) else (none))) else (if x11 = true then (impl_FromGaps.l1 k x0 x6 (wrap64 (x10 + 1)) x429000) else (if x429000.length < 17592186044416 then (impl_FromGaps.l1 k x0 x6 (wrap64 (x10 + 1)) (x429000 ++ [x10])) else (none)))
end
def impl_FromGaps.f (k : Nat) (l0 : List Int) : Option (List Int × Bool) := (impl_GapClash.f k l0).bind fun bt418 => (if bt418.2.2 = true then (impl_FromGaps.j0 k l0 true) else ((impl_gapList.f k l0).bind fun t422 => (impl_FromGaps.j0 k l0 (!t422))))
set_option maxHeartbeats 8000000 in
set_option maxRecDepth 100000 in
theorem impl_FromGaps.calls (k : Nat) (A0 : Option Addr) (c0 : Nat) (l0 : List Int) (r1 : List Int) (r2 : Bool) (w : World) (hr0 : Kd.C (Kd.int .i64) w A0 l0.length l0) (hc0 : l0.length ≤ c0) (h : impl_FromGaps.f k l0 = some (r1, r2)) :
  Calls Try.prog 29 #[.slice A0 l0.length c0] w fun e w' => ∃ v0_ : Value, e = .returned (.tuple #[.agg #[v0_], .bool r2]) ∧ Kd.R (Kd.int .i64) 3 w' w.heap.size (fun _ => True) v0_ r1 ∧ Below w.heap.size w w' := by
 have hu26 := Try.underlying26
 have hu54 := Try.underlying54
 have HR0 := am hr0
 have HC0 := am hc0
 clear hr0 hc0
 have HB := am (Below.refl w.heap.size w)
 have H : ((impl_GapClash.f k l0).bind fun bt418 => (if bt418.2.2 = true then (impl_FromGaps.j0 k l0 true) else ((impl_gapList.f k l0).bind fun t422 => (impl_FromGaps.j0 k l0 (!t422))))) = some (r1, r2) := h
 clear h
 replace H := ga H; obtain ⟨⟨t418, t419, t420⟩, A2, H⟩ := H
 replace H : (if t420 = true then (impl_FromGaps.j0 k l0 true) else ((impl_gapList.f k l0).bind fun t422 => (impl_FromGaps.j0 k l0 (!t422)))) = some (r1, r2) := H
 have HC3 := am H
 clear H
 go_enter Try.func29, Try.ntmps29
 go_upto_region 2 with (first | ((with_reducible refine gate_dst (N := 2) rfl ?_); refine bx 2 #[.slice none 0 0] 26 ?_; intro gb417 hg w4 hbox hb; have BK417 := am (hbox); have GW417 := am (gs hg : w.heap.size ≤ gb417); have GE417 := GW417; replace HB := am (below_step bw hb); clear hb hbox hg) | ((with_reducible refine gate_callee (f := 61) rfl ?_); refine gl (some 15) Try.func61 #[.slice A0 l0.length c0] ?_; (with_reducible refine (impl_GapClash.calls k _ _ l0 t418 t419 t420 _ ?side1 ?side2 A2.out).mono ?_); (case side1 => exact co (Kd.C_below HR0.out HB.out)); (case side2 => exact HC0.out); rintro e w5 ⟨rfl, hb⟩; refine ⟨_, rfl, ?_⟩; replace BK417 := kb BK417 hb; replace HB := am (below_step bw hb); clear hb) | ((with_reducible refine gate_dst (N := 4) rfl ?_); refine bx 4 #[.int .i64 0, .int .i64 0] 54 ?_; intro gb421 hg w6 hbox hb; have BK421 := am (hbox); have GW421 := am (gs hg : w.heap.size ≤ gb421); have GE421 := GW421; replace HB := am (below_step bw hb); have NB417_421 := nl hg BK417; have NB421_417 := ns NB417_421; replace BK417 := kb BK417 hb; clear hb hbox hg; have hnb7 := NB421_417.out; have hnc7 := NB417_421.out; have hcz8_0 := bc BK421 0 (.int .i64 0); have hcz8_1 := bc BK421 1 (.int .i64 0); have hfz8_0 := blk_frozen BK421.out 0; have hfz8_1 := blk_frozen BK421.out 1))
 (try simp only [Act.put, List.setIfInBounds_toArray, List.set_cons_zero, List.set_cons_succ])
 go_cut [23] (fun v23 wc => ∃ (kq : Nat) (x23_2 : Bool), v23 = .bool x23_2 ∧ Aside0 (impl_FromGaps.j0 kq l0 x23_2 = some (r1, r2)) ∧ Aside0 (kq ≤ k) ∧ Aside0 (wc.heap[gb417]? = some (.cells #[(.slice none 0 0)] 26 (0, 0))) ∧ Aside0 (wc.heap[gb421]? = some (.cells #[.int .i64 t418, .int .i64 t419] 54 (0, 0))) ∧ Aside0 (Below w.heap.size w wc))
 case first =>
  have H := HC3.out
  clear HC3
  replace H := gb H; obtain ⟨rfl, H⟩ | ⟨rfl, H⟩ := H
  ·have H' := am H
   clear H
   go_wp2
   go_meet
   case rel => exact ⟨_, (true), rr, H', ⟨om⟩, ⟨bf BK417.out⟩, ⟨by (with_reducible repeat (first | refine blk_drewN ?_ _ | refine blk_drew ?_ | refine blk_alloc ?_ _)); refine blk_put (cs := #[.int .i64 t418, .int .i64 0]) ?_ 1 _ rfl; (with_reducible repeat (first | refine blk_drewN ?_ _ | refine blk_drew ?_ | refine blk_alloc ?_ _)); refine blk_put (cs := #[.int .i64 0, .int .i64 0]) ?_ 0 _ rfl; (with_reducible repeat (first | refine blk_drewN ?_ _ | refine blk_drew ?_ | refine blk_alloc ?_ _)); exact BK421.out⟩, ⟨bw⟩⟩
  replace H := ga H; obtain ⟨t422, A10, H⟩ := H
  have H' := am H
  clear H
  go_wp2_with (first | (go_at_call 62; (with_reducible refine (impl_gapList.calls k _ _ l0 t422 _ ?side1 ?side2 A10.out).mono ?_); (case side1 => exact Kd.C_below HR0.out bw); (case side2 => exact HC0.out); rintro e w' ⟨rfl, ⟨nd, rfl⟩⟩))
  go_meet
  case rel => exact ⟨_, (!t422), rr, H', ⟨om⟩, ⟨bf BK417.out⟩, ⟨by (with_reducible repeat (first | refine blk_drewN ?_ _ | refine blk_drew ?_ | refine blk_alloc ?_ _)); refine blk_put (cs := #[.int .i64 t418, .int .i64 0]) ?_ 1 _ rfl; (with_reducible repeat (first | refine blk_drewN ?_ _ | refine blk_drew ?_ | refine blk_alloc ?_ _)); refine blk_put (cs := #[.int .i64 0, .int .i64 0]) ?_ 0 _ rfl; (with_reducible repeat (first | refine blk_drewN ?_ _ | refine blk_drew ?_ | refine blk_alloc ?_ _)); exact BK421.out⟩, ⟨bw⟩⟩
 case rest =>
  clear HC3
  try clear hcz8_0; try clear hcz8_1; try clear hfz8_0; try clear hfz8_1
  obtain ⟨kq, x23_2, rfl, HA, HJ2, BK417, BK421, HB⟩ := hcut
  cases kq with
  | zero => exact absurd HA.out (by simp [impl_FromGaps.j0])
  | succ kj2 =>
   have H := HA.out
   clear HA
   simp only [impl_FromGaps.j0] at H
   replace H := gb H; obtain ⟨rfl, H⟩ | ⟨rfl, H⟩ := H
   ·simp only [Option.some.injEq, Prod.mk.injEq] at H
    obtain ⟨rfl, rfl⟩ := H
    have hnb12 := NB417_421.out
    have hnc12 := NB421_417.out
    have hcz13_0 := bc BK417 0 (.slice none 0 0)
    have hfz13_0 := blk_frozen BK417.out 0
    go_wp2
    refine bodyPost_ret (results_ct rfl _ _ gb417 26 #[.slice none 0 0] (0, 0) _ rfl (by (with_reducible repeat (first | refine blk_drewN ?_ _ | refine blk_drew ?_ | refine blk_alloc ?_ _)); refine blk_put (cs := #[.slice none 0 0]) ?_ 0 _ rfl; (with_reducible repeat (first | refine blk_drewN ?_ _ | refine blk_drew ?_ | refine blk_alloc ?_ _)); exact BK417.out) Try.underlying26 rfl (by kernel_rfl)) rfl ?_
    exact ⟨_, re, by first | exact Kd.R_nil _ _ _ _ _ | exact Kd.N_nil _ _ _ _ _ | exact Kd.V_nil _ _ _ _ _ | exact Kd.Q_nil _ _ _ _ _ | exact Kd.S_nil _ _ _ _ _, bw⟩
   replace H := gp H; obtain ⟨c14, H⟩ := H
   have c14b0 := eq_true c14
   have c14b1 : decide (401 ≤ 281474976710656) = true := decide_eq_true c14
   clear c14
   obtain ⟨y423, hy423⟩ : ∃ y_ : List Bool, y_ = (List.replicate 401 false) := ⟨_, rfl⟩
   replace H : (impl_FromGaps.l0 kj2 l0 y423 l0 (l0.length : Int) 0) = some (r1, r2) := by first | (rw [hy423]; with_reducible first | exact H | exact bs H) | (with_reducible first | exact bs H | exact H) | (rw [hy423]; exact H) | exact H
   have Ny423 := am hy423
   clear hy423
   have H' := am H
   clear H
   go_wp2_with (first | ((with_reducible refine gate_dst (N := 25) rfl ?_); refine Kd.R_make Kd.bool _ 4 rfl (N := 25) rfl 57 _ _ rfl 401 rfl rfl Try.underlying57 (.bool false) 1 info4 rfl (by decide) (by omega) false (ok := fun _ => True) (okp := fun _ => True) rfl (fun _ hk => hk) trivial (by omega) (by omega) (Below.refl _ _) (Nat.le_refl _) ?_; intro v424 w15 ho16 hb hg_ hnew_; clear hg_ hnew_; (first | rw [← Ny423.out] at ho16 | (simp only [Int.reduceToNat] at ho16; rw [← Ny423.out] at ho16)); have HO425 := am (Kd.R_lower ho16 (below_size bw)); replace BK417 := kb BK417 hb; replace BK421 := kb BK421 hb; replace HB := am (below_step bw hb); clear hb ho16))
   go_loopg [28] kj2 (fun kq v28 w' => ∃ (x6_2 : List Bool) (x28_2 : Int), v28 = .int .i64 x28_2 ∧ Aside0 (impl_FromGaps.l0 kq l0 x6_2 l0 (l0.length : Int) x28_2 = some (r1, r2)) ∧ Aside0 (kq ≤ kj2) ∧ Aside0 (Kd.R Kd.bool 4 w' w.heap.size (fun _ => True) v424 x6_2) ∧ Aside0 (w'.heap[gb417]? = some (.cells #[(.slice none 0 0)] 26 (0, 0))) ∧ Aside0 (w'.heap[gb421]? = some (.cells #[.int .i64 t418, .int .i64 t419] 54 (0, 0))) ∧ Aside0 (Below w.heap.size w w'))
   case atStart => exact ⟨(y423), (0), rr, H', ⟨Nat.le_refl _⟩, ⟨ro HO425.out⟩, ⟨bo BK417.out⟩, ⟨bo BK421.out⟩, ⟨bw⟩⟩
   case round =>
    clear H'
    try clear c14; try clear c14b0; try clear c14b1; try clear hcz13_0; try clear hcz8_0; try clear hcz8_1; try clear hfz13_0; try clear hfz8_0; try clear hfz8_1
    obtain ⟨x6_2, x28_2, rfl, HA, HK2, HO_6, BK417, BK421, HB⟩ := hrel
    cases gk with
    | zero => exact absurd HA.out (by simp [impl_FromGaps.l0])
    | succ k2 =>
     have H := HA.out
     clear HA
     simp only [impl_FromGaps.l0] at H
     replace H := gi H; obtain ⟨c17b0, H⟩ | ⟨c17b0, H⟩ := H
     ·replace H := gd H; obtain ⟨c18b0, H⟩ := H
      replace H := gd H; obtain ⟨c19b0, H⟩ := H
      replace H := gd H; obtain ⟨c20b0, H⟩ := H
      replace H := gd H; obtain ⟨c21b0, H⟩ := H
      obtain ⟨y427, hy427⟩ : ∃ y_ : List Bool, y_ = (x6_2.set ((rd l0 x28_2) : Int).toNat true) := ⟨_, rfl⟩
      replace H : (impl_FromGaps.l0 k2 l0 y427 l0 (l0.length : Int) (wrap64 (x28_2 + 1))) = some (r1, r2) := by first | (rw [hy427]; with_reducible first | exact H | exact bs H) | (with_reducible first | exact bs H | exact H) | (rw [hy427]; exact H) | exact H
      have Ny427 := am hy427
      clear hy427
      have H' := am H
      clear H
      obtain ⟨⟨ad426, e426, hx426_0⟩, p426, q426⟩ := pq (Kd.at_int HR0.out x28_2)
      cases e426
      replace hx426_0 := hw HB hx426_0
      have p22 : 0 ≤ ((rd l0 x28_2) : Int) := of_decide_eq_true (by first | (with_reducible assumption) | assumption)
      have q22 : ((rd l0 x28_2) : Int) < ((x6_2.length : Int) : Int) := of_decide_eq_true (by first | (with_reducible assumption) | assumption)
      obtain ⟨go22, co22, eo22, gb22, gl22, cl22, HG22⟩ := Kd.R_form HO_6.out (by omega)
      (first | cases eo22 | (injection eo22 with ea_ en_ ec_; (first | subst ea_ | (injection ea_ with ea_; subst ea_)); subst ec_; clear en_))
      have GB22 := am gb22
      have GG22 := am HG22
      clear gb22 gl22 HG22
      obtain ⟨hx22_0, hf22_0⟩ := Kd.R_celln false HO_6.out ((rd l0 x28_2) : Int) p22 q22
      replace p22 := eq_true p22
      replace q22 := eq_true q22
      have HP23 := Kd.R_putg HO_6.out ((rd l0 x28_2) : Int) true
      go_wp2_with (first | ((with_reducible refine gate_store (t := 4) (p := 34) rfl ?_); refine store_event (t := 4) (p := 34) (v := ?vo_w24) (w1 := (wr.setCell ⟨go22, ((rd l0 x28_2) : Int).toNat, none⟩ (.bool true))) ?hg ?ho ?hn ?hr ?_; (case ho => rfl); (case hg => rfl); (case hn => rfl); (case hr => first | (go_simp; done) | (go_simp; rfl)); intro w24 hw; have hg : wr.grownBy w24 (some go22) := (by rw [hw]; exact HP23.2); have hp_ : Kd.R Kd.bool 4 w24 w.heap.size (fun _ => True) (.slice (some ⟨go22, 0, none⟩) x6_2.length co22) y427 := (by rw [hw, Ny427.out]; exact HP23.1); clear HP23; replace BK417 := am (blk_grown (g := gb417) (o := .cells #[.slice none 0 0] 26 (0, 0)) (bo BK417.out) hg (Kd.R_ne HO_6.out BK417.out (by decide))); replace BK421 := am (blk_grown (g := gb421) (o := .cells #[.int .i64 t418, .int .i64 t419] 54 (0, 0)) (bo BK421.out) hg (Kd.R_ne HO_6.out BK421.out (by decide))); replace HO_6 := am (hp_); replace HB := am ((by rw [hw]; exact below_set (HB.out) GB22.out : Below w.heap.size w w24)); clear hg hw hp_))
      go_roundg k2
      case measure => have := HJ2.out; have := HK2.out; omega
      case rel => exact ⟨(y427), (wrap64 (x28_2 + 1)), rr, H', ⟨by have := HJ2.out; have := HK2.out; omega⟩, ⟨ro HO_6.out⟩, ⟨bo BK417.out⟩, ⟨bo BK421.out⟩, ⟨bw⟩⟩
     have H' := am H
     clear H
     go_wp2_with (first | ((with_reducible refine gate_dst (N := 9) rfl ?_); refine bx 9 #[.slice none 0 0] 26 ?_; intro gb428 hg w25 hbox hb; replace HO_6 := rK HO_6 hb; have BK428 := am (hbox); have GW428 := am (gs hg : w.heap.size ≤ gb428); have GE428 := GW428; replace HB := am (below_step bw hb); have NB417_428 := nl hg BK417; have NB428_417 := ns NB417_428; replace BK417 := kb BK417 hb; have NB421_428 := nl hg BK421; have NB428_421 := ns NB421_428; replace BK421 := kb BK421 hb; clear hb hbox hg; have hnb26 := NB428_417.out; have hnc26 := NB417_428.out; have hnb27 := NB428_421.out; have hnc27 := NB421_428.out; have hcz28_0 := bc BK428 0 (.slice none 0 0); have hfz28_0 := blk_frozen BK428.out 0))
     go_loopg [10] k2 (fun kq v10 w' => ∃ (x10_3 : Int) (x429000_3 : List Int) (u429000 : Value), v10 = .int .i64 x10_3 ∧ Aside0 (impl_FromGaps.l1 kq l0 x6_2 x10_3 x429000_3 = some (r1, r2)) ∧ Aside0 (kq ≤ k2) ∧ Aside0 (Kd.R Kd.bool 4 w' w.heap.size (fun _ => True) v424 x6_2) ∧ Aside0 (Kd.R (Kd.int .i64) 3 w' w.heap.size (fun _ => True) u429000 x429000_3) ∧ Aside0 (w'.heap[gb417]? = some (.cells #[(.slice none 0 0)] 26 (0, 0))) ∧ Aside0 (w'.heap[gb421]? = some (.cells #[.int .i64 t418, .int .i64 t419] 54 (0, 0))) ∧ Aside0 (w'.heap[gb428]? = some (.cells #[u429000] 26 (0, 0))) ∧ Aside0 (Below w.heap.size w w'))
     case atStart => exact ⟨(1), (([] : List Int)), (.slice none 0 0), rr, H', ⟨Nat.le_refl _⟩, ⟨by (with_reducible repeat (first | apply Kd.R_alloc | apply Kd.R_drewN | apply Kd.R_drew)); exact Kd.R_mono (Kd.R_far (p := ⟨gb428, 0, none⟩) (Kd.R_types HO_6.out BK428.out (by decide)) (fun _ hk => hk.2) (.slice none 0 0)) (fun _ hk => trivial)⟩, ⟨by first | exact Kd.R_nil _ _ _ _ _ | exact Kd.N_nil _ _ _ _ _ | exact Kd.V_nil _ _ _ _ _ | exact Kd.Q_nil _ _ _ _ _ | exact Kd.S_nil _ _ _ _ _⟩, ⟨bf BK417.out⟩, ⟨bf BK421.out⟩, ⟨by (with_reducible repeat (first | refine blk_drewN ?_ _ | refine blk_drew ?_ | refine blk_alloc ?_ _)); refine blk_put (cs := #[.slice none 0 0]) ?_ 0 _ rfl; (with_reducible repeat (first | refine blk_drewN ?_ _ | refine blk_drew ?_ | refine blk_alloc ?_ _)); exact BK428.out⟩, ⟨bw⟩⟩
     case round =>
      clear H'
      try clear c14; try clear c14b0; try clear c14b1; try clear c17b0; try clear c18b0; try clear c19b0; try clear c20b0; try clear c21b0; try clear p22; try clear q22; try clear hcz13_0; try clear hcz28_0; try clear hcz8_0; try clear hcz8_1; try clear hfz13_0; try clear hfz28_0; try clear hfz8_0; try clear hfz8_1; try clear hx22_0; try clear hx426_0; try clear p426; try clear q426
      obtain ⟨x10_3, x429000_3, u429000, rfl, HA, HK3, HO_6, HO_429000, BK417, BK421, BK428, HB⟩ := hrel
      cases gk with
      | zero => exact absurd HA.out (by simp [impl_FromGaps.l1])
      | succ k3 =>
       have H := HA.out
       clear HA
       simp only [impl_FromGaps.l1] at H
       replace H := gi H; obtain ⟨c29b0, H⟩ | ⟨c29b0, H⟩ := H
       ·replace H := gd H; obtain ⟨c30b0, H⟩ := H
        have H' := am H
        clear H
        obtain ⟨Ao31, co31, eo31⟩ := Kd.R_slice HO_6.out
        subst eo31
        obtain ⟨⟨ad429, e429, hx429_0⟩, p429, q429⟩ := pq (Kd.at_bool (Kd.R_reads' HO_6.out).2.2 x10_3)
        cases e429
        go_wp2
        go_loopg [11, 12] k3 (fun kq v11 v12 w' => ∃ (x11_4 : Bool) (x12_4 : Int), v11 = .bool x11_4 ∧ v12 = .int .i64 x12_4 ∧ Aside0 (impl_FromGaps.l2 kq l0 x6_2 x10_3 x11_4 x12_4 x429000_3 = some (r1, r2)) ∧ Aside0 (kq ≤ k3) ∧ Aside0 (Kd.R Kd.bool 4 w' w.heap.size (fun _ => True) (.slice (some ad429) x6_2.length co31) x6_2) ∧ Aside0 (Kd.R (Kd.int .i64) 3 w' w.heap.size (fun _ => True) u429000 x429000_3) ∧ Aside0 (w'.heap[gb417]? = some (.cells #[(.slice none 0 0)] 26 (0, 0))) ∧ Aside0 (w'.heap[gb421]? = some (.cells #[.int .i64 t418, .int .i64 t419] 54 (0, 0))) ∧ Aside0 (w'.heap[gb428]? = some (.cells #[u429000] 26 (0, 0))) ∧ Aside0 (Below w.heap.size w w'))
        case atStart => exact ⟨(rdOf false x6_2 x10_3), (1), rr, rr, H', ⟨Nat.le_refl _⟩, ⟨ro HO_6.out⟩, ⟨ro HO_429000.out⟩, ⟨bo BK417.out⟩, ⟨bo BK421.out⟩, ⟨bo BK428.out⟩, ⟨bw⟩⟩
        case round =>
         clear H'
         try clear c14; try clear c14b0; try clear c14b1; try clear c17b0; try clear c18b0; try clear c19b0; try clear c20b0; try clear c21b0; try clear p22; try clear q22; try clear c29b0; try clear c30b0; try clear hcz13_0; try clear hcz28_0; try clear hcz8_0; try clear hcz8_1; try clear hfz13_0; try clear hfz28_0; try clear hfz8_0; try clear hfz8_1; try clear hx22_0; try clear hx426_0; try clear hx429_0; try clear p426; try clear p429; try clear q426; try clear q429
         obtain ⟨x11_4, x12_4, rfl, rfl, HA, HK4, HO_6, HO_429000, BK417, BK421, BK428, HB⟩ := hrel
         cases gk with
         | zero => exact absurd HA.out (by simp [impl_FromGaps.l2])
         | succ k4 =>
          have H := HA.out
          clear HA
          simp only [impl_FromGaps.l2] at H
          replace H := gi H; obtain ⟨c32b0, H⟩ | ⟨c32b0, H⟩ := H
          ·replace H := gb H; obtain ⟨rfl, H⟩ | ⟨rfl, H⟩ := H
           ·have H' := am H
            clear H
            go_wp2
            go_roundg k4
            case measure => have := HJ2.out; have := HK2.out; have := HK3.out; have := HK4.out; omega
            case rel => exact ⟨(wrap64 (x10_3 + 1)), (x429000_3), (u429000), rr, H', ⟨by have := HJ2.out; have := HK2.out; have := HK3.out; have := HK4.out; omega⟩, ⟨ro HO_6.out⟩, ⟨ro HO_429000.out⟩, ⟨bo BK417.out⟩, ⟨bo BK421.out⟩, ⟨bo BK428.out⟩, ⟨bw⟩⟩
           replace H := gd H; obtain ⟨c34b0, H⟩ := H
           replace H := gd H; obtain ⟨c35b0, H⟩ := H
           obtain ⟨bq36, hbq36⟩ : ∃ b_ : Bool, b_ = (rdOf false x6_2 x12_4) := ⟨_, rfl⟩
           replace H : (if bq36 = true then (impl_FromGaps.l2 k4 l0 x6_2 x10_3 false (wrap64 (x12_4 + 1)) x429000_3) else (if 0 ≤ (wrap64 (x10_3 - x12_4)) then (if (wrap64 (x10_3 - x12_4)) < (x6_2.length : Int) then (impl_FromGaps.l2 k4 l0 x6_2 x10_3 (!(rdOf false x6_2 (wrap64 (x10_3 - x12_4)))) (wrap64 (x12_4 + 1)) x429000_3) else (none)) else (none))) = some (r1, r2) := by rw [← hbq36] at H; exact H
           have Nbq36 := am hbq36
           clear hbq36
           replace H := gb H; obtain ⟨rfl, H⟩ | ⟨rfl, H⟩ := H
           ·have H' := am H
            clear H
            obtain ⟨⟨ad430, e430, hx430_0⟩, p430, q430⟩ := pq (Kd.at_bool (Kd.R_reads' HO_6.out).2.2 x12_4)
            (try rw [← Nbq36.out] at hx430_0)
            obtain rfl : ad429 = ad430 := (by injection e430)
            go_wp2
            go_roundg k4
            case measure => have := HJ2.out; have := HK2.out; have := HK3.out; have := HK4.out; omega
            case rel => exact ⟨(false), (wrap64 (x12_4 + 1)), rr, rr, H', ⟨by have := HJ2.out; have := HK2.out; have := HK3.out; have := HK4.out; omega⟩, ⟨ro HO_6.out⟩, ⟨ro HO_429000.out⟩, ⟨bo BK417.out⟩, ⟨bo BK421.out⟩, ⟨bo BK428.out⟩, ⟨bw⟩⟩
           obtain ⟨ji38, hji38⟩ : ∃ j_ : Int, (wrap64 (x10_3 - x12_4)) = j_ := ⟨_, rfl⟩
           replace H : (if 0 ≤ (ji38) then (if (ji38) < (x6_2.length : Int) then (impl_FromGaps.l2 k4 l0 x6_2 x10_3 (!(rdOf false x6_2 (ji38))) (wrap64 (x12_4 + 1)) x429000_3) else (none)) else (none)) = some (r1, r2) := by first | (rw [hji38] at H; exact H) | (simp only [hji38] at H ⊢; exact H)
           have hji38w : (IntKind.i64.wrap (x10_3 - x12_4)) = ji38 := (i64_w _).trans hji38
           replace H := gd H; obtain ⟨c39b0, H⟩ := H
           replace H := gd H; obtain ⟨c40b0, H⟩ := H
           have H' := am H
           clear H
           obtain ⟨⟨ad430, e430, hx430_0⟩, p430, q430⟩ := pq (Kd.at_bool (Kd.R_reads' HO_6.out).2.2 x12_4)
           (try rw [← Nbq36.out] at hx430_0)
           obtain rfl : ad429 = ad430 := (by injection e430)
           obtain ⟨⟨ad431, e431, hx431_0⟩, p431, q431⟩ := pq (Kd.at_bool (Kd.R_reads' HO_6.out).2.2 (ji38))
           (try rw [← Nbq36.out] at hx431_0)
           obtain rfl : ad429 = ad431 := (by injection e431)
           go_wp2
           go_roundg k4
           case measure => have := HJ2.out; have := HK2.out; have := HK3.out; have := HK4.out; omega
           case rel => exact ⟨(!(rdOf false x6_2 (ji38))), (wrap64 (x12_4 + 1)), (by first | rfl | (simp; done) | (simp only [← hji38] <;> (first | rfl | simp)) | (simp [*]; done)), rr, H', ⟨by have := HJ2.out; have := HK2.out; have := HK3.out; have := HK4.out; omega⟩, ⟨ro HO_6.out⟩, ⟨ro HO_429000.out⟩, ⟨bo BK417.out⟩, ⟨bo BK421.out⟩, ⟨bo BK428.out⟩, ⟨bw⟩⟩
          replace H := gb H; obtain ⟨rfl, H⟩ | ⟨rfl, H⟩ := H
          ·have H' := am H
           clear H
           go_wp2
           go_roundg k4
           case measure => have := HJ2.out; have := HK2.out; have := HK3.out; have := HK4.out; omega
           case rel => exact ⟨(wrap64 (x10_3 + 1)), (x429000_3), (u429000), rr, H', ⟨by have := HJ2.out; have := HK2.out; have := HK3.out; have := HK4.out; omega⟩, ⟨ro HO_6.out⟩, ⟨ro HO_429000.out⟩, ⟨bo BK417.out⟩, ⟨bo BK421.out⟩, ⟨bo BK428.out⟩, ⟨bw⟩⟩
          by_cases c42 : x429000_3.length < 17592186044416
          rotate_left
          ·rw [if_neg c42] at H
           exact absurd H (by simp)
          rw [if_pos c42] at H
          have LMc42 := am c42
          clear c42
          obtain ⟨y432, hy432⟩ : ∃ y_ : List Int, y_ = (x429000_3 ++ [x10_3]) := ⟨_, rfl⟩
          replace H : (impl_FromGaps.l1 k4 l0 x6_2 (wrap64 (x10_3 + 1)) y432) = some (r1, r2) := by first | (rw [hy432]; with_reducible first | exact H | exact bs H) | (with_reducible first | exact bs H | exact H) | (rw [hy432]; exact H) | exact H
          have Ny432 := am hy432
          clear hy432
          have H' := am H
          clear H
          have hnb43 := NB428_417.out
          have hnc43 := NB417_428.out
          have hnb44 := NB428_421.out
          have hnc44 := NB421_428.out
          have hcz45_0 := bc BK428 0 (u429000)
          have hfz45_0 := blk_frozen BK428.out 0
          go_wp2_with (first | ((with_reducible refine gate_builtin (b := .append) (xs := #[.tmp 74, .tmp 76]) rfl ?_); at_builtin; refine Kd.R_append (Kd.int .i64) (w0 := w) w.heap.size rfl (.tmp 74) (.tmp 76) 22 3 (.int .i64 0) 8 rfl Try.underlying22 info3 rfl (by decide) (by omega) u429000 x429000_3 x10_3 [.int .i64 x10_3] (fun _ => True) (fun _ => False) rfl rfl ?aP (fun _ hk => hk.elim) ?aF ?aO ?aB ?aS ?aL ?_; (case aP => exact rfl); (case aB => exact bw); (case aF => exact (fun _ _ => trivial)); (case aO => exact (ro HO_429000.out)); (case aS => exact (below_size bw)); (case aL => have := LMc42.out; omega); intro v433 w46 ho hb hg hat; rw [← Ny432.out] at ho; replace HO_6 := am (Kd.R_over' (ro HO_6.out) (Kd.R_typed (ro HO_429000.out)) (by decide) hg); replace BK417 := am (blk_grown (g := gb417) (o := .cells #[.slice none 0 0] 26 (0, 0)) (bo BK417.out) hg (Kd.R_ne HO_429000.out BK417.out (by decide))); replace BK421 := am (blk_grown (g := gb421) (o := .cells #[.int .i64 t418, .int .i64 t419] 54 (0, 0)) (bo BK421.out) hg (Kd.R_ne HO_429000.out BK421.out (by decide))); replace BK428 := am (blk_grown (g := gb428) (o := .cells #[u429000] 26 (0, 0)) (bo BK428.out) hg (Kd.R_ne HO_429000.out BK428.out (by decide))); replace HB := am (hb); have HO434 := am (ho); clear HO_429000 ho hb hg hat; obtain ⟨Ao47, co47, eo47⟩ := Kd.R_slice HO434.out; subst eo47; have hcz48_0 := bc BK428 0 (u429000); have hfz48_0 := blk_frozen BK428.out 0))
          go_roundg k4
          case measure => have := HJ2.out; have := HK2.out; have := HK3.out; have := HK4.out; omega
          case rel => exact ⟨(wrap64 (x10_3 + 1)), (y432), (.slice Ao47 y432.length co47), rr, H', ⟨by have := HJ2.out; have := HK2.out; have := HK3.out; have := HK4.out; omega⟩, ⟨by (with_reducible repeat (first | apply Kd.R_alloc | apply Kd.R_drewN | apply Kd.R_drew)); exact Kd.R_mono (Kd.R_far (p := ⟨gb428, 0, none⟩) (Kd.R_types HO_6.out BK428.out (by decide)) (fun _ hk => hk.2) (.slice Ao47 y432.length co47)) (fun _ hk => trivial)⟩, ⟨by (with_reducible repeat (first | apply Kd.R_alloc | apply Kd.R_drewN | apply Kd.R_drew)); exact Kd.R_mono (Kd.R_far (p := ⟨gb428, 0, none⟩) (Kd.R_types HO434.out BK428.out (by decide)) (fun _ hk => hk.2) (.slice Ao47 y432.length co47)) (fun _ hk => trivial)⟩, ⟨bf BK417.out⟩, ⟨bf BK421.out⟩, ⟨by (with_reducible repeat (first | refine blk_drewN ?_ _ | refine blk_drew ?_ | refine blk_alloc ?_ _)); refine blk_put (cs := #[u429000]) ?_ 0 _ rfl; (with_reducible repeat (first | refine blk_drewN ?_ _ | refine blk_drew ?_ | refine blk_alloc ?_ _)); exact BK428.out⟩, ⟨bw⟩⟩
       replace H := ga H; obtain ⟨t435, A49, H⟩ := H
       replace H := gb H; obtain ⟨rfl, H⟩ | ⟨rfl, H⟩ := H
       ·replace H := ga H; obtain ⟨t436, A51, H⟩ := H
        replace H := ga H; obtain ⟨t439, A52, H⟩ := H
        replace H := gb H; obtain ⟨rfl, H⟩ | ⟨rfl, H⟩ := H
        ·simp only [Option.some.injEq, Prod.mk.injEq] at H
         obtain ⟨rfl, rfl⟩ := H
         obtain ⟨Ao54, co54, eo54⟩ := Kd.R_slice HO_6.out
         subst eo54
         have hnb55 := NB428_417.out
         have hnc55 := NB417_428.out
         have hnb56 := NB428_421.out
         have hnc56 := NB421_428.out
         have hcz57_0 := bc BK428 0 (u429000)
         have hfz57_0 := blk_frozen BK428.out 0
         obtain ⟨Ao58, co58, eo58⟩ := Kd.R_slice HO_429000.out
         subst eo58
         go_wp2_with (first | ((with_reducible refine gate_callee (f := 27) rfl ?_); refine gl (some 80) Try.func27 #[.agg #[.slice Ao58 x429000_3.length co58]] ?_; (with_reducible refine (impl_IsSemigroup.calls k3 _ _ x429000_3 true _ ?side1 ?side2 A49.out).mono ?_); (case side1 => exact co (Kd.R_reads' HO_429000.out).2.2); (case side2 => exact (Kd.R_reads' HO_429000.out).2.1); rintro e w59 ⟨rfl, hb⟩; refine ⟨_, rfl, ?_⟩; replace HO_6 := rK HO_6 hb; replace HO_429000 := rK HO_429000 hb; replace BK417 := kb BK417 hb; replace BK421 := kb BK421 hb; replace BK428 := kb BK428 hb; replace HB := am (below_step bw hb); clear hb; have hcz60_0 := bc BK428 0 (.slice Ao58 x429000_3.length co58); have hfz60_0 := blk_frozen BK428.out 0) | (go_at_call 31; (with_reducible refine (impl_Gaps.calls k3 _ _ x429000_3 t436 _ ?side1 ?side2 A51.out).mono ?_); (case side1 => exact co (Kd.R_reads' HO_429000.out).2.2); (case side2 => exact (Kd.R_reads' HO_429000.out).2.1); rintro e w61 ⟨v437, rfl, ho0, hb⟩; replace HO_6 := rK HO_6 hb; have HO438 := am (Kd.R_lower (Kd.R_new' ho0 (Kd.R_lt (ro HO_429000.out))) (below_size bw)); replace HO_429000 := am (Kd.R_elder' (ro HO_429000.out) (Kd.R_base ho0) hb); replace BK417 := kb BK417 hb; replace BK421 := kb BK421 hb; replace BK428 := kb BK428 hb; replace HB := am (below_step bw hb); clear hb ho0; obtain ⟨Ao62, co62, eo62⟩ := Kd.R_slice HO438.out; subst eo62) | (go_at_call 63; (with_reducible refine (slices_Equal_int_int.calls k3 _ _ t436 _ _ l0 true _ ?side1 ?side2 ?side3 ?side4 A52.out).mono ?_); (case side1 => exact co (Kd.R_reads' HO438.out).2.2); (case side2 => exact (Kd.R_reads' HO438.out).2.1); (case side3 => exact co (Kd.C_below HR0.out HB.out)); (case side4 => exact HC0.out); rintro e w' ⟨rfl, ⟨nd, rfl⟩⟩; (try (rw [drewN_self w61]; generalize hq_ : World.drewN w61 _ = w61; have n0_ : Aside0 (Kd.R (Kd.int .i64) 3 w61 w.heap.size (fun k_ => nb k_ Ao58 x429000_3 co58) (.slice Ao62 t436.length co62) t436) := ⟨by rw [← hq_]; exact (by (with_reducible repeat (first | apply Kd.R_alloc | apply Kd.R_drewN | apply Kd.R_drew)); exact Kd.R_mono HO438.out (fun _ hk => hk.2))⟩; have n1_ : Aside0 (Kd.R (Kd.int .i64) 3 w61 w.heap.size (fun k_ => nb k_ Ao62 t436 co62) (.slice Ao58 x429000_3.length co58) x429000_3) := ⟨by rw [← hq_]; exact (by (with_reducible repeat (first | apply Kd.R_alloc | apply Kd.R_drewN | apply Kd.R_drew)); exact Kd.R_mono HO_429000.out (fun _ hk => hk.2))⟩; have n2_ : Aside0 (Kd.R Kd.bool 4 w61 w.heap.size (fun _ => True) (.slice Ao54 x6_2.length co54) x6_2) := ⟨by rw [← hq_]; exact (ro HO_6.out)⟩; have n3_ : Aside0 (w61.heap[gb417]? = some (.cells #[.slice none 0 0] 26 (0, 0))) := ⟨by rw [← hq_]; exact (bo BK417.out)⟩; have n4_ : Aside0 (w61.heap[gb421]? = some (.cells #[.int .i64 t418, .int .i64 t419] 54 (0, 0))) := ⟨by rw [← hq_]; exact (bo BK421.out)⟩; have n5_ : Aside0 (w61.heap[gb428]? = some (.cells #[.slice Ao58 x429000_3.length co58] 26 (0, 0))) := ⟨by rw [← hq_]; exact (bo BK428.out)⟩; have n6_ : Aside0 (Below w.heap.size w w61) := ⟨by rw [← hq_]; exact bw⟩; clear HO438 HO_429000 HO_6 BK417 BK421 BK428 HB hq_; have HO438 := n0_; have HO_429000 := n1_; have HO_6 := n2_; have BK417 := n3_; have BK421 := n4_; have BK428 := n5_; have HB := n6_; clear n0_ n1_ n2_ n3_ n4_ n5_ n6_)); have hcz63_0 := bc BK428 0 (.slice Ao58 x429000_3.length co58); have hfz63_0 := blk_frozen BK428.out 0; have hnb64 := NB417_421.out; have hnc64 := NB421_417.out; have hcz65_0 := bc BK417 0 (.slice none 0 0); have hfz65_0 := blk_frozen BK417.out 0))
         refine bodyPost_ret (results_ct rfl _ _ gb417 26 #[.slice Ao58 x429000_3.length co58] (0, 0) _ rfl (by (with_reducible repeat (first | refine blk_drewN ?_ _ | refine blk_drew ?_ | refine blk_alloc ?_ _)); refine blk_put (cs := #[.slice none 0 0]) ?_ 0 _ rfl; (with_reducible repeat (first | refine blk_drewN ?_ _ | refine blk_drew ?_ | refine blk_alloc ?_ _)); exact BK417.out) Try.underlying26 rfl (by kernel_rfl)) rfl ?_
         exact ⟨_, re, by (with_reducible repeat (first | apply Kd.R_alloc | apply Kd.R_drewN | apply Kd.R_drew)); exact Kd.R_mono (Kd.R_far (p := ⟨gb417, 0, none⟩) (Kd.R_types HO_429000.out BK417.out (by decide)) (fun _ hk => hk.2) (.slice Ao58 x429000_3.length co58)) (fun _ hk => trivial), bw⟩
        simp only [Option.some.injEq, Prod.mk.injEq] at H
        obtain ⟨rfl, rfl⟩ := H
        obtain ⟨Ao66, co66, eo66⟩ := Kd.R_slice HO_6.out
        subst eo66
        have hnb67 := NB428_417.out
        have hnc67 := NB417_428.out
        have hnb68 := NB428_421.out
        have hnc68 := NB421_428.out
        have hcz69_0 := bc BK428 0 (u429000)
        have hfz69_0 := blk_frozen BK428.out 0
        obtain ⟨Ao70, co70, eo70⟩ := Kd.R_slice HO_429000.out
        subst eo70
        go_wp2_with (first | ((with_reducible refine gate_callee (f := 27) rfl ?_); refine gl (some 80) Try.func27 #[.agg #[.slice Ao70 x429000_3.length co70]] ?_; (with_reducible refine (impl_IsSemigroup.calls k3 _ _ x429000_3 true _ ?side1 ?side2 A49.out).mono ?_); (case side1 => exact co (Kd.R_reads' HO_429000.out).2.2); (case side2 => exact (Kd.R_reads' HO_429000.out).2.1); rintro e w71 ⟨rfl, hb⟩; refine ⟨_, rfl, ?_⟩; replace HO_6 := rK HO_6 hb; replace HO_429000 := rK HO_429000 hb; replace BK417 := kb BK417 hb; replace BK421 := kb BK421 hb; replace BK428 := kb BK428 hb; replace HB := am (below_step bw hb); clear hb; have hcz72_0 := bc BK428 0 (.slice Ao70 x429000_3.length co70); have hfz72_0 := blk_frozen BK428.out 0) | (go_at_call 31; (with_reducible refine (impl_Gaps.calls k3 _ _ x429000_3 t436 _ ?side1 ?side2 A51.out).mono ?_); (case side1 => exact co (Kd.R_reads' HO_429000.out).2.2); (case side2 => exact (Kd.R_reads' HO_429000.out).2.1); rintro e w73 ⟨v437, rfl, ho0, hb⟩; replace HO_6 := rK HO_6 hb; have HO438 := am (Kd.R_lower (Kd.R_new' ho0 (Kd.R_lt (ro HO_429000.out))) (below_size bw)); replace HO_429000 := am (Kd.R_elder' (ro HO_429000.out) (Kd.R_base ho0) hb); replace BK417 := kb BK417 hb; replace BK421 := kb BK421 hb; replace BK428 := kb BK428 hb; replace HB := am (below_step bw hb); clear hb ho0; obtain ⟨Ao74, co74, eo74⟩ := Kd.R_slice HO438.out; subst eo74) | (go_at_call 63; (with_reducible refine (slices_Equal_int_int.calls k3 _ _ t436 _ _ l0 false _ ?side1 ?side2 ?side3 ?side4 A52.out).mono ?_); (case side1 => exact co (Kd.R_reads' HO438.out).2.2); (case side2 => exact (Kd.R_reads' HO438.out).2.1); (case side3 => exact co (Kd.C_below HR0.out HB.out)); (case side4 => exact HC0.out); rintro e w' ⟨rfl, ⟨nd, rfl⟩⟩; (try (rw [drewN_self w73]; generalize hq_ : World.drewN w73 _ = w73; have n0_ : Aside0 (Kd.R (Kd.int .i64) 3 w73 w.heap.size (fun k_ => nb k_ Ao70 x429000_3 co70) (.slice Ao74 t436.length co74) t436) := ⟨by rw [← hq_]; exact (by (with_reducible repeat (first | apply Kd.R_alloc | apply Kd.R_drewN | apply Kd.R_drew)); exact Kd.R_mono HO438.out (fun _ hk => hk.2))⟩; have n1_ : Aside0 (Kd.R (Kd.int .i64) 3 w73 w.heap.size (fun k_ => nb k_ Ao74 t436 co74) (.slice Ao70 x429000_3.length co70) x429000_3) := ⟨by rw [← hq_]; exact (by (with_reducible repeat (first | apply Kd.R_alloc | apply Kd.R_drewN | apply Kd.R_drew)); exact Kd.R_mono HO_429000.out (fun _ hk => hk.2))⟩; have n2_ : Aside0 (Kd.R Kd.bool 4 w73 w.heap.size (fun _ => True) (.slice Ao66 x6_2.length co66) x6_2) := ⟨by rw [← hq_]; exact (ro HO_6.out)⟩; have n3_ : Aside0 (w73.heap[gb417]? = some (.cells #[.slice none 0 0] 26 (0, 0))) := ⟨by rw [← hq_]; exact (bo BK417.out)⟩; have n4_ : Aside0 (w73.heap[gb421]? = some (.cells #[.int .i64 t418, .int .i64 t419] 54 (0, 0))) := ⟨by rw [← hq_]; exact (bo BK421.out)⟩; have n5_ : Aside0 (w73.heap[gb428]? = some (.cells #[.slice Ao70 x429000_3.length co70] 26 (0, 0))) := ⟨by rw [← hq_]; exact (bo BK428.out)⟩; have n6_ : Aside0 (Below w.heap.size w w73) := ⟨by rw [← hq_]; exact bw⟩; clear HO438 HO_429000 HO_6 BK417 BK421 BK428 HB hq_; have HO438 := n0_; have HO_429000 := n1_; have HO_6 := n2_; have BK417 := n3_; have BK421 := n4_; have BK428 := n5_; have HB := n6_; clear n0_ n1_ n2_ n3_ n4_ n5_ n6_)); have hnb75 := NB417_421.out; have hnc75 := NB421_417.out; have hcz76_0 := bc BK417 0 (.slice none 0 0); have hfz76_0 := blk_frozen BK417.out 0))
        refine bodyPost_ret (results_ct rfl _ _ gb417 26 #[.slice none 0 0] (0, 0) _ rfl (by (with_reducible repeat (first | refine blk_drewN ?_ _ | refine blk_drew ?_ | refine blk_alloc ?_ _)); refine blk_put (cs := #[.slice none 0 0]) ?_ 0 _ rfl; (with_reducible repeat (first | refine blk_drewN ?_ _ | refine blk_drew ?_ | refine blk_alloc ?_ _)); exact BK417.out) Try.underlying26 rfl (by kernel_rfl)) rfl ?_
        exact ⟨_, re, by first | exact Kd.R_nil _ _ _ _ _ | exact Kd.N_nil _ _ _ _ _ | exact Kd.V_nil _ _ _ _ _ | exact Kd.Q_nil _ _ _ _ _ | exact Kd.S_nil _ _ _ _ _, bw⟩
       simp only [Option.some.injEq, Prod.mk.injEq] at H
       obtain ⟨rfl, rfl⟩ := H
       obtain ⟨Ao77, co77, eo77⟩ := Kd.R_slice HO_6.out
       subst eo77
       have hnb78 := NB428_417.out
       have hnc78 := NB417_428.out
       have hnb79 := NB428_421.out
       have hnc79 := NB421_428.out
       have hcz80_0 := bc BK428 0 (u429000)
       have hfz80_0 := blk_frozen BK428.out 0
       obtain ⟨Ao81, co81, eo81⟩ := Kd.R_slice HO_429000.out
       subst eo81
       go_wp2_with (first | ((with_reducible refine gate_callee (f := 27) rfl ?_); refine gl (some 80) Try.func27 #[.agg #[.slice Ao81 x429000_3.length co81]] ?_; (with_reducible refine (impl_IsSemigroup.calls k3 _ _ x429000_3 false _ ?side1 ?side2 A49.out).mono ?_); (case side1 => exact co (Kd.R_reads' HO_429000.out).2.2); (case side2 => exact (Kd.R_reads' HO_429000.out).2.1); rintro e w82 ⟨rfl, hb⟩; refine ⟨_, rfl, ?_⟩; replace HO_6 := rK HO_6 hb; replace HO_429000 := rK HO_429000 hb; replace BK417 := kb BK417 hb; replace BK421 := kb BK421 hb; replace BK428 := kb BK428 hb; replace HB := am (below_step bw hb); clear hb; have hnb83 := NB417_421.out; have hnc83 := NB421_417.out; have hcz84_0 := bc BK417 0 (.slice none 0 0); have hfz84_0 := blk_frozen BK417.out 0))
       refine bodyPost_ret (results_ct rfl _ _ gb417 26 #[.slice none 0 0] (0, 0) _ rfl (by (with_reducible repeat (first | refine blk_drewN ?_ _ | refine blk_drew ?_ | refine blk_alloc ?_ _)); refine blk_put (cs := #[.slice none 0 0]) ?_ 0 _ rfl; (with_reducible repeat (first | refine blk_drewN ?_ _ | refine blk_drew ?_ | refine blk_alloc ?_ _)); exact BK417.out) Try.underlying26 rfl (by kernel_rfl)) rfl ?_
       exact ⟨_, re, by first | exact Kd.R_nil _ _ _ _ _ | exact Kd.N_nil _ _ _ _ _ | exact Kd.V_nil _ _ _ _ _ | exact Kd.Q_nil _ _ _ _ _ | exact Kd.S_nil _ _ _ _ _, bw⟩


/-! ### slices_Sort_int_int: function 64 -/
def slices_Sort_int_int.f (l0 : List Int) : Option (List Int) := if l0.length < 4611686018427387904 then some (l0.mergeSort fun x y => decide (x ≤ y)) else none
theorem slices_Sort_int_int.calls (P0_ : Nat → Prop) (u9000_ : Value) (l0 : List Int) (r : List Int) (w0 w : World) (hB : Below w0.heap.size w0 w) (ho0 : Kd.R (Kd.int .i64) 3 w w0.heap.size P0_ u9000_ l0) (h : slices_Sort_int_int.f l0 = some r) :
  Calls Try.prog 64 #[u9000_] w fun e w' => e = .returned (.tuple #[]) ∧ Kd.R (Kd.int .i64) 3 w' w0.heap.size (fun k_ => (P0_ k_ ∨ w.heap.size ≤ k_)) u9000_ r ∧ Below w0.heap.size w0 w' ∧ Kept w w' (fun k_ => P0_ k_) := by
 unfold slices_Sort_int_int.f at h
 by_cases c : l0.length < 4611686018427387904
 rotate_left
 ·rw [if_neg c] at h
  cases h
 rw [if_pos c] at h
 obtain rfl := Option.some.inj h
 rcases (Kd.own_of_R ho0).2 with ⟨rfl, hn⟩ | ⟨g, cap, cur, rfl, hb, hg, h1, h2, h3, h4⟩
 ·have e0 : l0 = [] := List.eq_nil_of_length_eq_zero hn
  subst e0
  refine (Try.slices_Sort_int_none none 0 w).mono ?_
  rintro e w' ⟨rfl, rfl⟩
  exact ⟨rfl, by rw [List.mergeSort_nil]; exact Kd.R_mono ho0 (fun k hk => .inl hk), hB, Kept.refl _ _⟩
 ·have hl : g < w.heap.size := (Array.getElem?_eq_some_iff.1 hg).1
  refine (Try.slices_Sort_int g 0 cap l0 w (Go.holds_of_blockI hg (by rw [← Nat.mul_one l0.length]; exact h4)) hl c).mono ?_
  rintro e w' ⟨rfl, n, os, rfl⟩
  have hlen : (l0.mergeSort fun x y => decide (x ≤ y)).length = l0.length := List.length_mergeSort ..
  have hgr := Go.grownBy_sortedI (w := w) (g := g) (n := n) (os := os) (l0.mergeSort fun x y => decide (x ≤ y)).toArray
  exact ⟨rfl, Kd.R_of_own (by rw [hlen]; exact Go.ownsRow_sortedI (n := n) (os := os) hlen hb hg h1 h2 h3) (fun k hk => .inl (ho0.1 k hk)),
   ⟨hgr.os.trans hB.os, hgr.tape.trans hB.tape, hgr.output.trans hB.output, Nat.le_trans hB.size hgr.size, fun k hk => (hgr.block k (Nat.lt_of_lt_of_le hk hB.size) (fun e => by injection e with e; omega)).trans (hB.block k hk)⟩,
   ⟨hgr.size, fun i hi hP => hgr.block i hi (fun e => hP (ho0.1 i (by rw [e]; rfl)))⟩⟩


/-! ### slices_Compact_int_int: function 65 -/
def slices_Compact_int_int.f (l0 : List Int) : Option (List Int) := if l0.length ≤ 9223372036854775807 then some (Go.Lib.compact l0) else none
theorem slices_Compact_int_int.calls (P0_ : Nat → Prop) (u9000_ : Value) (l0 : List Int) (r : List Int) (w0 w : World) (hB : Below w0.heap.size w0 w) (ho0 : Kd.R (Kd.int .i64) 3 w w0.heap.size P0_ u9000_ l0) (h : slices_Compact_int_int.f l0 = some r) :
  Calls Try.prog 65 #[u9000_] w fun e w' => ∃ v0_ : Value, e = .returned (v0_) ∧ Kd.R (Kd.int .i64) 3 w' w0.heap.size (fun k_ => (P0_ k_ ∨ w.heap.size ≤ k_)) v0_ r ∧ Below w0.heap.size w0 w' ∧ Kept w w' (fun k_ => P0_ k_) := by
 unfold slices_Compact_int_int.f at h
 by_cases c : l0.length ≤ 9223372036854775807
 rotate_left
 ·rw [if_neg c] at h
  cases h
 rw [if_pos c] at h
 obtain rfl := Option.some.inj h
 rcases (Kd.own_of_R ho0).2 with ⟨rfl, hn⟩ | ⟨g, cap, cur, rfl, hb, hg, h1, h2, h3, h4⟩
 ·have e0 : l0 = [] := List.eq_nil_of_length_eq_zero hn
  subst e0
  refine (Try.slices_Compact_int_empty none 0 w).mono ?_
  rintro e w' ⟨rfl, rfl⟩
  exact ⟨_, rfl, Kd.R_mono (show Kd.R (Kd.int .i64) 3 w' w0.heap.size P0_ (.slice none 0 0) (Go.Lib.compact []) from ho0) (fun k hk => .inl hk), hB, Kept.refl _ _⟩
 ·have hl : g < w.heap.size := (Array.getElem?_eq_some_iff.1 hg).1
  refine (Try.slices_Compact_int g 0 cap l0 w (Go.holds_of_blockI hg (by rw [← Nat.mul_one l0.length]; exact h4)) c h1).mono ?_
  rintro e w' ⟨rfl, q, rfl⟩
  have hk : (Go.Lib.compact l0).length ≤ l0.length := by
   unfold Go.Lib.compact Go.Lib.compactUpTo
   rw [List.length_map]
   exact Nat.le_trans (List.length_filter_le ..) (by rw [List.length_range]; exact Nat.le_refl _)
  have hgr := Go.grownBy_sortedI (w := w) (g := g) (n := q) (os := #[]) (Go.Lib.compact l0 ++ List.replicate (l0.length - (Go.Lib.compact l0).length) 0).toArray
  rw [Go.Sort.grow_empty] at hgr
  have hr := Go.Lib.ownsRow_putRow (q := q) (k := (Go.Lib.compact l0).length) (Kd.own_of_R ho0) (ys := Go.Lib.compact l0 ++ List.replicate (l0.length - (Go.Lib.compact l0).length) 0) (by rw [List.length_append, List.length_replicate]; omega) hk
  rw [List.take_left] at hr
  exact ⟨_, rfl, Kd.R_of_own hr (fun k hk => .inl (ho0.1 k hk)),
   ⟨hgr.os.trans hB.os, hgr.tape.trans hB.tape, hgr.output.trans hB.output, Nat.le_trans hB.size hgr.size, fun k hk => (hgr.block k (Nat.lt_of_lt_of_le hk hB.size) (fun e => by injection e with e; omega)).trans (hB.block k hk)⟩,
   ⟨hgr.size, fun i hi hP => hgr.block i hi (fun e => hP (ho0.1 i (by rw [e]; rfl)))⟩⟩


/-! ### impl_SortList: function 30 -/
def impl_SortList.f (l0 : List Int) : Option (List Int) := (some (([] : List Int) : List Int)).bind fun y559 => (if y559.length + l0.length < 17592186044416 then ((slices_Sort_int_int.f (y559 ++ l0)).bind fun t565 => ((slices_Compact_int_int.f t565).bind fun t566 => (some t566))) else (none))
set_option maxHeartbeats 8000000 in
set_option maxRecDepth 100000 in
theorem impl_SortList.calls (A0 : Option Addr) (c0 : Nat) (l0 : List Int) (r : List Int) (w : World) (hr0 : Kd.C (Kd.int .i64) w A0 l0.length l0) (hc0 : l0.length ≤ c0) (h : impl_SortList.f l0 = some r) :
  Calls Try.prog 30 #[.slice A0 l0.length c0] w fun e w' => ∃ v0_ : Value, e = .returned (v0_) ∧ Kd.R (Kd.int .i64) 3 w' w.heap.size (fun _ => True) v0_ r ∧ Below w.heap.size w w' := by
 have HR0 := am hr0
 have HC0 := am hc0
 clear hr0 hc0
 have HB := am (Below.refl w.heap.size w)
 have H : ((some (([] : List Int) : List Int)).bind fun y559 => (if y559.length + l0.length < 17592186044416 then ((slices_Sort_int_int.f (y559 ++ l0)).bind fun t565 => ((slices_Compact_int_int.f t565).bind fun t566 => (some t566))) else (none))) = some r := h
 clear h
 obtain ⟨y559, hy559⟩ : ∃ y_ : List Int, y_ = (([] : List Int)) := ⟨_, rfl⟩
 replace H : (if y559.length + l0.length < 17592186044416 then ((slices_Sort_int_int.f (y559 ++ l0)).bind fun t565 => ((slices_Compact_int_int.f t565).bind fun t566 => (some t566))) else (none)) = some r := by first | (rw [hy559]; with_reducible first | exact H | exact bs H) | (with_reducible first | exact bs H | exact H) | (rw [hy559]; exact H) | exact H
 have Ny559 := am hy559
 clear hy559
 by_cases c2 : y559.length + l0.length < 17592186044416
 rotate_left
 ·rw [if_neg c2] at H
  exact absurd H (by simp)
 rw [if_pos c2] at H
 have LMc2 := am c2
 clear c2
 obtain ⟨y562, hy562⟩ : ∃ y_ : List Int, y_ = (y559 ++ l0) := ⟨_, rfl⟩
 replace H : ((slices_Sort_int_int.f y562).bind fun t565 => ((slices_Compact_int_int.f t565).bind fun t566 => (some t566))) = some r := by first | (rw [hy562]; with_reducible first | exact H | exact bs H) | (with_reducible first | exact bs H | exact H) | (rw [hy562]; exact H) | exact H
 have Ny562 := am hy562
 clear hy562
 replace H := ga H; obtain ⟨t565, A3, H⟩ := H
 replace H := ga H; obtain ⟨t566, A4, H⟩ := H
 obtain rfl := Option.some.inj H
 go_enter Try.func30, Try.ntmps30
 go_wp2_with (first | ((with_reducible refine gate_dst (N := 4) rfl ?_); refine Kd.R_lit (Kd.int .i64) _ 3 ?hg (N := 4) ?hd (xs := ([] : List Int)) (inner := []) (ok := fun _ => True) (okp := fun _ => True) ?hr ?hp (fun _ hk => hk) trivial (Below.refl _ _) (Nat.le_refl _) (by simp) ?_; (case hd => rfl); (case hg => rfl); (case hr => first | (go_simp; done) | (go_simp; rfl)); (case hp => exact (Reps.none _ _)); intro v560 w5 ho6 hb hg_ hnew_; clear hg_ hnew_; (first | rw [← Ny559.out] at ho6 | (simp only [Int.reduceToNat] at ho6; rw [← Ny559.out] at ho6)); have HO561 := am (Kd.R_lower ho6 (below_size bw)); replace HB := am (below_step bw hb); clear hb ho6) | ((with_reducible refine gate_builtin (b := .append) (xs := #[.tmp 4, .tmp 5]) rfl ?_); at_builtin; refine Kd.R_append_rows (Kd.int .i64) (w0 := w) w.heap.size rfl (.tmp 4) (.tmp 5) 22 3 (.int .i64 0) 8 rfl Try.underlying22 info3 rfl (by decide) (by omega) v560 y559 l0 _ _ _ (fun _ => True) (fun _ => False) rfl rfl ?aO ?aR (fun _ _ h => h) (fun _ h => h.elim) ?aF ?aB ?aS ?aL ?_; (case aR => exact co (Kd.C_below HR0.out HB.out)); (case aB => exact bw); (case aF => exact (fun _ _ => trivial)); (case aO => exact (ro HO561.out)); (case aS => exact (below_size bw)); (case aL => have := LMc2.out; omega); intro v563 w7 ho hb hg hat; rw [← Ny562.out] at ho; replace HB := am (hb); have HO564 := am (ho); clear HO561 ho hb hg hat; obtain ⟨Ao8, co8, eo8⟩ := Kd.R_slice HO564.out; subst eo8) | ((with_reducible refine gate_callee (f := 64) rfl ?_); refine gl (some 8) Try.func64 #[.slice Ao8 y562.length co8] ?_; (with_reducible refine (slices_Sort_int_int.calls (fun k_ => some k_ = (.slice Ao8 y562.length co8 : Value).ownBlock) (.slice Ao8 y562.length co8) y562 t565 w _ ?side1 ?side2 A3.out).mono ?_); (case side1 => exact bw); (case side2 => exact Kd.R_tight rfl HO564.out); rintro e w9 ⟨rfl, hy0, hb, hkp⟩; refine ⟨_, rfl, ?_⟩; replace HO564 := am (Kd.R_reok rfl hy0 (fun k_ e_ => HO564.out.1 k_ e_)); replace HB := am (hb); clear hb hkp hy0) | ((with_reducible refine gate_callee (f := 65) rfl ?_); refine gl (some 10) Try.func65 #[.slice Ao8 y562.length co8] ?_; (with_reducible refine (slices_Compact_int_int.calls (fun k_ => some k_ = (.slice Ao8 y562.length co8 : Value).ownBlock) (.slice Ao8 y562.length co8) t565 t566 w _ ?side1 ?side2 A4.out).mono ?_); (case side1 => exact bw); (case side2 => exact Kd.R_tight rfl HO564.out); rintro e w10 ⟨v567, rfl, ho0, hb, hkp⟩; refine ⟨_, rfl, ?_⟩; have HO568 := am (Kd.R_mono (ok' := fun k_ => True) ho0 (fun k_ hk_ => trivial)); replace HB := am (hb); clear HO564 hb hkp ho0))
 go_ret
 exact ⟨_, re, ro HO568.out, bw⟩


/-! ### impl_RemoveGenerator: function 9 -/
def impl_RemoveGenerator.j0 : Nat → Int → Bool → List Int → Option (List Int × Bool)
 | 0, _, _, _ => none
 | k + 1, x1, x15, x570000 => if x15 = true then (some (([] : List Int), false)) else ((impl_Gaps.f k x570000).bind fun t573 => (if t573.length < 17592186044416 then ((impl_SortList.f (t573 ++ [x1])).bind fun t579 => ((impl_FromGaps.f k t579).bind fun bt582 => (some (bt582.1, bt582.2)))) else (none)))
def impl_RemoveGenerator.f (k : Nat) (l0_0 : List Int) (a1 : Int) : Option (List Int × Bool) := (impl_IsSemigroup.f k l0_0).bind fun t571 => (if t571 = true then ((slices_Contains_int_int.f k l0_0 a1).bind fun t572 => (impl_RemoveGenerator.j0 k a1 (!t572) l0_0)) else (impl_RemoveGenerator.j0 k a1 true l0_0))
set_option maxHeartbeats 8000000 in
set_option maxRecDepth 100000 in
theorem impl_RemoveGenerator.calls (k : Nat) (A0_0 : Option Addr) (c0_0 : Nat) (l0_0 : List Int) (a1 : Int) (r1 : List Int) (r2 : Bool) (w : World) (hr0_0 : Kd.C (Kd.int .i64) w A0_0 l0_0.length l0_0) (hc0_0 : l0_0.length ≤ c0_0) (h : impl_RemoveGenerator.f k l0_0 a1 = some (r1, r2)) :
  Calls Try.prog 9 #[.agg #[.slice A0_0 l0_0.length c0_0], .int .i64 a1] w fun e w' => ∃ v0_ : Value, e = .returned (.tuple #[.agg #[v0_], .bool r2]) ∧ Kd.R (Kd.int .i64) 3 w' w.heap.size (fun _ => True) v0_ r1 ∧ Below w.heap.size w w' := by
 have hu26 := Try.underlying26
 have HR0_0 := am hr0_0
 have HC0_0 := am hc0_0
 clear hr0_0 hc0_0
 have HB := am (Below.refl w.heap.size w)
 have H : ((impl_IsSemigroup.f k l0_0).bind fun t571 => (if t571 = true then ((slices_Contains_int_int.f k l0_0 a1).bind fun t572 => (impl_RemoveGenerator.j0 k a1 (!t572) l0_0)) else (impl_RemoveGenerator.j0 k a1 true l0_0))) = some (r1, r2) := h
 clear h
 have HC3 := am H
 clear H
 go_enter Try.func9, Try.ntmps9
 go_upto_region 1 with (first | ((with_reducible refine gate_dst (N := 2) rfl ?_); refine bx 2 #[.slice A0_0 l0_0.length c0_0] 26 ?_; intro gb569 hg w4 hbox hb; have BK569 := am (hbox); have GW569 := am (gs hg : w.heap.size ≤ gb569); have GE569 := GW569; replace HB := am (below_step bw hb); clear hb hbox hg) | ((with_reducible refine gate_dst (N := 4) rfl ?_); refine bx 4 #[.slice none 0 0] 26 ?_; intro gb570 hg w5 hbox hb; have BK570 := am (hbox); have GW570 := am (gs hg : w.heap.size ≤ gb570); have GE570 := GW570; replace HB := am (below_step bw hb); have NB569_570 := nl hg BK569; have NB570_569 := ns NB569_570; replace BK569 := kb BK569 hb; clear hb hbox hg))
 (try simp only [Act.put, List.setIfInBounds_toArray, List.set_cons_zero, List.set_cons_succ])
 go_cut [15] (fun v15 wc => ∃ (kq : Nat) (x15_2 : Bool), v15 = .bool x15_2 ∧ Aside0 (impl_RemoveGenerator.j0 kq a1 x15_2 l0_0 = some (r1, r2)) ∧ Aside0 (kq ≤ k) ∧ Aside0 (wc.heap[gb569]? = some (.cells #[(.slice A0_0 l0_0.length c0_0)] 26 (0, 0))) ∧ Aside0 (wc.heap[gb570]? = some (.cells #[(.slice none 0 0)] 26 (0, 0))) ∧ Aside0 (Below w.heap.size w wc))
 case first =>
  have H := HC3.out
  clear HC3
  replace H := ga H; obtain ⟨t571, A6, H⟩ := H
  replace H := gb H; obtain ⟨rfl, H⟩ | ⟨rfl, H⟩ := H
  ·replace H := ga H; obtain ⟨t572, A8, H⟩ := H
   have H' := am H
   clear H
   have hnb9 := NB569_570.out
   have hnc9 := NB570_569.out
   have hcz10_0 := bc BK569 0 (.slice A0_0 l0_0.length c0_0)
   have hfz10_0 := blk_frozen BK569.out 0
   go_wp2_with (first | ((with_reducible refine gate_callee (f := 27) rfl ?_); refine gl (some 7) Try.func27 #[.agg #[.slice A0_0 l0_0.length c0_0]] ?_; (with_reducible refine (impl_IsSemigroup.calls k _ _ l0_0 true _ ?side1 ?side2 A6.out).mono ?_); (case side1 => exact co (Kd.C_below HR0_0.out HB.out)); (case side2 => exact HC0_0.out); rintro e w11 ⟨rfl, hb⟩; refine ⟨_, rfl, ?_⟩; replace BK569 := kb BK569 hb; replace BK570 := kb BK570 hb; replace HB := am (below_step bw hb); clear hb; have hcz12_0 := bc BK569 0 (.slice A0_0 l0_0.length c0_0); have hfz12_0 := blk_frozen BK569.out 0) | (go_at_call 28; (with_reducible refine (slices_Contains_int_int.calls k _ _ l0_0 a1 t572 _ ?side1 ?side2 A8.out).mono ?_); (case side1 => exact co (Kd.C_below HR0_0.out HB.out)); (case side2 => exact HC0_0.out); rintro e w' ⟨rfl, ⟨nd, rfl⟩⟩))
   go_meet
   case rel => exact ⟨_, (!t572), rr, H', ⟨om⟩, ⟨bo BK569.out⟩, ⟨bo BK570.out⟩, ⟨bw⟩⟩
  have H' := am H
  clear H
  have hnb13 := NB569_570.out
  have hnc13 := NB570_569.out
  have hcz14_0 := bc BK569 0 (.slice A0_0 l0_0.length c0_0)
  have hfz14_0 := blk_frozen BK569.out 0
  go_wp2_with (first | ((with_reducible refine gate_callee (f := 27) rfl ?_); refine gl (some 7) Try.func27 #[.agg #[.slice A0_0 l0_0.length c0_0]] ?_; (with_reducible refine (impl_IsSemigroup.calls k _ _ l0_0 false _ ?side1 ?side2 A6.out).mono ?_); (case side1 => exact co (Kd.C_below HR0_0.out HB.out)); (case side2 => exact HC0_0.out); rintro e w15 ⟨rfl, hb⟩; refine ⟨_, rfl, ?_⟩; replace BK569 := kb BK569 hb; replace BK570 := kb BK570 hb; replace HB := am (below_step bw hb); clear hb))
  go_meet
  case rel => exact ⟨_, (true), rr, H', ⟨om⟩, ⟨bo BK569.out⟩, ⟨bo BK570.out⟩, ⟨bw⟩⟩
 case rest =>
  clear HC3
  try clear hcz10_0; try clear hcz12_0; try clear hcz14_0; try clear hfz10_0; try clear hfz12_0; try clear hfz14_0
  obtain ⟨kq, x15_2, rfl, HA, HJ2, BK569, BK570, HB⟩ := hcut
  cases kq with
  | zero => exact absurd HA.out (by simp [impl_RemoveGenerator.j0])
  | succ kj2 =>
   have H := HA.out
   clear HA
   simp only [impl_RemoveGenerator.j0] at H
   replace H := gb H; obtain ⟨rfl, H⟩ | ⟨rfl, H⟩ := H
   ·simp only [Option.some.injEq, Prod.mk.injEq] at H
    obtain ⟨rfl, rfl⟩ := H
    have hnb17 := NB570_569.out
    have hnc17 := NB569_570.out
    have hcz18_0 := bc BK570 0 (.slice none 0 0)
    have hfz18_0 := blk_frozen BK570.out 0
    go_wp2
    refine bodyPost_ret (results_ct rfl _ _ gb570 26 #[.slice none 0 0] (0, 0) _ rfl (by (with_reducible repeat (first | refine blk_drewN ?_ _ | refine blk_drew ?_ | refine blk_alloc ?_ _)); refine blk_put (cs := #[.slice none 0 0]) ?_ 0 _ rfl; (with_reducible repeat (first | refine blk_drewN ?_ _ | refine blk_drew ?_ | refine blk_alloc ?_ _)); exact BK570.out) Try.underlying26 rfl (by kernel_rfl)) rfl ?_
    exact ⟨_, re, by first | exact Kd.R_nil _ _ _ _ _ | exact Kd.N_nil _ _ _ _ _ | exact Kd.V_nil _ _ _ _ _ | exact Kd.Q_nil _ _ _ _ _ | exact Kd.S_nil _ _ _ _ _, bw⟩
   replace H := ga H; obtain ⟨t573, A19, H⟩ := H
   by_cases c20 : t573.length < 17592186044416
   rotate_left
   ·rw [if_neg c20] at H
    exact absurd H (by simp)
   rw [if_pos c20] at H
   have LMc20 := am c20
   clear c20
   obtain ⟨y576, hy576⟩ : ∃ y_ : List Int, y_ = (t573 ++ [a1]) := ⟨_, rfl⟩
   replace H : ((impl_SortList.f y576).bind fun t579 => ((impl_FromGaps.f kj2 t579).bind fun bt582 => (some (bt582.1, bt582.2)))) = some (r1, r2) := by first | (rw [hy576]; with_reducible first | exact H | exact bs H) | (with_reducible first | exact bs H | exact H) | (rw [hy576]; exact H) | exact H
   have Ny576 := am hy576
   clear hy576
   replace H := ga H; obtain ⟨t579, A21, H⟩ := H
   replace H := ga H; obtain ⟨⟨t582, t585⟩, A22, H⟩ := H
   replace H : (some (t582, t585)) = some (r1, r2) := H
   simp only [Option.some.injEq, Prod.mk.injEq] at H
   obtain ⟨rfl, rfl⟩ := H
   have hnb23 := NB569_570.out
   have hnc23 := NB570_569.out
   have hcz24_0 := bc BK569 0 (.slice A0_0 l0_0.length c0_0)
   have hfz24_0 := blk_frozen BK569.out 0
   go_wp2_with (first | ((with_reducible refine gate_callee (f := 31) rfl ?_); refine gl (some 18) Try.func31 #[.agg #[.slice A0_0 l0_0.length c0_0]] ?_; (with_reducible refine (impl_Gaps.calls kj2 _ _ l0_0 t573 _ ?side1 ?side2 A19.out).mono ?_); (case side1 => exact co (Kd.C_below HR0_0.out HB.out)); (case side2 => exact HC0_0.out); rintro e w25 ⟨v574, rfl, ho0, hb⟩; refine ⟨_, rfl, ?_⟩; have HO575 := am (Kd.R_lower ho0 (below_size bw)); replace BK569 := kb BK569 hb; replace BK570 := kb BK570 hb; replace HB := am (below_step bw hb); clear hb ho0) | ((with_reducible refine gate_builtin (b := .append) (xs := #[.tmp 18, .tmp 20]) rfl ?_); at_builtin; refine Kd.R_append (Kd.int .i64) (w0 := w) w.heap.size rfl (.tmp 18) (.tmp 20) 22 3 (.int .i64 0) 8 rfl Try.underlying22 info3 rfl (by decide) (by omega) v574 t573 a1 [.int .i64 a1] (fun _ => True) (fun _ => False) rfl rfl ?aP (fun _ hk => hk.elim) ?aF ?aO ?aB ?aS ?aL ?_; (case aP => exact rfl); (case aB => exact bw); (case aF => exact (fun _ _ => trivial)); (case aO => exact (ro HO575.out)); (case aS => exact (below_size bw)); (case aL => have := LMc20.out; omega); intro v577 w26 ho hb hg hat; rw [← Ny576.out] at ho; replace BK569 := am (blk_grown (g := gb569) (o := .cells #[.slice A0_0 l0_0.length c0_0] 26 (0, 0)) (bo BK569.out) hg (Kd.R_ne HO575.out BK569.out (by decide))); replace BK570 := am (blk_grown (g := gb570) (o := .cells #[.slice none 0 0] 26 (0, 0)) (bo BK570.out) hg (Kd.R_ne HO575.out BK570.out (by decide))); replace HB := am (hb); have HO578 := am (ho); clear HO575 ho hb hg hat; obtain ⟨Ao27, co27, eo27⟩ := Kd.R_slice HO578.out; subst eo27) | ((with_reducible refine gate_callee (f := 30) rfl ?_); refine gl (some 22) Try.func30 #[.slice Ao27 y576.length co27] ?_; (with_reducible refine (impl_SortList.calls _ _ y576 t579 _ ?side1 ?side2 A21.out).mono ?_); (case side1 => exact co (Kd.R_reads' HO578.out).2.2); (case side2 => exact (Kd.R_reads' HO578.out).2.1); rintro e w28 ⟨v580, rfl, ho0, hb⟩; refine ⟨_, rfl, ?_⟩; have HO581 := am (Kd.R_lower (Kd.R_new' ho0 (Kd.R_lt (ro HO578.out))) (below_size bw)); replace HO578 := am (Kd.R_elder' (ro HO578.out) (Kd.R_base ho0) hb); replace BK569 := kb BK569 hb; replace BK570 := kb BK570 hb; replace HB := am (below_step bw hb); clear hb ho0; obtain ⟨Ao29, co29, eo29⟩ := Kd.R_slice HO581.out; subst eo29) | ((with_reducible refine gate_callee (f := 29) rfl ?_); refine gl (some 23) Try.func29 #[.slice Ao29 t579.length co29] ?_; (with_reducible refine (impl_FromGaps.calls kj2 _ _ t579 t582 t585 _ ?side1 ?side2 A22.out).mono ?_); (case side1 => exact co (Kd.R_reads' HO581.out).2.2); (case side2 => exact (Kd.R_reads' HO581.out).2.1); rintro e w30 ⟨v583, rfl, ho0, hb⟩; refine ⟨_, rfl, ?_⟩; have HO584 := am (Kd.R_lower (Kd.R_new' (Kd.R_new' ho0 (Kd.R_lt (ro HO578.out))) (Kd.R_lt (ro HO581.out))) (below_size bw)); replace HO578 := am (Kd.R_elder' (ro HO578.out) (Kd.R_base ho0) hb); replace HO581 := am (Kd.R_elder' (ro HO581.out) (Kd.R_base ho0) hb); replace BK569 := kb BK569 hb; replace BK570 := kb BK570 hb; replace HB := am (below_step bw hb); clear hb ho0; obtain ⟨Ao31, co31, eo31⟩ := Kd.R_slice HO584.out; subst eo31; have hcz32_0 := bc BK570 0 (.slice none 0 0); have hfz32_0 := blk_frozen BK570.out 0))
   refine bodyPost_ret (results_ct rfl _ _ gb570 26 #[.slice Ao31 t582.length co31] (0, 0) _ rfl (by (with_reducible repeat (first | refine blk_drewN ?_ _ | refine blk_drew ?_ | refine blk_alloc ?_ _)); refine blk_put (cs := #[.slice none 0 0]) ?_ 0 _ rfl; (with_reducible repeat (first | refine blk_drewN ?_ _ | refine blk_drew ?_ | refine blk_alloc ?_ _)); exact BK570.out) Try.underlying26 rfl (by kernel_rfl)) rfl ?_
   exact ⟨_, re, by (with_reducible repeat (first | apply Kd.R_alloc | apply Kd.R_drewN | apply Kd.R_drew)); exact Kd.R_mono (Kd.R_far (p := ⟨gb570, 0, none⟩) (Kd.R_types HO584.out BK570.out (by decide)) (fun _ hk => hk.2) (.slice Ao31 t582.length co31)) (fun _ hk => trivial), bw⟩


/-! ### impl_FrobeniusOf: function 36 -/
def impl_FrobeniusOf.f (k : Nat) (l0_0 : List Int) : Option (Int) := (impl_Gaps.f k l0_0).bind fun t587 => (if (t587.length : Int) = 0 then (some (-1)) else (if 0 ≤ (wrap64 ((t587.length : Int) - 1)) then (if (wrap64 ((t587.length : Int) - 1)) < (t587.length : Int) then (some (rd t587 (wrap64 ((t587.length : Int) - 1)))) else (none)) else (none)))
set_option maxHeartbeats 8000000 in
set_option maxRecDepth 100000 in
theorem impl_FrobeniusOf.calls (k : Nat) (A0_0 : Option Addr) (c0_0 : Nat) (l0_0 : List Int) (r : Int) (w : World) (hr0_0 : Kd.C (Kd.int .i64) w A0_0 l0_0.length l0_0) (hc0_0 : l0_0.length ≤ c0_0) (h : impl_FrobeniusOf.f k l0_0 = some r) :
  Calls Try.prog 36 #[.agg #[.slice A0_0 l0_0.length c0_0]] w fun e w' => e = .returned (.int .i64 r) ∧ Below w.heap.size w w' := by
 have hu26 := Try.underlying26
 have HR0_0 := am hr0_0
 have HC0_0 := am hc0_0
 clear hr0_0 hc0_0
 have HB := am (Below.refl w.heap.size w)
 have H : ((impl_Gaps.f k l0_0).bind fun t587 => (if (t587.length : Int) = 0 then (some (-1)) else (if 0 ≤ (wrap64 ((t587.length : Int) - 1)) then (if (wrap64 ((t587.length : Int) - 1)) < (t587.length : Int) then (some (rd t587 (wrap64 ((t587.length : Int) - 1)))) else (none)) else (none)))) = some r := h
 clear h
 replace H := ga H; obtain ⟨t587, A2, H⟩ := H
 by_cases c3 : (t587.length : Int) = 0
 ·rw [if_pos c3] at H
  have c3b0 : ((t587.length : Int) == 0) = true := beq_iff_eq.mpr c3
  have c3b1 : ((t587.length : Int) != 0) = false := bne_eq_false_iff_eq.mpr c3
  clear c3
  obtain rfl := Option.some.inj H
  go_enter Try.func36, Try.ntmps36
  go_wp2_with (first | ((with_reducible refine gate_dst (N := 1) rfl ?_); refine bx 1 #[.slice A0_0 l0_0.length c0_0] 26 ?_; intro gb586 hg w4 hbox hb; have BK586 := am (hbox); have GW586 := am (gs hg : w.heap.size ≤ gb586); have GE586 := GW586; replace HB := am (below_step bw hb); clear hb hbox hg; have hcz5_0 := bc BK586 0 (.slice A0_0 l0_0.length c0_0); have hfz5_0 := blk_frozen BK586.out 0) | ((with_reducible refine gate_callee (f := 31) rfl ?_); refine gl (some 5) Try.func31 #[.agg #[.slice A0_0 l0_0.length c0_0]] ?_; (with_reducible refine (impl_Gaps.calls k _ _ l0_0 t587 _ ?side1 ?side2 A2.out).mono ?_); (case side1 => exact co (Kd.C_below HR0_0.out HB.out)); (case side2 => exact HC0_0.out); rintro e w6 ⟨v588, rfl, ho0, hb⟩; refine ⟨_, rfl, ?_⟩; have HO589 := am (Kd.R_lower ho0 (below_size bw)); replace BK586 := kb BK586 hb; replace HB := am (below_step bw hb); clear hb ho0; obtain ⟨Ao7, co7, eo7⟩ := Kd.R_slice HO589.out; subst eo7))
  go_ret
  exact ⟨re, bw⟩
 rw [if_neg c3] at H
 have c3b0 : ((t587.length : Int) == 0) = false := beq_eq_false_iff_ne.mpr c3
 have c3b1 : ((t587.length : Int) != 0) = true := bne_iff_ne.mpr c3
 have c3b2 : ¬ (t587 = []) := fun h_ => c3 (by rw [h_]; rfl)
 obtain ⟨ji8, hji8⟩ : ∃ j_ : Int, (wrap64 ((t587.length : Int) - 1)) = j_ := ⟨_, rfl⟩
 replace H : (if 0 ≤ (ji8) then (if (ji8) < (t587.length : Int) then (some (rd t587 (ji8))) else (none)) else (none)) = some r := by first | (rw [hji8] at H; exact H) | (simp only [hji8] at H ⊢; exact H)
 (try rw [hji8] at A2)
 have hji8w : (IntKind.i64.wrap ((t587.length : Int) - 1)) = ji8 := (i64_w _).trans hji8
 replace H := gd H; obtain ⟨c9b0, H⟩ := H
 replace H := gd H; obtain ⟨c10b0, H⟩ := H
 obtain rfl := Option.some.inj H
 go_enter Try.func36, Try.ntmps36
 go_wp2_with (first | ((with_reducible refine gate_dst (N := 1) rfl ?_); refine bx 1 #[.slice A0_0 l0_0.length c0_0] 26 ?_; intro gb586 hg w11 hbox hb; have BK586 := am (hbox); have GW586 := am (gs hg : w.heap.size ≤ gb586); have GE586 := GW586; replace HB := am (below_step bw hb); clear hb hbox hg; have hcz12_0 := bc BK586 0 (.slice A0_0 l0_0.length c0_0); have hfz12_0 := blk_frozen BK586.out 0) | ((with_reducible refine gate_callee (f := 31) rfl ?_); refine gl (some 5) Try.func31 #[.agg #[.slice A0_0 l0_0.length c0_0]] ?_; (with_reducible refine (impl_Gaps.calls k _ _ l0_0 t587 _ ?side1 ?side2 A2.out).mono ?_); (case side1 => exact co (Kd.C_below HR0_0.out HB.out)); (case side2 => exact HC0_0.out); rintro e w13 ⟨v588, rfl, ho0, hb⟩; refine ⟨_, rfl, ?_⟩; have HO589 := am (Kd.R_lower ho0 (below_size bw)); replace BK586 := kb BK586 hb; replace HB := am (below_step bw hb); clear hb ho0; obtain ⟨Ao14, co14, eo14⟩ := Kd.R_slice HO589.out; subst eo14; have p590 : 0 ≤ ((ji8) : Int) := of_decide_eq_true (by first | (with_reducible assumption) | assumption); have q590 : (ji8) < (t587.length : Int) := of_decide_eq_true (by first | (with_reducible assumption) | assumption); obtain ⟨ad590, e590, hx590_0⟩ := Kd.at_int (Kd.R_reads' HO589.out).2.2 (ji8) p590 q590; cases e590; replace p590 := eq_true p590; replace q590 := eq_true q590))
 go_ret
 exact ⟨by first | rfl | (simp [errW_none, errW_some] <;> rfl) | (simp only [← hji8]; first | rfl | (simp [errW_none, errW_some] <;> rfl)) | (simp [*, errW_none, errW_some] <;> rfl), bw⟩


/-! ### impl_ChildrenOf: function 14 -/
def impl_ChildrenOf.l0 : Nat → Int → List (S26) → List Int → Int → Int → List Int → Option ((List (S26)) × Bool)
 | 0, _, _, _, _, _, _ => none
 | k + 1, x4, x5, x17, x18, x19, x592000 => if x19 < x18 then (if 0 ≤ x19 then (if x19 < (x17.length : Int) then (if (rd x17 x19) ≤ x4 then (impl_ChildrenOf.l0 k x4 x5 x17 x18 (wrap64 (x19 + 1)) x592000) else ((impl_RemoveGenerator.f k x592000 (rd x17 x19)).bind fun bt598 => (if bt598.2 = true then (if x5.length < 5864062014805 then (impl_ChildrenOf.l0 k x4 (x5 ++ [(⟨bt598.1⟩ : S26)]) x17 x18 (wrap64 (x19 + 1)) x592000) else (none)) else (some (([] : List (S26)), false))))) else (none)) else (none)) else (some (x5, true))
def impl_ChildrenOf.f (k : Nat) (l0_0 : List Int) : Option ((List (S26)) × Bool) := (impl_IsSemigroup.f k l0_0).bind fun t592 => (if t592 = true then ((impl_FrobeniusOf.f k l0_0).bind fun t593 => (impl_ChildrenOf.l0 k t593 (([] : List (S26))) l0_0 (l0_0.length : Int) 0 l0_0)) else (some (([] : List (S26)), false)))
set_option maxHeartbeats 8000000 in
set_option maxRecDepth 100000 in
theorem impl_ChildrenOf.calls (k : Nat) (A0_0 : Option Addr) (c0_0 : Nat) (l0_0 : List Int) (r1 : List (S26)) (r2 : Bool) (w : World) (hr0_0 : Kd.C (Kd.int .i64) w A0_0 l0_0.length l0_0) (hc0_0 : l0_0.length ≤ c0_0) (h : impl_ChildrenOf.f k l0_0 = some (r1, r2)) :
  Calls Try.prog 14 #[.agg #[.slice A0_0 l0_0.length c0_0]] w fun e w' => ∃ v0_ : Value, e = .returned (.tuple #[v0_, .bool r2]) ∧ Kd.S k26 26 w' w.heap.size (fun _ => True) v0_ r1 ∧ Below w.heap.size w w' := by
 have hu26 := Try.underlying26
 have HR0_0 := am hr0_0
 have HC0_0 := am hc0_0
 clear hr0_0 hc0_0
 have HB := am (Below.refl w.heap.size w)
 have H : ((impl_IsSemigroup.f k l0_0).bind fun t592 => (if t592 = true then ((impl_FrobeniusOf.f k l0_0).bind fun t593 => (impl_ChildrenOf.l0 k t593 (([] : List (S26))) l0_0 (l0_0.length : Int) 0 l0_0)) else (some (([] : List (S26)), false)))) = some (r1, r2) := h
 clear h
 replace H := ga H; obtain ⟨t592, A2, H⟩ := H
 replace H := gb H; obtain ⟨rfl, H⟩ | ⟨rfl, H⟩ := H
 ·replace H := ga H; obtain ⟨t593, A4, H⟩ := H
  obtain ⟨y594, hy594⟩ : ∃ y_ : List (S26), y_ = (([] : List (S26))) := ⟨_, rfl⟩
  replace H : (impl_ChildrenOf.l0 k t593 y594 l0_0 (l0_0.length : Int) 0 l0_0) = some (r1, r2) := by first | (rw [hy594]; with_reducible first | exact H | exact bs H) | (with_reducible first | exact bs H | exact H) | (rw [hy594]; exact H) | exact H
  have Ny594 := am hy594
  clear hy594
  have H' := am H
  clear H
  go_enter Try.func14, Try.ntmps14
  go_wp2_with (first | ((with_reducible refine gate_dst (N := 1) rfl ?_); refine bx 1 #[.slice A0_0 l0_0.length c0_0] 26 ?_; intro gb591 hg w5 hbox hb; have BK591 := am (hbox); have GW591 := am (gs hg : w.heap.size ≤ gb591); have GE591 := GW591; replace HB := am (below_step bw hb); clear hb hbox hg; have hcz6_0 := bc BK591 0 (.slice A0_0 l0_0.length c0_0); have hfz6_0 := blk_frozen BK591.out 0) | ((with_reducible refine gate_callee (f := 27) rfl ?_); refine gl (some 11) Try.func27 #[.agg #[.slice A0_0 l0_0.length c0_0]] ?_; (with_reducible refine (impl_IsSemigroup.calls k _ _ l0_0 true _ ?side1 ?side2 A2.out).mono ?_); (case side1 => exact co (Kd.C_below HR0_0.out HB.out)); (case side2 => exact HC0_0.out); rintro e w7 ⟨rfl, hb⟩; refine ⟨_, rfl, ?_⟩; replace BK591 := kb BK591 hb; replace HB := am (below_step bw hb); clear hb; have hcz8_0 := bc BK591 0 (.slice A0_0 l0_0.length c0_0); have hfz8_0 := blk_frozen BK591.out 0) | ((with_reducible refine gate_callee (f := 36) rfl ?_); refine gl (some 14) Try.func36 #[.agg #[.slice A0_0 l0_0.length c0_0]] ?_; (with_reducible refine (impl_FrobeniusOf.calls k _ _ l0_0 t593 _ ?side1 ?side2 A4.out).mono ?_); (case side1 => exact co (Kd.C_below HR0_0.out HB.out)); (case side2 => exact HC0_0.out); rintro e w9 ⟨rfl, hb⟩; refine ⟨_, rfl, ?_⟩; replace BK591 := kb BK591 hb; replace HB := am (below_step bw hb); clear hb) | ((with_reducible refine gate_dst (N := 15) rfl ?_); refine Kd.S_lit k26 _ 26 ?hg (N := 15) ?hd (xs := ([] : List (S26))) (inner := []) (ok := fun _ => True) (okp := fun _ => True) ?hr ?hp (fun _ hk => hk) trivial (Below.refl _ _) (Nat.le_refl _) (by simp) ?_; (case hd => rfl); (case hg => rfl); (case hr => first | (go_simp; done) | (go_simp; rfl)); (case hp => exact (Reps.none _ _)); intro v595 w10 ho11 hb hg_ hnew_; clear hg_ hnew_; (first | rw [← Ny594.out] at ho11 | (simp only [Int.reduceToNat] at ho11; rw [← Ny594.out] at ho11)); have HO596 := am (Kd.S_lower (Kd.S_newB ho11 (g := gb591) (o := .cells #[.slice A0_0 l0_0.length c0_0] 26 (0, 0)) (bo BK591.out)) (below_size bw)); replace BK591 := kb BK591 hb; replace HB := am (below_step bw hb); clear hb ho11; have hcz12_0 := bc BK591 0 (.slice A0_0 l0_0.length c0_0); have hfz12_0 := blk_frozen BK591.out 0))
  go_loopg [5, 19] k (fun kq v5 v19 w' => ∃ (x5_1 : List (S26)) (x19_1 : Int), v19 = .int .i64 x19_1 ∧ Aside0 (impl_ChildrenOf.l0 kq t593 x5_1 l0_0 (l0_0.length : Int) x19_1 l0_0 = some (r1, r2)) ∧ Aside0 (kq ≤ k) ∧ Aside0 (Kd.S k26 26 w' w.heap.size (fun k_ => k_ ≠ gb591) v5 x5_1) ∧ Aside0 (w'.heap[gb591]? = some (.cells #[(.slice A0_0 l0_0.length c0_0)] 26 (0, 0))) ∧ Aside0 (Below w.heap.size w w'))
  case atStart => exact ⟨(y594), (0), rr, H', ⟨Nat.le_refl _⟩, ⟨by (with_reducible repeat (first | apply Kd.S_alloc | apply Kd.S_drewN | apply Kd.S_drew)); exact Kd.S_mono HO596.out (fun _ hk => hk.2)⟩, ⟨bo BK591.out⟩, ⟨bw⟩⟩
  case round =>
   clear H'
   try clear hcz12_0; try clear hcz6_0; try clear hcz8_0; try clear hfz12_0; try clear hfz6_0; try clear hfz8_0
   obtain ⟨x5_1, x19_1, rfl, HA, HK1, HO_5, BK591, HB⟩ := hrel
   cases gk with
   | zero => exact absurd HA.out (by simp [impl_ChildrenOf.l0])
   | succ k1 =>
    have H := HA.out
    clear HA
    simp only [impl_ChildrenOf.l0] at H
    replace H := gi H; obtain ⟨c13b0, H⟩ | ⟨c13b0, H⟩ := H
    ·replace H := gd H; obtain ⟨c14b0, H⟩ := H
     replace H := gd H; obtain ⟨c15b0, H⟩ := H
     replace H := gi H; obtain ⟨c16b0, H⟩ | ⟨c16b0, H⟩ := H
     ·have H' := am H
      clear H
      obtain ⟨⟨ad597, e597, hx597_0⟩, p597, q597⟩ := pq (Kd.at_int HR0_0.out x19_1)
      cases e597
      replace hx597_0 := hw HB hx597_0
      go_wp2
      go_roundg k1
      case measure => have := HK1.out; omega
      case rel => exact ⟨(x5_1), (wrap64 (x19_1 + 1)), rr, H', ⟨by have := HK1.out; omega⟩, ⟨so HO_5.out⟩, ⟨bo BK591.out⟩, ⟨bw⟩⟩
     replace H := ga H; obtain ⟨⟨t598, t601⟩, A17, H⟩ := H
     replace H : (if t601 = true then (if x5_1.length < 5864062014805 then (impl_ChildrenOf.l0 k1 t593 (x5_1 ++ [(⟨t598⟩ : S26)]) l0_0 (l0_0.length : Int) (wrap64 (x19_1 + 1)) l0_0) else (none)) else (some (([] : List (S26)), false))) = some (r1, r2) := H
     replace H := gb H; obtain ⟨rfl, H⟩ | ⟨rfl, H⟩ := H
     ·by_cases c19 : x5_1.length < 5864062014805
      rotate_left
      ·rw [if_neg c19] at H
       exact absurd H (by simp)
      rw [if_pos c19] at H
      have LMc19 := am c19
      clear c19
      obtain ⟨y603, hy603⟩ : ∃ y_ : List (S26), y_ = (x5_1 ++ [(⟨t598⟩ : S26)]) := ⟨_, rfl⟩
      replace H : (impl_ChildrenOf.l0 k1 t593 y603 l0_0 (l0_0.length : Int) (wrap64 (x19_1 + 1)) l0_0) = some (r1, r2) := by first | (rw [hy603]; with_reducible first | exact H | exact bs H) | (with_reducible first | exact bs H | exact H) | (rw [hy603]; exact H) | exact H
      have Ny603 := am hy603
      clear hy603
      have H' := am H
      clear H
      obtain ⟨⟨ad597, e597, hx597_0⟩, p597, q597⟩ := pq (Kd.at_int HR0_0.out x19_1)
      cases e597
      replace hx597_0 := hw HB hx597_0
      have hcz20_0 := bc BK591 0 (.slice (some ad597) l0_0.length c0_0)
      have hfz20_0 := blk_frozen BK591.out 0
      go_wp2_with (first | ((with_reducible refine gate_callee (f := 9) rfl ?_); refine gl (some 29) Try.func9 #[.agg #[.slice (some ad597) l0_0.length c0_0], .int .i64 (rd l0_0 x19_1)] ?_; (with_reducible refine (impl_RemoveGenerator.calls k1 _ _ l0_0 (rd l0_0 x19_1) t598 true _ ?side1 ?side2 A17.out).mono ?_); (case side1 => exact co (Kd.C_below HR0_0.out HB.out)); (case side2 => exact HC0_0.out); rintro e w21 ⟨v599, rfl, ho0, hb⟩; refine ⟨_, rfl, ?_⟩; replace HO_5 := am (Kd.S_elder' (so HO_5.out) (Kd.R_base ho0) hb); have HO600 := am (Kd.R_lower ho0 (below_size bw)); replace BK591 := kb BK591 hb; replace HB := am (below_step bw hb); clear hb ho0) | ((with_reducible refine gate_dst (N := 8) rfl ?_); refine bx 8 #[.slice none 0 0] 26 ?_; intro gb602 hg w22 hbox hb; replace HO_5 := am (Kd.S_below (Kd.S_elderB (so HO_5.out) gb602 (Nat.le_of_eq hg.symm)) hb); replace HO600 := rK HO600 hb; have BK602 := am (hbox); have GW602 := am (gs hg : w.heap.size ≤ gb602); have GE602 := GW602; replace HB := am (below_step bw hb); have NB591_602 := nl hg BK591; have NB602_591 := ns NB591_602; replace BK591 := kb BK591 hb; clear hb hbox hg; obtain ⟨Ao23, co23, eo23⟩ := Kd.R_slice HO600.out; subst eo23; have hnb24 := NB602_591.out; have hnc24 := NB591_602.out; have hcz25_0 := bc BK602 0 (.slice none 0 0); have hfz25_0 := blk_frozen BK602.out 0) | ((with_reducible refine gate_store (t := 26) (p := 8) rfl ?_); refine store_event (t := 26) (p := 8) (v := ?vo_w26) (w1 := (w22.setCell ⟨gb602, 0, none⟩ (.slice Ao23 t598.length co23))) ?hg ?ho ?hn ?hr ?_; (case ho => rfl); (case hg => rfl); (case hn => rfl); (case hr => first | (go_simp; done) | (go_simp; rfl)); intro w26 hw; have n0_ : Aside0 (Kd.S k26 26 w26 w.heap.size (fun k_ => nb k_ Ao23 t598 co23 ∧ k_ ≠ gb591 ∧ k_ ≠ gb602) u5 x5_1) := ⟨(by rw [hw]; exact (by (with_reducible repeat (first | apply Kd.S_alloc | apply Kd.S_drewN | apply Kd.S_drew)); exact Kd.S_mono (Kd.S_far (p := ⟨gb602, 0, none⟩) (Kd.S_mono HO_5.out (fun k_ hk => (⟨hk, hk.2⟩ : _ ∧ k_ ≠ gb602))) (fun _ hk => hk.2) (.slice Ao23 t598.length co23)) (fun _ hk => ⟨hk.1.1.2, ⟨hk.1.1.1, hk.1.2⟩⟩)))⟩; have n1_ : Aside0 (Kd.R (Kd.int .i64) 3 w26 w.heap.size (fun _ => True) (.slice Ao23 t598.length co23) t598) := ⟨(by rw [hw]; exact (by (with_reducible repeat (first | apply Kd.R_alloc | apply Kd.R_drewN | apply Kd.R_drew)); exact Kd.R_mono (Kd.R_far (p := ⟨gb602, 0, none⟩) (Kd.R_types HO600.out BK602.out (by decide)) (fun _ hk => hk.2) (.slice Ao23 t598.length co23)) (fun _ hk => trivial)))⟩; have n2_ : Aside0 (w26.heap[gb591]? = some (.cells #[.slice (some ad597) l0_0.length c0_0] 26 (0, 0))) := ⟨(by rw [hw]; exact (bf BK591.out))⟩; have n3_ : Aside0 (w26.heap[gb602]? = some (.cells #[.slice Ao23 t598.length co23] 26 (0, 0))) := ⟨(by rw [hw]; exact (by (with_reducible repeat (first | refine blk_drewN ?_ _ | refine blk_drew ?_ | refine blk_alloc ?_ _)); refine blk_put (cs := #[.slice none 0 0]) ?_ 0 _ rfl; (with_reducible repeat (first | refine blk_drewN ?_ _ | refine blk_drew ?_ | refine blk_alloc ?_ _)); exact BK602.out))⟩; have n4_ : Aside0 (Below w.heap.size w w26) := ⟨(by rw [hw]; exact bw)⟩; clear hw HO_5 HO600 BK591 BK602 HB; have HO_5 := n0_; have HO600 := n1_; have BK591 := n2_; have BK602 := n3_; have HB := n4_; clear n0_ n1_ n2_ n3_ n4_; have hcz27_0 := bc BK602 0 (.slice Ao23 t598.length co23); have hfz27_0 := blk_frozen BK602.out 0) | ((with_reducible refine gate_builtin (b := .append) (xs := #[.tmp 34, .tmp 36]) rfl ?_); at_builtin; refine Kd.S_append k26 (w0 := w) w.heap.size rfl (.tmp 34) (.tmp 36) 33 26 (.agg #[(.slice none 0 0)]) 24 rfl Try.underlying33 info26 rfl (by decide) (by omega) u5 x5_1 (⟨t598⟩ : S26) [.slice Ao23 t598.length co23] (fun k_ => k_ ≠ gb591 ∧ k_ ≠ gb602) (fun k_ => some k_ = (.slice Ao23 t598.length co23 : Value).ownBlock) rfl rfl ?aP (fun k_ hk_ => ((Kd.R_mono (ok' := fun k_ => ((fun k_ => k_ ≠ gb591 ∧ k_ ≠ gb602)) k_ ∧ some k_ ≠ (u5 : Value).ownBlock) (Kd.R_types (Kd.R_types (Kd.R_apart' (HO600.out) (Kd.S_typed HO_5.out) (by decide)) BK591.out (by decide)) BK602.out (by decide)) (fun k_ hk => ⟨⟨hk.1.2, hk.2⟩, hk.1.1.2⟩))).1 k_ hk_.symm) ?aF ?aO ?aB ?aS ?aL ?_; (case aP => exact k26_mkM _ _ _ (⟨t598⟩ : S26) (Kd.R_mono (Kd.R_tight rfl (Kd.R_mono (ok' := fun k_ => ((fun k_ => k_ ≠ gb591 ∧ k_ ≠ gb602)) k_ ∧ some k_ ≠ (u5 : Value).ownBlock) (Kd.R_types (Kd.R_types (Kd.R_apart' (HO600.out) (Kd.S_typed HO_5.out) (by decide)) BK591.out (by decide)) BK602.out (by decide)) (fun k_ hk => ⟨⟨hk.1.2, hk.2⟩, hk.1.1.2⟩))) (fun _ h_ => h_))); (case aB => exact bw); (case aF => exact (fun k_ hk => ⟨Kd.freshB (g := gb591) (o := .cells #[.slice (some ad597) l0_0.length c0_0] 26 (0, 0)) (bo BK591.out) k_ hk, Kd.freshB (g := gb602) (o := .cells #[.slice Ao23 t598.length co23] 26 (0, 0)) (bo BK602.out) k_ hk⟩)); (case aO => exact (by (with_reducible repeat (first | apply Kd.S_alloc | apply Kd.S_drewN | apply Kd.S_drew)); exact Kd.S_mono HO_5.out (fun k_ hk => ⟨⟨hk.2.1, hk.2.2⟩, fun e_ => hk.1 e_⟩))); (case aS => exact (below_size bw)); (case aL => have := LMc19.out; omega); intro v604 w28 ho hb hg hat; rw [← Ny603.out] at ho; replace BK591 := am (blk_grown (g := gb591) (o := .cells #[.slice (some ad597) l0_0.length c0_0] 26 (0, 0)) (bo BK591.out) hg (Kd.S_away HO_5.out (fun _ hk => by first | exact hk.2.1 | simp_all))); replace BK602 := am (blk_grown (g := gb602) (o := .cells #[.slice Ao23 t598.length co23] 26 (0, 0)) (bo BK602.out) hg (Kd.S_away HO_5.out (fun _ hk => by first | exact hk.2.2 | simp_all))); replace HB := am (hb); have HO605 := am (ho); clear HO_5 HO600 ho hb hg hat))
      go_roundg k1
      case measure => have := HK1.out; omega
      case rel => exact ⟨(y603), (wrap64 (x19_1 + 1)), rr, H', ⟨by have := HK1.out; omega⟩, ⟨by (with_reducible repeat (first | apply Kd.S_alloc | apply Kd.S_drewN | apply Kd.S_drew)); exact Kd.S_mono HO605.out (fun _ hk => hk.1)⟩, ⟨bo BK591.out⟩, ⟨bw⟩⟩
     simp only [Option.some.injEq, Prod.mk.injEq] at H
     obtain ⟨rfl, rfl⟩ := H
     obtain ⟨⟨ad597, e597, hx597_0⟩, p597, q597⟩ := pq (Kd.at_int HR0_0.out x19_1)
     cases e597
     replace hx597_0 := hw HB hx597_0
     have hcz29_0 := bc BK591 0 (.slice (some ad597) l0_0.length c0_0)
     have hfz29_0 := blk_frozen BK591.out 0
     go_wp2_with (first | ((with_reducible refine gate_callee (f := 9) rfl ?_); refine gl (some 29) Try.func9 #[.agg #[.slice (some ad597) l0_0.length c0_0], .int .i64 (rd l0_0 x19_1)] ?_; (with_reducible refine (impl_RemoveGenerator.calls k1 _ _ l0_0 (rd l0_0 x19_1) t598 false _ ?side1 ?side2 A17.out).mono ?_); (case side1 => exact co (Kd.C_below HR0_0.out HB.out)); (case side2 => exact HC0_0.out); rintro e w30 ⟨v599, rfl, ho0, hb⟩; refine ⟨_, rfl, ?_⟩; replace HO_5 := am (Kd.S_elder' (so HO_5.out) (Kd.R_base ho0) hb); have HO600 := am (Kd.R_lower ho0 (below_size bw)); replace BK591 := kb BK591 hb; replace HB := am (below_step bw hb); clear hb ho0) | ((with_reducible refine gate_dst (N := 8) rfl ?_); refine bx 8 #[.slice none 0 0] 26 ?_; intro gb602 hg w31 hbox hb; replace HO_5 := am (Kd.S_below (Kd.S_elderB (so HO_5.out) gb602 (Nat.le_of_eq hg.symm)) hb); replace HO600 := rK HO600 hb; have BK602 := am (hbox); have GW602 := am (gs hg : w.heap.size ≤ gb602); have GE602 := GW602; replace HB := am (below_step bw hb); have NB591_602 := nl hg BK591; have NB602_591 := ns NB591_602; replace BK591 := kb BK591 hb; clear hb hbox hg; obtain ⟨Ao32, co32, eo32⟩ := Kd.R_slice HO600.out; subst eo32; have hnb33 := NB602_591.out; have hnc33 := NB591_602.out; have hcz34_0 := bc BK602 0 (.slice none 0 0); have hfz34_0 := blk_frozen BK602.out 0))
     go_ret2
     exact ⟨_, re, by first | exact Kd.S_nil _ _ _ _ _ | exact Kd.N_nil _ _ _ _ _ | exact Kd.V_nil _ _ _ _ _ | exact Kd.Q_nil _ _ _ _ _ | exact Kd.R_nil _ _ _ _ _, bw⟩
    simp only [Option.some.injEq, Prod.mk.injEq] at H
    obtain ⟨rfl, rfl⟩ := H
    go_wp2
    go_ret2
    exact ⟨_, re, by (with_reducible repeat (first | apply Kd.S_alloc | apply Kd.S_drewN | apply Kd.S_drew)); exact Kd.S_mono HO_5.out (fun _ hk => trivial), bw⟩
 simp only [Option.some.injEq, Prod.mk.injEq] at H
 obtain ⟨rfl, rfl⟩ := H
 go_enter Try.func14, Try.ntmps14
 go_wp2_with (first | ((with_reducible refine gate_dst (N := 1) rfl ?_); refine bx 1 #[.slice A0_0 l0_0.length c0_0] 26 ?_; intro gb591 hg w35 hbox hb; have BK591 := am (hbox); have GW591 := am (gs hg : w.heap.size ≤ gb591); have GE591 := GW591; replace HB := am (below_step bw hb); clear hb hbox hg; have hcz36_0 := bc BK591 0 (.slice A0_0 l0_0.length c0_0); have hfz36_0 := blk_frozen BK591.out 0) | ((with_reducible refine gate_callee (f := 27) rfl ?_); refine gl (some 11) Try.func27 #[.agg #[.slice A0_0 l0_0.length c0_0]] ?_; (with_reducible refine (impl_IsSemigroup.calls k _ _ l0_0 false _ ?side1 ?side2 A2.out).mono ?_); (case side1 => exact co (Kd.C_below HR0_0.out HB.out)); (case side2 => exact HC0_0.out); rintro e w37 ⟨rfl, hb⟩; refine ⟨_, rfl, ?_⟩; replace BK591 := kb BK591 hb; replace HB := am (below_step bw hb); clear hb))
 go_ret2
 exact ⟨_, re, by first | exact Kd.S_nil _ _ _ _ _ | exact Kd.N_nil _ _ _ _ _ | exact Kd.V_nil _ _ _ _ _ | exact Kd.Q_nil _ _ _ _ _ | exact Kd.R_nil _ _ _ _ _, bw⟩

end Go.Proofs.Ytlhcpbpcdicleaa.C
