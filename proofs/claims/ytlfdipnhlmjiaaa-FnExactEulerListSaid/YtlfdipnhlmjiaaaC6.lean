/- Contracts of functions of the program: spec_SeriesFrom, spec_ConductorOf, spec_l1Bit, spec_l3Has, spec_l15Has, spec_NumeratorOf, spec_EulerList, impl_ConductorOf, impl_NumeratorOf, impl_product, impl_total. -/
import Derived.Test.YtlfdipnhlmjiaaaC0
import Derived.Test.YtlfdipnhlmjiaaaC1
import Derived.Test.YtlfdipnhlmjiaaaC3
import Derived.Test.YtlfdipnhlmjiaaaC5
namespace Go.Proofs.Ytlfdipnhlmjiaaa.C
open Go.RowKit Go.Proofs.YtlfdipnhlmjiaaaW.PrintWords Go.Proofs.YtlfdipnhlmjiaaaW.PrintLast Go.Proofs.YtlfdipnhlmjiaaaW.PrintMore
attribute [local go_sem] max2_int min2_int max_two min_two max_three min_three max_four min_four
set_option linter.unusedVariables false
set_option linter.unusedSimpArgs false

/-! ### spec_SeriesFrom: function 66 -/
def spec_SeriesFrom.l0 : Nat → List Int → Int → List Int → Int → Int → Option (List Int)
 | 0, _, _, _, _, _ => none
 | k + 1, x0, x1, x5, x6, x7 => if x7 < x1 then (if x7 < (x0.length : Int) then (if 0 ≤ x7 then (if x5.length < 17592186044416 then (spec_SeriesFrom.l0 k x0 x1 (x5 ++ [wrap64 (x6 + (rd x0 x7))]) (wrap64 (x6 + (rd x0 x7))) (wrap64 (x7 + 1))) else (none)) else (none)) else (if x5.length < 17592186044416 then (spec_SeriesFrom.l0 k x0 x1 (x5 ++ [x6]) x6 (wrap64 (x7 + 1))) else (none))) else (some x5)
def spec_SeriesFrom.f (k : Nat) (l0 : List Int) (a1 : Int) : Option (List Int) := (some (([] : List Int) : List Int)).bind fun y250 => ((spec_l1In.f a1 0 1000).bind fun t253 => (if t253 = true then (spec_SeriesFrom.l0 k l0 a1 y250 0 0) else (some y250)))
set_option maxHeartbeats 8000000 in
set_option maxRecDepth 100000 in
theorem spec_SeriesFrom.calls (k : Nat) (A0 : Option Addr) (c0 : Nat) (l0 : List Int) (a1 : Int) (r : List Int) (w : World) (hr0 : Kd.C (Kd.int .i64) w A0 l0.length l0) (hc0 : l0.length ≤ c0) (h : spec_SeriesFrom.f k l0 a1 = some r) :
  Calls Try.prog 66 #[.slice A0 l0.length c0, .int .i64 a1] w fun e w' => ∃ v0_ : Value, e = .returned (v0_) ∧ Kd.R (Kd.int .i64) 3 w' w.heap.size (fun _ => True) v0_ r ∧ Below w.heap.size w w' := by
 have HR0 := am hr0
 have HC0 := am hc0
 clear hr0 hc0
 have HB := am (Below.refl w.heap.size w)
 have H : ((some (([] : List Int) : List Int)).bind fun y250 => ((spec_l1In.f a1 0 1000).bind fun t253 => (if t253 = true then (spec_SeriesFrom.l0 k l0 a1 y250 0 0) else (some y250)))) = some r := h
 clear h
 obtain ⟨y250, hy250⟩ : ∃ y_ : List Int, y_ = (([] : List Int)) := ⟨_, rfl⟩
 replace H : ((spec_l1In.f a1 0 1000).bind fun t253 => (if t253 = true then (spec_SeriesFrom.l0 k l0 a1 y250 0 0) else (some y250))) = some r := by first | (rw [hy250]; with_reducible first | exact H | exact bs H) | (with_reducible first | exact bs H | exact H) | (rw [hy250]; exact H) | exact H
 have Ny250 := am hy250
 clear hy250
 replace H := ga H; obtain ⟨t253, A3, H⟩ := H
 replace H := gb H; obtain ⟨rfl, H⟩ | ⟨rfl, H⟩ := H
 ·have H' := am H
  clear H
  go_enter Try.func66, Try.ntmps66
  go_wp2_with (first | ((with_reducible refine gate_dst (N := 8) rfl ?_); refine Kd.R_lit (Kd.int .i64) _ 3 ?hg (N := 8) ?hd (xs := ([] : List Int)) (inner := []) (ok := fun _ => True) (okp := fun _ => True) ?hr ?hp (fun _ hk => hk) trivial (Below.refl _ _) (Nat.le_refl _) (by simp) ?_; (case hd => rfl); (case hg => rfl); (case hr => first | (go_simp; done) | (go_simp; rfl)); (case hp => exact (Reps.none _ _)); intro v251 w5 ho6 hb hg_ hnew_; clear hg_ hnew_; (first | rw [← Ny250.out] at ho6 | (simp only [Int.reduceToNat] at ho6; rw [← Ny250.out] at ho6)); have HO252 := am (Kd.R_lower ho6 (below_size bw)); replace HB := am (below_step bw hb); clear hb ho6) | ((with_reducible refine gate_callee (f := 59) rfl ?_); refine gl (some 10) Try.func59 #[.int .i64 a1, .int .i64 0, .int .i64 1000] ?_; (with_reducible refine (spec_l1In.calls a1 0 1000 true _ A3.out).mono ?_); rintro e w' ⟨rfl, ⟨nd, rfl⟩⟩; refine ⟨_, rfl, ?_⟩))
  go_loopg [5, 6, 7] k (fun kq v5 v6 v7 w' => ∃ (x5_1 : List Int) (x6_1 : Int) (x7_1 : Int), v6 = .int .i64 x6_1 ∧ v7 = .int .i64 x7_1 ∧ Aside0 (spec_SeriesFrom.l0 kq l0 a1 x5_1 x6_1 x7_1 = some r) ∧ Aside0 (kq ≤ k) ∧ Aside0 (Kd.R (Kd.int .i64) 3 w' w.heap.size (fun _ => True) v5 x5_1) ∧ Aside0 (Below w.heap.size w w'))
  case atStart => exact ⟨(y250), (0), (0), rr, rr, H', ⟨Nat.le_refl _⟩, ⟨ro HO252.out⟩, ⟨bw⟩⟩
  case round =>
   clear H'
   obtain ⟨x5_1, x6_1, x7_1, rfl, rfl, HA, HK1, HO_5, HB⟩ := hrel
   cases gk with
   | zero => exact absurd HA.out (by simp [spec_SeriesFrom.l0])
   | succ k1 =>
    have H := HA.out
    clear HA
    simp only [spec_SeriesFrom.l0] at H
    replace H := gi H; obtain ⟨c7b0, H⟩ | ⟨c7b0, H⟩ := H
    ·replace H := gi H; obtain ⟨c8b0, H⟩ | ⟨c8b0, H⟩ := H
     ·replace H := gd H; obtain ⟨c9b0, H⟩ := H
      by_cases c10 : x5_1.length < 17592186044416
      rotate_left
      ·rw [if_neg c10] at H
       exact absurd H (by simp)
      rw [if_pos c10] at H
      have LMc10 := am c10
      clear c10
      obtain ⟨y255, hy255⟩ : ∃ y_ : List Int, y_ = (x5_1 ++ [wrap64 (x6_1 + (rd l0 x7_1))]) := ⟨_, rfl⟩
      replace H : (spec_SeriesFrom.l0 k1 l0 a1 y255 (wrap64 (x6_1 + (rd l0 x7_1))) (wrap64 (x7_1 + 1))) = some r := by first | (rw [hy255]; with_reducible first | exact H | exact bs H) | (with_reducible first | exact bs H | exact H) | (rw [hy255]; exact H) | exact H
      have Ny255 := am hy255
      clear hy255
      have H' := am H
      clear H
      obtain ⟨⟨ad254, e254, hx254_0⟩, p254, q254⟩ := pq (Kd.at_int HR0.out x7_1)
      cases e254
      replace hx254_0 := hw HB hx254_0
      go_wp2_with (first | ((with_reducible refine gate_builtin (b := .append) (xs := #[.tmp 28, .tmp 30]) rfl ?_); at_builtin; refine Kd.R_append (Kd.int .i64) (w0 := w) w.heap.size rfl (.tmp 28) (.tmp 30) 22 3 (.int .i64 0) 8 rfl Try.underlying22 info3 rfl (by decide) (by omega) u5 x5_1 (wrap64 (x6_1 + (rd l0 x7_1))) [.int .i64 (wrap64 (x6_1 + (rd l0 x7_1)))] (fun _ => True) (fun _ => False) rfl rfl ?aP (fun _ hk => hk.elim) ?aF ?aO ?aB ?aS ?aL ?_; (case aP => exact rfl); (case aB => exact bw); (case aF => exact (fun _ _ => trivial)); (case aO => exact (ro HO_5.out)); (case aS => exact (below_size bw)); (case aL => have := LMc10.out; omega); intro v256 w11 ho hb hg hat; rw [← Ny255.out] at ho; replace HB := am (hb); have HO257 := am (ho); clear HO_5 ho hb hg hat))
      go_roundg k1
      case measure => have := HK1.out; omega
      case rel => exact ⟨(y255), (wrap64 (x6_1 + (rd l0 x7_1))), (wrap64 (x7_1 + 1)), rr, rr, H', ⟨by have := HK1.out; omega⟩, ⟨ro HO257.out⟩, ⟨bw⟩⟩
     by_cases c12 : x5_1.length < 17592186044416
     rotate_left
     ·rw [if_neg c12] at H
      exact absurd H (by simp)
     rw [if_pos c12] at H
     have LMc12 := am c12
     clear c12
     obtain ⟨y258, hy258⟩ : ∃ y_ : List Int, y_ = (x5_1 ++ [x6_1]) := ⟨_, rfl⟩
     replace H : (spec_SeriesFrom.l0 k1 l0 a1 y258 x6_1 (wrap64 (x7_1 + 1))) = some r := by first | (rw [hy258]; with_reducible first | exact H | exact bs H) | (with_reducible first | exact bs H | exact H) | (rw [hy258]; exact H) | exact H
     have Ny258 := am hy258
     clear hy258
     have H' := am H
     clear H
     go_wp2_with (first | ((with_reducible refine gate_builtin (b := .append) (xs := #[.tmp 28, .tmp 30]) rfl ?_); at_builtin; refine Kd.R_append (Kd.int .i64) (w0 := w) w.heap.size rfl (.tmp 28) (.tmp 30) 22 3 (.int .i64 0) 8 rfl Try.underlying22 info3 rfl (by decide) (by omega) u5 x5_1 x6_1 [.int .i64 x6_1] (fun _ => True) (fun _ => False) rfl rfl ?aP (fun _ hk => hk.elim) ?aF ?aO ?aB ?aS ?aL ?_; (case aP => exact rfl); (case aB => exact bw); (case aF => exact (fun _ _ => trivial)); (case aO => exact (ro HO_5.out)); (case aS => exact (below_size bw)); (case aL => have := LMc12.out; omega); intro v259 w13 ho hb hg hat; rw [← Ny258.out] at ho; replace HB := am (hb); have HO260 := am (ho); clear HO_5 ho hb hg hat))
     go_roundg k1
     case measure => have := HK1.out; omega
     case rel => exact ⟨(y258), (x6_1), (wrap64 (x7_1 + 1)), rr, rr, H', ⟨by have := HK1.out; omega⟩, ⟨ro HO260.out⟩, ⟨bw⟩⟩
    obtain rfl := Option.some.inj H
    go_wp2
    go_ret
    exact ⟨_, re, ro HO_5.out, bw⟩
 obtain rfl := Option.some.inj H
 go_enter Try.func66, Try.ntmps66
 go_wp2_with (first | ((with_reducible refine gate_dst (N := 8) rfl ?_); refine Kd.R_lit (Kd.int .i64) _ 3 ?hg (N := 8) ?hd (xs := ([] : List Int)) (inner := []) (ok := fun _ => True) (okp := fun _ => True) ?hr ?hp (fun _ hk => hk) trivial (Below.refl _ _) (Nat.le_refl _) (by simp) ?_; (case hd => rfl); (case hg => rfl); (case hr => first | (go_simp; done) | (go_simp; rfl)); (case hp => exact (Reps.none _ _)); intro v251 w14 ho15 hb hg_ hnew_; clear hg_ hnew_; (first | rw [← Ny250.out] at ho15 | (simp only [Int.reduceToNat] at ho15; rw [← Ny250.out] at ho15)); have HO252 := am (Kd.R_lower ho15 (below_size bw)); replace HB := am (below_step bw hb); clear hb ho15) | ((with_reducible refine gate_callee (f := 59) rfl ?_); refine gl (some 10) Try.func59 #[.int .i64 a1, .int .i64 0, .int .i64 1000] ?_; (with_reducible refine (spec_l1In.calls a1 0 1000 false _ A3.out).mono ?_); rintro e w' ⟨rfl, ⟨nd, rfl⟩⟩; refine ⟨_, rfl, ?_⟩))
 go_ret
 exact ⟨_, re, ro HO252.out, bw⟩


/-! ### spec_ConductorOf: function 118 -/
def spec_ConductorOf.f (k : Nat) (l0_0 : List Int) : Option (Int) := (spec_FrobeniusOf.f k l0_0).bind fun t262 => (some (wrap64 (t262 + 1)))
set_option maxHeartbeats 8000000 in
set_option maxRecDepth 100000 in
theorem spec_ConductorOf.calls (k : Nat) (A0_0 : Option Addr) (c0_0 : Nat) (l0_0 : List Int) (r : Int) (w : World) (hr0_0 : Kd.C (Kd.int .i64) w A0_0 l0_0.length l0_0) (hc0_0 : l0_0.length ≤ c0_0) (h : spec_ConductorOf.f k l0_0 = some r) :
  Calls Try.prog 118 #[.agg #[.slice A0_0 l0_0.length c0_0]] w fun e w' => e = .returned (.int .i64 r) ∧ Below w.heap.size w w' := by
 have hu27 := Try.underlying27
 have HR0_0 := am hr0_0
 have HC0_0 := am hc0_0
 clear hr0_0 hc0_0
 have HB := am (Below.refl w.heap.size w)
 have H : ((spec_FrobeniusOf.f k l0_0).bind fun t262 => (some (wrap64 (t262 + 1)))) = some r := h
 clear h
 replace H := ga H; obtain ⟨t262, A2, H⟩ := H
 obtain rfl := Option.some.inj H
 go_enter Try.func118, Try.ntmps118
 go_wp2_with (first | ((with_reducible refine gate_dst (N := 1) rfl ?_); refine bx 1 #[.slice A0_0 l0_0.length c0_0] 27 ?_; intro gb261 hg w3 hbox hb; have BK261 := am (hbox); have GW261 := am (gs hg : w.heap.size ≤ gb261); have GE261 := GW261; replace HB := am (below_step bw hb); clear hb hbox hg; have hcz4_0 := bc BK261 0 (.slice A0_0 l0_0.length c0_0); have hfz4_0 := blk_frozen BK261.out 0) | ((with_reducible refine gate_callee (f := 65) rfl ?_); refine gl (some 4) Try.func65 #[.agg #[.slice A0_0 l0_0.length c0_0]] ?_; (with_reducible refine (spec_FrobeniusOf.calls k _ _ l0_0 t262 _ ?side1 ?side2 A2.out).mono ?_); (case side1 => exact co (Kd.C_below HR0_0.out HB.out)); (case side2 => exact HC0_0.out); rintro e w5 ⟨rfl, hb⟩; refine ⟨_, rfl, ?_⟩; replace BK261 := kb BK261 hb; replace HB := am (below_step bw hb); clear hb))
 go_ret
 exact ⟨re, bw⟩


/-! ### spec_l1Bit: function 119 -/
def spec_l1Bit.f (a0 : Bool) : Option (Int) := if a0 = true then (some 1) else (some 0)
set_option maxHeartbeats 8000000 in
set_option maxRecDepth 100000 in
theorem spec_l1Bit.calls (a0 : Bool) (r : Int) (w : World) (h : spec_l1Bit.f a0 = some r) :
  Calls Try.prog 119 #[.bool a0] w fun e w' => e = .returned (.int .i64 r) ∧ Drawn0 w w' := by
 have H : (if a0 = true then (some 1) else (some 0)) = some r := h
 clear h
 replace H := gb H; obtain ⟨rfl, H⟩ | ⟨rfl, H⟩ := H
 ·obtain rfl := Option.some.inj H
  go_enter Try.func119, Try.ntmps119
  go_wp2
  go_ret
  exact ⟨rr, dw⟩
 obtain rfl := Option.some.inj H
 go_enter Try.func119, Try.ntmps119
 go_wp2
 go_ret
 exact ⟨rr, dw⟩


/-! ### spec_l3Has: function 73 -/
def spec_l3Has.f (k : Nat) (l0_0 : List Int) (a1 : Int) : Option (Bool) := if a1 < 0 then (some (decide (a1 > 0))) else (if a1 ≥ 200 then (some (decide (a1 > 0))) else ((spec_l3Table.f k l0_0 a1).bind fun t264 => (if 0 ≤ a1 then (if a1 < (t264.length : Int) then (some (rdOf false t264 a1)) else (none)) else (none))))
set_option maxHeartbeats 8000000 in
set_option maxRecDepth 100000 in
theorem spec_l3Has.calls (k : Nat) (A0_0 : Option Addr) (c0_0 : Nat) (l0_0 : List Int) (a1 : Int) (r : Bool) (w : World) (hr0_0 : Kd.C (Kd.int .i64) w A0_0 l0_0.length l0_0) (hc0_0 : l0_0.length ≤ c0_0) (h : spec_l3Has.f k l0_0 a1 = some r) :
  Calls Try.prog 73 #[.agg #[.slice A0_0 l0_0.length c0_0], .int .i64 a1] w fun e w' => e = .returned (.bool r) ∧ Below w.heap.size w w' := by
 have hu27 := Try.underlying27
 have HR0_0 := am hr0_0
 have HC0_0 := am hc0_0
 clear hr0_0 hc0_0
 have HB := am (Below.refl w.heap.size w)
 have H : (if a1 < 0 then (some (decide (a1 > 0))) else (if a1 ≥ 200 then (some (decide (a1 > 0))) else ((spec_l3Table.f k l0_0 a1).bind fun t264 => (if 0 ≤ a1 then (if a1 < (t264.length : Int) then (some (rdOf false t264 a1)) else (none)) else (none))))) = some r := h
 clear h
 replace H := gi H; obtain ⟨c3b0, H⟩ | ⟨c3b0, H⟩ := H
 ·obtain rfl := Option.some.inj H
  go_enter Try.func73, Try.ntmps73
  go_wp2_with (first | ((with_reducible refine gate_dst (N := 2) rfl ?_); refine bx 2 #[.slice A0_0 l0_0.length c0_0] 27 ?_; intro gb263 hg w4 hbox hb; have BK263 := am (hbox); have GW263 := am (gs hg : w.heap.size ≤ gb263); have GE263 := GW263; replace HB := am (below_step bw hb); clear hb hbox hg))
  go_ret
  exact ⟨re, bw⟩
 replace H := gj H; obtain ⟨c5, H⟩ | ⟨c5, H⟩ := H
 ·have c5b0 : decide (200 ≤ a1) = true := decide_eq_true c5
  clear c5
  obtain rfl := Option.some.inj H
  go_enter Try.func73, Try.ntmps73
  go_wp2_with (first | ((with_reducible refine gate_dst (N := 2) rfl ?_); refine bx 2 #[.slice A0_0 l0_0.length c0_0] 27 ?_; intro gb263 hg w6 hbox hb; have BK263 := am (hbox); have GW263 := am (gs hg : w.heap.size ≤ gb263); have GE263 := GW263; replace HB := am (below_step bw hb); clear hb hbox hg))
  go_ret
  exact ⟨re, bw⟩
 have c5b0 : decide (200 ≤ a1) = false := decide_eq_false c5
 clear c5
 replace H := ga H; obtain ⟨t264, A7, H⟩ := H
 replace H := gd H; obtain ⟨c8b0, H⟩ := H
 replace H := gd H; obtain ⟨c9b0, H⟩ := H
 obtain rfl := Option.some.inj H
 go_enter Try.func73, Try.ntmps73
 go_wp2_with (first | ((with_reducible refine gate_dst (N := 2) rfl ?_); refine bx 2 #[.slice A0_0 l0_0.length c0_0] 27 ?_; intro gb263 hg w10 hbox hb; have BK263 := am (hbox); have GW263 := am (gs hg : w.heap.size ≤ gb263); have GE263 := GW263; replace HB := am (below_step bw hb); clear hb hbox hg; have hcz11_0 := bc BK263 0 (.slice A0_0 l0_0.length c0_0); have hfz11_0 := blk_frozen BK263.out 0) | ((with_reducible refine gate_callee (f := 123) rfl ?_); refine gl (some 16) Try.func123 #[.slice A0_0 l0_0.length c0_0, .int .i64 a1] ?_; (with_reducible refine (spec_l3Table.calls k _ _ l0_0 a1 t264 _ ?side1 ?side2 A7.out).mono ?_); (case side1 => exact co (Kd.C_below HR0_0.out HB.out)); (case side2 => exact HC0_0.out); rintro e w12 ⟨v265, rfl, ho0, hb⟩; refine ⟨_, rfl, ?_⟩; have HO266 := am (Kd.R_lower ho0 (below_size bw)); replace BK263 := kb BK263 hb; replace HB := am (below_step bw hb); clear hb ho0; obtain ⟨Ao13, co13, eo13⟩ := Kd.R_slice HO266.out; subst eo13; have p267 : 0 ≤ (a1 : Int) := of_decide_eq_true (by first | (with_reducible assumption) | assumption); have q267 : a1 < (t264.length : Int) := of_decide_eq_true (by first | (with_reducible assumption) | assumption); obtain ⟨ad267, e267, hx267_0⟩ := Kd.at_bool (Kd.R_reads' HO266.out).2.2 a1 p267 q267; cases e267; replace p267 := eq_true p267; replace q267 := eq_true q267))
 go_ret
 exact ⟨re, bw⟩


/-! ### spec_l15Has: function 120 -/
def spec_l15Has.f (k : Nat) (l0_0 : List Int) (a1 : Int) : Option (Bool) := if a1 = 0 then (some true) else ((spec_l3Has.f k l0_0 a1).bind fun t269 => (some t269))
set_option maxHeartbeats 8000000 in
set_option maxRecDepth 100000 in
theorem spec_l15Has.calls (k : Nat) (A0_0 : Option Addr) (c0_0 : Nat) (l0_0 : List Int) (a1 : Int) (r : Bool) (w : World) (hr0_0 : Kd.C (Kd.int .i64) w A0_0 l0_0.length l0_0) (hc0_0 : l0_0.length ≤ c0_0) (h : spec_l15Has.f k l0_0 a1 = some r) :
  Calls Try.prog 120 #[.agg #[.slice A0_0 l0_0.length c0_0], .int .i64 a1] w fun e w' => e = .returned (.bool r) ∧ Below w.heap.size w w' := by
 have hu27 := Try.underlying27
 have HR0_0 := am hr0_0
 have HC0_0 := am hc0_0
 clear hr0_0 hc0_0
 have HB := am (Below.refl w.heap.size w)
 have H : (if a1 = 0 then (some true) else ((spec_l3Has.f k l0_0 a1).bind fun t269 => (some t269))) = some r := h
 clear h
 by_cases c3 : a1 = 0
 ·rw [if_pos c3] at H
  have c3b0 : (a1 == 0) = true := beq_iff_eq.mpr c3
  have c3b1 : (a1 != 0) = false := bne_eq_false_iff_eq.mpr c3
  clear c3
  obtain rfl := Option.some.inj H
  go_enter Try.func120, Try.ntmps120
  go_wp2_with (first | ((with_reducible refine gate_dst (N := 2) rfl ?_); refine bx 2 #[.slice A0_0 l0_0.length c0_0] 27 ?_; intro gb268 hg w4 hbox hb; have BK268 := am (hbox); have GW268 := am (gs hg : w.heap.size ≤ gb268); have GE268 := GW268; replace HB := am (below_step bw hb); clear hb hbox hg))
  go_ret
  exact ⟨re, bw⟩
 rw [if_neg c3] at H
 have c3b0 : (a1 == 0) = false := beq_eq_false_iff_ne.mpr c3
 have c3b1 : (a1 != 0) = true := bne_iff_ne.mpr c3
 replace H := ga H; obtain ⟨t269, A5, H⟩ := H
 obtain rfl := Option.some.inj H
 go_enter Try.func120, Try.ntmps120
 go_wp2_with (first | ((with_reducible refine gate_dst (N := 2) rfl ?_); refine bx 2 #[.slice A0_0 l0_0.length c0_0] 27 ?_; intro gb268 hg w6 hbox hb; have BK268 := am (hbox); have GW268 := am (gs hg : w.heap.size ≤ gb268); have GE268 := GW268; replace HB := am (below_step bw hb); clear hb hbox hg; have hcz7_0 := bc BK268 0 (.slice A0_0 l0_0.length c0_0); have hfz7_0 := blk_frozen BK268.out 0) | (go_at_call 73; (with_reducible refine (spec_l3Has.calls k _ _ l0_0 a1 t269 _ ?side1 ?side2 A5.out).mono ?_); (case side1 => exact co (Kd.C_below HR0_0.out HB.out)); (case side2 => exact HC0_0.out); rintro e w8 ⟨rfl, hb⟩; replace BK268 := kb BK268 hb; replace HB := am (below_step bw hb); clear hb))
 go_ret
 exact ⟨re, bw⟩


/-! ### spec_NumeratorOf: function 67 -/
def spec_NumeratorOf.l0 : Nat → List Int → Int → List Int → Option (List Int)
 | 0, _, _, _ => none
 | k + 1, x3, x4, x271000 => (spec_ConductorOf.f k x271000).bind fun t275 => (if x4 ≤ t275 then ((spec_l15Has.f k x271000 x4).bind fun t276 => ((spec_l1Bit.f t276).bind fun t277 => ((spec_l15Has.f k x271000 (wrap64 (x4 - 1))).bind fun t278 => ((spec_l1Bit.f t278).bind fun t279 => (if x3.length < 17592186044416 then (spec_NumeratorOf.l0 k (x3 ++ [wrap64 (t277 - t279)]) (wrap64 (x4 + 1)) x271000) else (none)))))) else (some x3))
def spec_NumeratorOf.f (k : Nat) (l0_0 : List Int) : Option (List Int) := (some (([] : List Int) : List Int)).bind fun y271 => ((spec_IsSemigroup.f k l0_0).bind fun t274 => (if t274 = true then (spec_NumeratorOf.l0 k y271 0 l0_0) else (some y271)))
def spec_NumeratorOf.T7 : Bool × List (List Nat × List Nat) := (true, [([], []), ([], []), ([], []), ([1, 2], [1, 2]), ([3, 3], [3]), ([], []), ([], []), ([6], [6]), ([5, 7, 4], [5, 7]), ([8, 8], [8]), ([4, 9], [4, 9]), ([10], [10]), ([0, 11, 9], [0, 11]), ([12, 12, 0, 1, 2, 3, 4, 5, 6, 7, 8, 9, 10, 11, 12], [0, 12])])
def spec_NumeratorOf.B7 : List Nat := [0, 0, 0, 6, 14, 0, 0, 64, 254, 510, 1022, 2046, 4095, 8191]
theorem spec_NumeratorOf.tab7 : rtab .any (opsOf Try.f67 7) = spec_NumeratorOf.T7 := by kernel_rfl
theorem spec_NumeratorOf.bits7 : waitsOk spec_NumeratorOf.T7.2 spec_NumeratorOf.B7 = true := by kernel_rfl
set_option maxHeartbeats 8000000 in
set_option maxRecDepth 100000 in
theorem spec_NumeratorOf.calls (k : Nat) (A0_0 : Option Addr) (c0_0 : Nat) (l0_0 : List Int) (r : List Int) (w : World) (hr0_0 : Kd.C (Kd.int .i64) w A0_0 l0_0.length l0_0) (hc0_0 : l0_0.length ≤ c0_0) (h : spec_NumeratorOf.f k l0_0 = some r) :
  Calls Try.prog 67 #[.agg #[.slice A0_0 l0_0.length c0_0]] w fun e w' => ∃ v0_ : Value, e = .returned (v0_) ∧ Kd.R (Kd.int .i64) 3 w' w.heap.size (fun _ => True) v0_ r ∧ Below w.heap.size w w' := by
 have hu27 := Try.underlying27
 have HR0_0 := am hr0_0
 have HC0_0 := am hc0_0
 clear hr0_0 hc0_0
 have HB := am (Below.refl w.heap.size w)
 have H : ((some (([] : List Int) : List Int)).bind fun y271 => ((spec_IsSemigroup.f k l0_0).bind fun t274 => (if t274 = true then (spec_NumeratorOf.l0 k y271 0 l0_0) else (some y271)))) = some r := h
 clear h
 obtain ⟨y271, hy271⟩ : ∃ y_ : List Int, y_ = (([] : List Int)) := ⟨_, rfl⟩
 replace H : ((spec_IsSemigroup.f k l0_0).bind fun t274 => (if t274 = true then (spec_NumeratorOf.l0 k y271 0 l0_0) else (some y271))) = some r := by first | (rw [hy271]; with_reducible first | exact H | exact bs H) | (with_reducible first | exact bs H | exact H) | (rw [hy271]; exact H) | exact H
 have Ny271 := am hy271
 clear hy271
 replace H := ga H; obtain ⟨t274, A2, H⟩ := H
 replace H := gb H; obtain ⟨rfl, H⟩ | ⟨rfl, H⟩ := H
 ·have H' := am H
  clear H
  go_enter Try.func67, Try.ntmps67
  go_wp2_with (first | ((with_reducible refine gate_dst (N := 1) rfl ?_); refine bx 1 #[.slice A0_0 l0_0.length c0_0] 27 ?_; intro gb270 hg w4 hbox hb; have BK270 := am (hbox); have GW270 := am (gs hg : w.heap.size ≤ gb270); have GE270 := GW270; replace HB := am (below_step bw hb); clear hb hbox hg) | ((with_reducible refine gate_dst (N := 5) rfl ?_); refine Kd.R_lit (Kd.int .i64) _ 3 ?hg (N := 5) ?hd (xs := ([] : List Int)) (inner := []) (ok := fun _ => True) (okp := fun _ => True) ?hr ?hp (fun _ hk => hk) trivial (Below.refl _ _) (Nat.le_refl _) (by simp) ?_; (case hd => rfl); (case hg => rfl); (case hr => first | (go_simp; done) | (go_simp; rfl)); (case hp => exact (Reps.none _ _)); intro v272 w5 ho6 hb hg_ hnew_; clear hg_ hnew_; (first | rw [← Ny271.out] at ho6 | (simp only [Int.reduceToNat] at ho6; rw [← Ny271.out] at ho6)); have HO273 := am (Kd.R_lower ho6 (below_size bw)); replace BK270 := kb BK270 hb; replace HB := am (below_step bw hb); clear hb ho6; have hcz7_0 := bc BK270 0 (.slice A0_0 l0_0.length c0_0); have hfz7_0 := blk_frozen BK270.out 0) | ((with_reducible refine gate_callee (f := 58) rfl ?_); refine gl (some 7) Try.func58 #[.agg #[.slice A0_0 l0_0.length c0_0]] ?_; (with_reducible refine (spec_IsSemigroup.calls k _ _ l0_0 true _ ?side1 ?side2 A2.out).mono ?_); (case side1 => exact co (Kd.C_below HR0_0.out HB.out)); (case side2 => exact HC0_0.out); rintro e w8 ⟨rfl, hb⟩; refine ⟨_, rfl, ?_⟩; replace HO273 := rK HO273 hb; replace BK270 := kb BK270 hb; replace HB := am (below_step bw hb); clear hb))
  go_loopg [3, 4] k (fun kq v3 v4 w' => ∃ (x3_1 : List Int) (x4_1 : Int), v4 = .int .i64 x4_1 ∧ Aside0 (spec_NumeratorOf.l0 kq x3_1 x4_1 l0_0 = some r) ∧ Aside0 (kq ≤ k) ∧ Aside0 (Kd.R (Kd.int .i64) 3 w' w.heap.size (fun _ => True) v3 x3_1) ∧ Aside0 (w'.heap[gb270]? = some (.cells #[(.slice A0_0 l0_0.length c0_0)] 27 (0, 0))) ∧ Aside0 (Below w.heap.size w w'))
  case atStart => exact ⟨(y271), (0), rr, H', ⟨Nat.le_refl _⟩, ⟨ro HO273.out⟩, ⟨bo BK270.out⟩, ⟨bw⟩⟩
  case round =>
   clear H'
   try clear hcz7_0; try clear hfz7_0
   obtain ⟨x3_1, x4_1, rfl, HA, HK1, HO_3, BK270, HB⟩ := hrel
   cases gk with
   | zero => exact absurd HA.out (by simp [spec_NumeratorOf.l0])
   | succ k1 =>
    have H := HA.out
    clear HA
    simp only [spec_NumeratorOf.l0] at H
    replace H := ga H; obtain ⟨t275, A9, H⟩ := H
    replace H := gi H; obtain ⟨c10b0, H⟩ | ⟨c10b0, H⟩ := H
    ·replace H := ga H; obtain ⟨t276, A11, H⟩ := H
     replace H := ga H; obtain ⟨t277, A12, H⟩ := H
     replace H := ga H; obtain ⟨t278, A13, H⟩ := H
     replace H := ga H; obtain ⟨t279, A14, H⟩ := H
     by_cases c15 : x3_1.length < 17592186044416
     rotate_left
     ·rw [if_neg c15] at H
      exact absurd H (by simp)
     rw [if_pos c15] at H
     have LMc15 := am c15
     clear c15
     obtain ⟨y280, hy280⟩ : ∃ y_ : List Int, y_ = (x3_1 ++ [wrap64 (t277 - t279)]) := ⟨_, rfl⟩
     replace H : (spec_NumeratorOf.l0 k1 y280 (wrap64 (x4_1 + 1)) l0_0) = some r := by first | (rw [hy280]; with_reducible first | exact H | exact bs H) | (with_reducible first | exact bs H | exact H) | (rw [hy280]; exact H) | exact H
     have Ny280 := am hy280
     clear hy280
     have H' := am H
     clear H
     have hcz16_0 := bc BK270 0 (.slice A0_0 l0_0.length c0_0)
     have hfz16_0 := blk_frozen BK270.out 0
     try go_wp2_with (first | ((with_reducible refine gate_callee (f := 118) rfl ?_); refine gl (some 12) Try.func118 #[.agg #[.slice A0_0 l0_0.length c0_0]] ?_; (with_reducible refine (spec_ConductorOf.calls k1 _ _ l0_0 t275 _ ?side1 ?side2 A9.out).mono ?_); (case side1 => exact co (Kd.C_below HR0_0.out HB.out)); (case side2 => exact HC0_0.out); rintro e w17 ⟨rfl, hb⟩; refine ⟨_, rfl, ?_⟩; replace HO_3 := rK HO_3 hb; replace BK270 := kb BK270 hb; replace HB := am (below_step bw hb); clear hb))
     replace HO_3 := am (Kd.R_drew HO_3.out)
     replace BK270 := bd BK270
     replace HB := am (below_drew1 HB.out)
     refine start_ (n := 14) (S := fun w' => w'.cell? ⟨gb270, 0, none⟩ = some (.slice A0_0 l0_0.length c0_0)) (ds := []) (yz 14 0) (by kernel_rfl) rfl rfl (bc BK270 0 _) (fun hHeld => ?_); refine with_tabW spec_NumeratorOf.tab7 spec_NumeratorOf.bits7 (fun HT_ HW_ => ?_)
     generalize w17.drew = w18 at HO_3 BK270 HB hHeld ⊢
     refine pa 0 (some 16) (yz 14 1) HT_ ?_
     refine pa 2 (some 18) (yz 14 5) HT_ ?_
     refine pa 6 (some 22) (yz 14 69) HT_ ?_
     refine pa 7 (some 23) (yz 14 197) HT_ ?_
     refine tK 1 (some 17) (yz 14 199) HT_ HW_ hHeld ?_
     refine tK 5 (some 21) (yz 14 231) HT_ HW_ hHeld ?_
     refine oa 3 (some 19) (yz 14 239) HT_ (fun K hK => ?_)
     refine gm Try.func120 #[.agg #[.slice A0_0 l0_0.length c0_0], .int .i64 x4_1] ?_
     with_reducible refine (spec_l15Has.calls k1 _ _ l0_0 x4_1 t276 _ ?side1 ?side2 A11.out).mono ?_
     (case side1 => exact co (Kd.C_below HR0_0.out HB.out))
     (case side2 => exact HC0_0.out)
     rintro e w19 ⟨rfl, hb⟩
     refine ⟨_, rfl, ?_⟩
     replace HO_3 := rK HO_3 hb
     replace BK270 := kb BK270 hb
     replace HB := am (below_step bw hb)
     clear hb
     refine hK.out _ _ (bc BK270 0 _) (fun hHeld => ?_)
     clear hK K
     refine nm (some 19) ?_
     refine oa 4 (some 20) (yz 14 255) HT_ (fun K hK => ?_)
     refine gm Try.func119 #[.bool t276] ?_
     with_reducible refine (spec_l1Bit.calls t276 t277 _ A12.out).mono ?_
     rintro e w' ⟨rfl, ⟨nd, rfl⟩⟩
     refine ⟨_, rfl, ?_⟩
     refine hK.out _ _ (bc BK270 0 _) (fun hHeld => ?_)
     clear hK K
     refine nm (some 20) ?_
     refine oa 8 (some 24) (yz 14 511) HT_ (fun K hK => ?_)
     refine gm Try.func120 #[.agg #[.slice A0_0 l0_0.length c0_0], .int .i64 (wrap64 (x4_1 - 1))] ?_
     with_reducible refine (spec_l15Has.calls k1 _ _ l0_0 (wrap64 (x4_1 - 1)) t278 _ ?side1 ?side2 A13.out).mono ?_
     (case side1 => exact co (Kd.C_below HR0_0.out bw))
     (case side2 => exact HC0_0.out)
     rintro e w20 ⟨rfl, hb⟩
     refine ⟨_, rfl, ?_⟩
     replace HO_3 := rK HO_3 hb
     replace BK270 := kb BK270 hb
     replace HB := am (below_step bw hb)
     clear hb
     refine hK.out _ _ (bc BK270 0 _) (fun hHeld => ?_)
     clear hK K
     refine nm (some 24) ?_
     refine oa 9 (some 25) (yz 14 1023) HT_ (fun K hK => ?_)
     refine gm Try.func119 #[.bool t278] ?_
     with_reducible refine (spec_l1Bit.calls t278 t279 _ A14.out).mono ?_
     rintro e w' ⟨rfl, ⟨nd, rfl⟩⟩
     refine ⟨_, rfl, ?_⟩
     refine hK.out _ _ (bc BK270 0 _) (fun hHeld => ?_)
     clear hK K
     refine nm (some 25) ?_
     refine pa 10 (some 26) (yz 14 2047) HT_ ?_
     refine oa 11 (some 27) (yz 14 4095) HT_ (fun K hK => ?_)
     refine value_ (w1 := ?_) (v := ?_) (by rfl) rfl ?_ ?_
     rotate_left 2
     ·go_simp
      constructor
      ·rfl
      rfl
     refine hK.out _ _ ((blk_cell (blk_alloc BK270.out _) 0).trans rfl) (fun hHeld => ?_)
     clear hK K
     refine nm (some 27) ?_
     refine oa 12 (some 28) (yz 14 8191) HT_ (fun K hK => ?_)
     refine Kd.R_append_step (Kd.int .i64) (w0 := w) w.heap.size (by rfl) (.tmp 16) (.tmp 27) 22 3 (.int .i64 0) 8 rfl Try.underlying22 info3 rfl (by decide) (by omega) u3 x3_1 (wrap64 (t277 - t279)) [.int .i64 (wrap64 (t277 - t279))] (fun _ => True) (fun _ => False) rfl rfl ?aP (fun _ hk => hk.elim) ?aF ?aO ?aB ?aS ?aL ?_
     (case aP => exact rfl)
     (case aB => exact bw)
     (case aF => exact (fun _ _ => trivial))
     (case aO => exact (ro HO_3.out))
     (case aS => exact (below_size bw))
     (case aL => have := LMc15.out; omega)
     intro v281 w21 ho hb hg hat
     rw [← Ny280.out] at ho
     replace BK270 := am (blk_grown (g := gb270) (o := .cells #[.slice A0_0 l0_0.length c0_0] 27 (0, 0)) (bo BK270.out) hg (Kd.R_ne HO_3.out BK270.out (by decide)))
     replace HB := am (hb)
     have HO282 := am (ho)
     clear HO_3 ho hb hg hat
     refine hK.out _ _ (bc BK270 0 _) (fun hHeld => ?_)
     clear hK K
     refine nm (some 28) ?_
     refine pa 13 (some 3) (yz 14 16383) HT_ ?_
     refine done_ (done_of HT_.out (by kernel_rfl)) ?_
     try go_wp2
     go_roundg k1
     case measure => have := HK1.out; omega
     case rel => exact ⟨(y280), (wrap64 (x4_1 + 1)), rr, H', ⟨by have := HK1.out; omega⟩, ⟨ro HO282.out⟩, ⟨bo BK270.out⟩, ⟨bw⟩⟩
    obtain rfl := Option.some.inj H
    have hcz22_0 := bc BK270 0 (.slice A0_0 l0_0.length c0_0)
    have hfz22_0 := blk_frozen BK270.out 0
    go_wp2_with (first | ((with_reducible refine gate_callee (f := 118) rfl ?_); refine gl (some 12) Try.func118 #[.agg #[.slice A0_0 l0_0.length c0_0]] ?_; (with_reducible refine (spec_ConductorOf.calls k1 _ _ l0_0 t275 _ ?side1 ?side2 A9.out).mono ?_); (case side1 => exact co (Kd.C_below HR0_0.out HB.out)); (case side2 => exact HC0_0.out); rintro e w23 ⟨rfl, hb⟩; refine ⟨_, rfl, ?_⟩; replace HO_3 := rK HO_3 hb; replace BK270 := kb BK270 hb; replace HB := am (below_step bw hb); clear hb))
    go_ret
    exact ⟨_, re, ro HO_3.out, bw⟩
 obtain rfl := Option.some.inj H
 go_enter Try.func67, Try.ntmps67
 go_wp2_with (first | ((with_reducible refine gate_dst (N := 1) rfl ?_); refine bx 1 #[.slice A0_0 l0_0.length c0_0] 27 ?_; intro gb270 hg w24 hbox hb; have BK270 := am (hbox); have GW270 := am (gs hg : w.heap.size ≤ gb270); have GE270 := GW270; replace HB := am (below_step bw hb); clear hb hbox hg) | ((with_reducible refine gate_dst (N := 5) rfl ?_); refine Kd.R_lit (Kd.int .i64) _ 3 ?hg (N := 5) ?hd (xs := ([] : List Int)) (inner := []) (ok := fun _ => True) (okp := fun _ => True) ?hr ?hp (fun _ hk => hk) trivial (Below.refl _ _) (Nat.le_refl _) (by simp) ?_; (case hd => rfl); (case hg => rfl); (case hr => first | (go_simp; done) | (go_simp; rfl)); (case hp => exact (Reps.none _ _)); intro v272 w25 ho26 hb hg_ hnew_; clear hg_ hnew_; (first | rw [← Ny271.out] at ho26 | (simp only [Int.reduceToNat] at ho26; rw [← Ny271.out] at ho26)); have HO273 := am (Kd.R_lower ho26 (below_size bw)); replace BK270 := kb BK270 hb; replace HB := am (below_step bw hb); clear hb ho26; have hcz27_0 := bc BK270 0 (.slice A0_0 l0_0.length c0_0); have hfz27_0 := blk_frozen BK270.out 0) | ((with_reducible refine gate_callee (f := 58) rfl ?_); refine gl (some 7) Try.func58 #[.agg #[.slice A0_0 l0_0.length c0_0]] ?_; (with_reducible refine (spec_IsSemigroup.calls k _ _ l0_0 false _ ?side1 ?side2 A2.out).mono ?_); (case side1 => exact co (Kd.C_below HR0_0.out HB.out)); (case side2 => exact HC0_0.out); rintro e w28 ⟨rfl, hb⟩; refine ⟨_, rfl, ?_⟩; replace HO273 := rK HO273 hb; replace BK270 := kb BK270 hb; replace HB := am (below_step bw hb); clear hb))
 go_ret
 exact ⟨_, re, ro HO273.out, bw⟩


/-! ### spec_EulerList: function 19 -/
mutual
def spec_EulerList.l0 : Nat → Int → Int → List Int → Option (List Int)
 | 0, _, _, _ => none
 | k + 1, x3, x4, x284000 => if x4 < (x284000.length : Int) then (if 0 ≤ x4 then (spec_EulerList.l0 k (wrap64 (x3 + (rd x284000 x4))) (wrap64 (x4 + 1)) x284000) else (none)) else ((spec_NumeratorOf.f k x284000).bind fun t290 => ((spec_SeriesFrom.f k t290 x3).bind fun t293 => (spec_EulerList.l1 k x3 t293 0 x284000)))
def spec_EulerList.l1 : Nat → Int → List Int → Int → List Int → Option (List Int)
 | 0, _, _, _, _ => none
 | k + 1, x3, x5, x6, x284000 => if x6 < (x284000.length : Int) then (spec_EulerList.l2 k x3 x5 x6 (wrap64 (x3 - 1)) x284000) else (some x5)
def spec_EulerList.l2 : Nat → Int → List Int → Int → Int → List Int → Option (List Int)
 | 0, _, _, _, _, _ => none
 | k + 1, x3, x5, x6, x7, x284000 => if 0 ≤ x6 then (if x6 < (x284000.length : Int) then (if x7 ≥ (rd x284000 x6) then (if 0 ≤ x7 then (if x7 < (x5.length : Int) then (if 0 ≤ (wrap64 (x7 - (rd x284000 x6))) then (if (wrap64 (x7 - (rd x284000 x6))) < (x5.length : Int) then (spec_EulerList.l2 k x3 (x5.set (x7 : Int).toNat (wrap64 ((rd x5 x7) - (rd x5 (wrap64 (x7 - (rd x284000 x6))))))) x6 (wrap64 (x7 - 1)) x284000) else (none)) else (none)) else (none)) else (none)) else (spec_EulerList.l1 k x3 x5 (wrap64 (x6 + 1)) x284000)) else (none)) else (none)
end
def spec_EulerList.f (k : Nat) (l0_0 : List Int) : Option (List Int) := (spec_IsSemigroup.f k l0_0).bind fun t284 => (if t284 = true then ((spec_FrobeniusOf.f k l0_0).bind fun t288 => (spec_EulerList.l0 k (wrap64 (t288 + 1)) 0 l0_0)) else (some (([] : List Int))))
def spec_EulerList.T15 : Bool × List (List Nat × List Nat) := (true, [([], []), ([], []), ([], []), ([], []), ([2, 3], [2, 3]), ([4], [4]), ([], []), ([], []), ([], []), ([8], [8]), ([], []), ([9, 10], [9, 10]), ([11], [11]), ([7, 12], [7, 12]), ([6, 13], [6, 13]), ([14], [14]), ([5, 15], [5, 15]), ([0, 1, 0, 1, 2, 3, 4, 5, 6, 7, 8, 9, 10, 11, 12, 13, 14, 15, 16], [0, 1]), ([17, 16, 0, 1, 2, 3, 4, 5, 6, 7, 8, 9, 10, 11, 12, 13, 14, 15, 16], [16, 17])])
def spec_EulerList.B15 : List Nat := [0, 0, 0, 0, 12, 28, 0, 0, 0, 256, 0, 1792, 3840, 8064, 16320, 32704, 65532, 131071, 262143]
theorem spec_EulerList.tab15 : rtab .any (opsOf Try.f19 15) = spec_EulerList.T15 := by kernel_rfl
theorem spec_EulerList.bits15 : waitsOk spec_EulerList.T15.2 spec_EulerList.B15 = true := by kernel_rfl
set_option maxHeartbeats 8000000 in
set_option maxRecDepth 100000 in
theorem spec_EulerList.calls (k : Nat) (A0_0 : Option Addr) (c0_0 : Nat) (l0_0 : List Int) (r : List Int) (w : World) (hr0_0 : Kd.C (Kd.int .i64) w A0_0 l0_0.length l0_0) (hc0_0 : l0_0.length ≤ c0_0) (h : spec_EulerList.f k l0_0 = some r) :
  Calls Try.prog 19 #[.agg #[.slice A0_0 l0_0.length c0_0]] w fun e w' => ∃ v0_ : Value, e = .returned (v0_) ∧ Kd.R (Kd.int .i64) 3 w' w.heap.size (fun _ => True) v0_ r ∧ Below w.heap.size w w' := by
 have hu27 := Try.underlying27
 have HR0_0 := am hr0_0
 have HC0_0 := am hc0_0
 clear hr0_0 hc0_0
 have HB := am (Below.refl w.heap.size w)
 have H : ((spec_IsSemigroup.f k l0_0).bind fun t284 => (if t284 = true then ((spec_FrobeniusOf.f k l0_0).bind fun t288 => (spec_EulerList.l0 k (wrap64 (t288 + 1)) 0 l0_0)) else (some (([] : List Int))))) = some r := h
 clear h
 replace H := ga H; obtain ⟨t284, A2, H⟩ := H
 replace H := gb H; obtain ⟨rfl, H⟩ | ⟨rfl, H⟩ := H
 ·replace H := ga H; obtain ⟨t288, A4, H⟩ := H
  have H' := am H
  clear H
  go_enter Try.func19, Try.ntmps19
  go_wp2_with (first | ((with_reducible refine gate_dst (N := 1) rfl ?_); refine bx 1 #[.slice A0_0 l0_0.length c0_0] 27 ?_; intro gb283 hg w5 hbox hb; have BK283 := am (hbox); have GW283 := am (gs hg : w.heap.size ≤ gb283); have GE283 := GW283; replace HB := am (below_step bw hb); clear hb hbox hg; have hcz6_0 := bc BK283 0 (.slice A0_0 l0_0.length c0_0); have hfz6_0 := blk_frozen BK283.out 0) | ((with_reducible refine gate_callee (f := 58) rfl ?_); refine gl (some 9) Try.func58 #[.agg #[.slice A0_0 l0_0.length c0_0]] ?_; (with_reducible refine (spec_IsSemigroup.calls k _ _ l0_0 true _ ?side1 ?side2 A2.out).mono ?_); (case side1 => exact co (Kd.C_below HR0_0.out HB.out)); (case side2 => exact HC0_0.out); rintro e w7 ⟨rfl, hb⟩; refine ⟨_, rfl, ?_⟩; replace BK283 := kb BK283 hb; replace HB := am (below_step bw hb); clear hb; have hcz8_0 := bc BK283 0 (.slice A0_0 l0_0.length c0_0); have hfz8_0 := blk_frozen BK283.out 0) | ((with_reducible refine gate_callee (f := 65) rfl ?_); refine gl (some 13) Try.func65 #[.agg #[.slice A0_0 l0_0.length c0_0]] ?_; (with_reducible refine (spec_FrobeniusOf.calls k _ _ l0_0 t288 _ ?side1 ?side2 A4.out).mono ?_); (case side1 => exact co (Kd.C_below HR0_0.out HB.out)); (case side2 => exact HC0_0.out); rintro e w9 ⟨rfl, hb⟩; refine ⟨_, rfl, ?_⟩; replace BK283 := kb BK283 hb; replace HB := am (below_step bw hb); clear hb))
  go_loopg [3, 4] k (fun kq v3 v4 w' => ∃ (x3_1 : Int) (x4_1 : Int), v3 = .int .i64 x3_1 ∧ v4 = .int .i64 x4_1 ∧ Aside0 (spec_EulerList.l0 kq x3_1 x4_1 l0_0 = some r) ∧ Aside0 (kq ≤ k) ∧ Aside0 (w'.heap[gb283]? = some (.cells #[(.slice A0_0 l0_0.length c0_0)] 27 (0, 0))) ∧ Aside0 (Below w.heap.size w w'))
  case atStart => exact ⟨(wrap64 (t288 + 1)), (0), rr, rr, H', ⟨Nat.le_refl _⟩, ⟨bo BK283.out⟩, ⟨bw⟩⟩
  case round =>
   clear H'
   try clear hcz6_0; try clear hcz8_0; try clear hfz6_0; try clear hfz8_0
   obtain ⟨x3_1, x4_1, rfl, rfl, HA, HK1, BK283, HB⟩ := hrel
   cases gk with
   | zero => exact absurd HA.out (by simp [spec_EulerList.l0])
   | succ k1 =>
    have H := HA.out
    clear HA
    simp only [spec_EulerList.l0] at H
    replace H := gi H; obtain ⟨c10b0, H⟩ | ⟨c10b0, H⟩ := H
    ·replace H := gd H; obtain ⟨c11b0, H⟩ := H
     have H' := am H
     clear H
     have hcz12_0 := bc BK283 0 (.slice A0_0 l0_0.length c0_0)
     have hfz12_0 := blk_frozen BK283.out 0
     obtain ⟨⟨ad289, e289, hx289_0⟩, p289, q289⟩ := pq (Kd.at_int HR0_0.out x4_1)
     cases e289
     replace hx289_0 := hw HB hx289_0
     go_wp2
     go_roundg k1
     case measure => have := HK1.out; omega
     case rel => exact ⟨(wrap64 (x3_1 + (rd l0_0 x4_1))), (wrap64 (x4_1 + 1)), rr, rr, H', ⟨by have := HK1.out; omega⟩, ⟨bo BK283.out⟩, ⟨bw⟩⟩
    replace H := ga H; obtain ⟨t290, A13, H⟩ := H
    replace H := ga H; obtain ⟨t293, A14, H⟩ := H
    have H' := am H
    clear H
    have hcz15_0 := bc BK283 0 (.slice A0_0 l0_0.length c0_0)
    have hfz15_0 := blk_frozen BK283.out 0
    go_wp2_with (first | ((with_reducible refine gate_callee (f := 67) rfl ?_); refine gl (some 30) Try.func67 #[.agg #[.slice A0_0 l0_0.length c0_0]] ?_; (with_reducible refine (spec_NumeratorOf.calls k1 _ _ l0_0 t290 _ ?side1 ?side2 A13.out).mono ?_); (case side1 => exact co (Kd.C_below HR0_0.out HB.out)); (case side2 => exact HC0_0.out); rintro e w16 ⟨v291, rfl, ho0, hb⟩; refine ⟨_, rfl, ?_⟩; have HO292 := am (Kd.R_lower ho0 (below_size bw)); replace BK283 := kb BK283 hb; replace HB := am (below_step bw hb); clear hb ho0; obtain ⟨Ao17, co17, eo17⟩ := Kd.R_slice HO292.out; subst eo17) | ((with_reducible refine gate_callee (f := 66) rfl ?_); refine gl (some 32) Try.func66 #[.slice Ao17 t290.length co17, .int .i64 x3_1] ?_; (with_reducible refine (spec_SeriesFrom.calls k1 _ _ t290 x3_1 t293 _ ?side1 ?side2 A14.out).mono ?_); (case side1 => exact co (Kd.R_reads' HO292.out).2.2); (case side2 => exact (Kd.R_reads' HO292.out).2.1); rintro e w18 ⟨v294, rfl, ho0, hb⟩; refine ⟨_, rfl, ?_⟩; have HO295 := am (Kd.R_lower (Kd.R_new' ho0 (Kd.R_lt (ro HO292.out))) (below_size bw)); replace HO292 := am (Kd.R_elder' (ro HO292.out) (Kd.R_base ho0) hb); replace BK283 := kb BK283 hb; replace HB := am (below_step bw hb); clear hb ho0))
    go_loopg [6] k1 (fun kq v6 w' => ∃ (x5_2 : List Int) (x6_2 : Int), v6 = .int .i64 x6_2 ∧ Aside0 (spec_EulerList.l1 kq x3_1 x5_2 x6_2 l0_0 = some r) ∧ Aside0 (kq ≤ k1) ∧ Aside0 (Kd.R (Kd.int .i64) 3 w' w.heap.size (fun _ => True) v294 x5_2) ∧ Aside0 (w'.heap[gb283]? = some (.cells #[(.slice A0_0 l0_0.length c0_0)] 27 (0, 0))) ∧ Aside0 (Below w.heap.size w w'))
    case atStart => exact ⟨(t293), (0), rr, H', ⟨Nat.le_refl _⟩, ⟨by (with_reducible repeat (first | apply Kd.R_alloc | apply Kd.R_drewN | apply Kd.R_drew)); exact Kd.R_mono HO295.out (fun _ hk => trivial)⟩, ⟨bo BK283.out⟩, ⟨bw⟩⟩
    case round =>
     clear H'
     try clear c10b0; try clear c11b0; try clear hcz12_0; try clear hcz15_0; try clear hcz6_0; try clear hcz8_0; try clear hfz12_0; try clear hfz15_0; try clear hfz6_0; try clear hfz8_0; try clear hx289_0; try clear p289; try clear q289
     obtain ⟨x5_2, x6_2, rfl, HA, HK2, HO_5, BK283, HB⟩ := hrel
     cases gk with
     | zero => exact absurd HA.out (by simp [spec_EulerList.l1])
     | succ k2 =>
      have H := HA.out
      clear HA
      simp only [spec_EulerList.l1] at H
      replace H := gi H; obtain ⟨c19b0, H⟩ | ⟨c19b0, H⟩ := H
      ·have H' := am H
       clear H
       have hcz20_0 := bc BK283 0 (.slice A0_0 l0_0.length c0_0)
       have hfz20_0 := blk_frozen BK283.out 0
       go_wp2
       go_loopg [7] k2 (fun kq v7 w' => ∃ (x5_3 : List Int) (x7_3 : Int), v7 = .int .i64 x7_3 ∧ Aside0 (spec_EulerList.l2 kq x3_1 x5_3 x6_2 x7_3 l0_0 = some r) ∧ Aside0 (kq ≤ k2) ∧ Aside0 (Kd.R (Kd.int .i64) 3 w' w.heap.size (fun _ => True) v294 x5_3) ∧ Aside0 (w'.heap[gb283]? = some (.cells #[(.slice A0_0 l0_0.length c0_0)] 27 (0, 0))) ∧ Aside0 (Below w.heap.size w w'))
       case atStart => exact ⟨(x5_2), (wrap64 (x3_1 - 1)), rr, H', ⟨Nat.le_refl _⟩, ⟨ro HO_5.out⟩, ⟨bo BK283.out⟩, ⟨bw⟩⟩
       case round =>
        clear H'
        try clear c10b0; try clear c11b0; try clear c19b0; try clear hcz12_0; try clear hcz15_0; try clear hcz20_0; try clear hcz6_0; try clear hcz8_0; try clear hfz12_0; try clear hfz15_0; try clear hfz20_0; try clear hfz6_0; try clear hfz8_0; try clear hx289_0; try clear p289; try clear q289
        obtain ⟨x5_3, x7_3, rfl, HA, HK3, HO_5, BK283, HB⟩ := hrel
        cases gk with
        | zero => exact absurd HA.out (by simp [spec_EulerList.l2])
        | succ k3 =>
         have H := HA.out
         clear HA
         simp only [spec_EulerList.l2] at H
         replace H := gd H; obtain ⟨c21b0, H⟩ := H
         replace H := gd H; obtain ⟨c22b0, H⟩ := H
         replace H := gj H; obtain ⟨c23, H⟩ | ⟨c23, H⟩ := H
         ·have c23b0 : decide ((rd l0_0 x6_2) ≤ x7_3) = true := decide_eq_true c23
          clear c23
          replace H := gd H; obtain ⟨c24b0, H⟩ := H
          replace H := gd H; obtain ⟨c25b0, H⟩ := H
          obtain ⟨ji26, hji26⟩ : ∃ j_ : Int, (wrap64 (x7_3 - (rd l0_0 x6_2))) = j_ := ⟨_, rfl⟩
          replace H : (if 0 ≤ (ji26) then (if (ji26) < (x5_3.length : Int) then (spec_EulerList.l2 k3 x3_1 (x5_3.set (x7_3 : Int).toNat (wrap64 ((rd x5_3 x7_3) - (rd x5_3 (ji26))))) x6_2 (wrap64 (x7_3 - 1)) l0_0) else (none)) else (none)) = some r := by first | (rw [hji26] at H; exact H) | (simp only [hji26] at H ⊢; exact H)
          have hji26w : (IntKind.i64.wrap (x7_3 - (rd l0_0 x6_2))) = ji26 := (i64_w _).trans hji26
          replace H := gd H; obtain ⟨c27b0, H⟩ := H
          replace H := gd H; obtain ⟨c28b0, H⟩ := H
          obtain ⟨y300, hy300⟩ : ∃ y_ : List Int, y_ = (x5_3.set (x7_3 : Int).toNat (wrap64 ((rd x5_3 x7_3) - (rd x5_3 (ji26))))) := ⟨_, rfl⟩
          replace H : (spec_EulerList.l2 k3 x3_1 y300 x6_2 (wrap64 (x7_3 - 1)) l0_0) = some r := by first | (rw [hy300]; with_reducible first | exact H | exact bs H) | (with_reducible first | exact bs H | exact H) | (rw [hy300]; exact H) | exact H
          have Ny300 := am hy300
          clear hy300
          have H' := am H
          clear H
          have hcz30_0 := bc BK283 0 (.slice A0_0 l0_0.length c0_0)
          have hfz30_0 := blk_frozen BK283.out 0
          obtain ⟨⟨ad296, e296, hx296_0⟩, p296, q296⟩ := pq (Kd.at_int HR0_0.out x6_2)
          cases e296
          replace hx296_0 := hw HB hx296_0
          try go_wp2
          replace HO_5 := am (Kd.R_drew HO_5.out)
          replace BK283 := bd BK283
          replace HB := am (below_drew1 HB.out)
          obtain ⟨Ao32, co32, eo32⟩ := Kd.R_slice HO_5.out
          (first | subst eo32 | (injection eo32 with f1_ f2_ f3_; have f4_ := f1_.symm; have f5_ := f3_.symm; clear f1_ f2_ f3_; subst f4_; subst f5_))
          obtain ⟨⟨ad297, e297, hx297_0⟩, p297, q297⟩ := pq (Kd.at_int (Kd.R_reads' HO_5.out).2.2 x7_3)
          cases e297
          obtain ⟨⟨ad298, e298, hx298_0⟩, p298, q298⟩ := pq (Kd.at_int HR0_0.out x6_2)
          have hw298_0 := hx298_0
          obtain rfl : ad296 = ad298 := (by injection e298)
          replace hx298_0 := hw HB hx298_0
          obtain ⟨⟨ad299, e299, hx299_0⟩, p299, q299⟩ := pq (Kd.at_int (Kd.R_reads' HO_5.out).2.2 (ji26))
          obtain rfl : ad297 = ad299 := (by injection e299)
          have p29 : 0 ≤ (x7_3 : Int) := of_decide_eq_true (by first | (with_reducible assumption) | assumption)
          have q29 : (x7_3 : Int) < ((x5_3.length : Int) : Int) := of_decide_eq_true (by first | (with_reducible assumption) | assumption)
          obtain ⟨go29, co29, eo29, gb29, gl29, cl29, HG29⟩ := Kd.R_form HO_5.out (by omega)
          (first | cases eo29 | (injection eo29 with ea_ en_ ec_; (first | subst ea_ | (injection ea_ with ea_; subst ea_)); subst ec_; clear en_))
          have GB29 := am gb29
          have GG29 := am HG29
          clear gb29 gl29 HG29
          (first | simp only [add_plain] at hx297_0 | skip)
          (first | simp only [add_plain] at hx299_0 | skip)
          obtain ⟨hx29_0, hf29_0⟩ := Kd.R_celln 0 HO_5.out (x7_3 : Int) p29 q29
          replace p29 := eq_true p29
          replace q29 := eq_true q29
          have HP33 := Kd.R_putn HO_5.out (x7_3 : Int) (wrap64 ((rd x5_3 x7_3) - (rd x5_3 (ji26))))
          rw [← Ny300.out] at HP33
          have HQ33 := am HP33
          clear HP33
          refine start_ (n := 19) (S := fun w' => w'.cell? ⟨gb283, 0, none⟩ = some (.slice (some ad296) l0_0.length c0_0) ∧ w'.cell? ⟨go29, (x7_3).toNat, none⟩ = some (.int .i64 (rd x5_3 x7_3)) ∧ w'.cell? (ad296.add (x6_2).toNat) = some (.int .i64 (rd l0_0 x6_2)) ∧ w'.cell? ⟨go29, ((ji26)).toNat, none⟩ = some (.int .i64 (rd x5_3 (ji26)))) (ds := [18]) (yz 19 0) (by kernel_rfl) rfl rfl ⟨bc BK283 0 _, hx297_0, ((HB.out.cell (World.block_lt_of_cell? w _ hw298_0)).trans hw298_0), hx299_0⟩ (fun hHeld => ?_); refine with_tabW spec_EulerList.tab15 spec_EulerList.bits15 (fun HT_ HW_ => ?_)
          generalize wr.drew = w31 at HO_5 BK283 HB GG29 HQ33 hf29_0 hx297_0 hx298_0 hx299_0 hx29_0 hHeld ⊢
          refine pa 0 (some 51) (yz 19 1) HT_ ?_
          refine pa 1 (some 52) (yz 19 3) HT_ ?_
          refine pa 2 (some 53) (yz 19 7) HT_ ?_
          refine pa 3 (some 54) (yz 19 15) HT_ ?_
          refine pa 4 (some 55) (yz 19 31) HT_ ?_
          refine pa 6 (some 57) (yz 19 95) HT_ ?_
          refine pa 7 (some 58) (yz 19 223) HT_ ?_
          refine pa 8 (some 59) (yz 19 479) HT_ ?_
          refine pa 10 (some 61) (yz 19 1503) HT_ ?_
          refine tk 5 (some 56) (yz 19 1535) HT_ HW_ hHeld ?_
          refine tk 9 (some 60) (yz 19 2047) HT_ HW_ hHeld ?_
          refine pa 11 (some 62) (yz 19 4095) HT_ ?_
          refine tk 12 (some 63) (yz 19 8191) HT_ HW_ hHeld ?_
          refine pa 13 (some 64) (yz 19 16383) HT_ ?_
          refine pa 14 (some 65) (yz 19 32767) HT_ ?_
          refine tk 15 (some 66) (yz 19 65535) HT_ HW_ hHeld ?_
          refine pa 16 (some 67) (yz 19 131071) HT_ ?_
          refine pa 17 (some 68) (yz 19 262143) HT_ ?_
          refine last_ (i := 18) (N := none) (yz 19 524287) rfl rfl (one_of HT_.out (by kernel_rfl)) (by decide) (fun K hK => ?_)
          refine skip_ (w1 := ?_) (by rfl) rfl ?_ ?_
          rotate_left
          ·go_simp
           rfl
          refine hK.out _ _ ?_
          clear hK K
          refine done_ (done_of HT_.out (by kernel_rfl)) ?_
          try go_wp2
          go_roundg k3
          case measure => have := HK1.out; have := HK2.out; have := HK3.out; omega
          case rel => exact ⟨(y300), (wrap64 (x7_3 - 1)), rr, H', ⟨by have := HK1.out; have := HK2.out; have := HK3.out; omega⟩, ⟨ro HQ33.out⟩, ⟨by (with_reducible repeat (first | refine blk_drewN ?_ _ | refine blk_drew ?_ | refine blk_alloc ?_ _)); refine blk_far ?_ (by have h_ := Kd.R_ne HO_5.out BK283.out (by decide); intro e_; exact h_ (by rw [e_]; rfl)) _; (with_reducible repeat (first | refine blk_drewN ?_ _ | refine blk_drew ?_ | refine blk_alloc ?_ _)); exact BK283.out⟩, ⟨bw⟩⟩
         have c23b0 : decide ((rd l0_0 x6_2) ≤ x7_3) = false := decide_eq_false c23
         clear c23
         have H' := am H
         clear H
         have hcz34_0 := bc BK283 0 (.slice A0_0 l0_0.length c0_0)
         have hfz34_0 := blk_frozen BK283.out 0
         obtain ⟨⟨ad296, e296, hx296_0⟩, p296, q296⟩ := pq (Kd.at_int HR0_0.out x6_2)
         cases e296
         replace hx296_0 := hw HB hx296_0
         go_wp2
         go_roundg k3
         case measure => have := HK1.out; have := HK2.out; have := HK3.out; omega
         case rel => exact ⟨(x5_3), (wrap64 (x6_2 + 1)), rr, H', ⟨by have := HK1.out; have := HK2.out; have := HK3.out; omega⟩, ⟨ro HO_5.out⟩, ⟨bo BK283.out⟩, ⟨bw⟩⟩
      obtain rfl := Option.some.inj H
      have hcz35_0 := bc BK283 0 (.slice A0_0 l0_0.length c0_0)
      have hfz35_0 := blk_frozen BK283.out 0
      go_wp2
      go_ret
      exact ⟨_, re, ro HO_5.out, bw⟩
 obtain ⟨y285, hy285⟩ : ∃ y_ : List Int, y_ = (([] : List Int)) := ⟨_, rfl⟩
 replace H : (some y285) = some r := by first | (rw [hy285]; with_reducible first | exact H | exact bs H) | (with_reducible first | exact bs H | exact H) | (rw [hy285]; exact H) | exact H
 have Ny285 := am hy285
 clear hy285
 obtain rfl := Option.some.inj H
 go_enter Try.func19, Try.ntmps19
 go_wp2_with (first | ((with_reducible refine gate_dst (N := 1) rfl ?_); refine bx 1 #[.slice A0_0 l0_0.length c0_0] 27 ?_; intro gb283 hg w36 hbox hb; have BK283 := am (hbox); have GW283 := am (gs hg : w.heap.size ≤ gb283); have GE283 := GW283; replace HB := am (below_step bw hb); clear hb hbox hg; have hcz37_0 := bc BK283 0 (.slice A0_0 l0_0.length c0_0); have hfz37_0 := blk_frozen BK283.out 0) | ((with_reducible refine gate_callee (f := 58) rfl ?_); refine gl (some 9) Try.func58 #[.agg #[.slice A0_0 l0_0.length c0_0]] ?_; (with_reducible refine (spec_IsSemigroup.calls k _ _ l0_0 false _ ?side1 ?side2 A2.out).mono ?_); (case side1 => exact co (Kd.C_below HR0_0.out HB.out)); (case side2 => exact HC0_0.out); rintro e w38 ⟨rfl, hb⟩; refine ⟨_, rfl, ?_⟩; replace BK283 := kb BK283 hb; replace HB := am (below_step bw hb); clear hb) | ((with_reducible refine gate_dst (N := 11) rfl ?_); refine Kd.R_lit (Kd.int .i64) _ 3 ?hg (N := 11) ?hd (xs := ([] : List Int)) (inner := []) (ok := fun _ => True) (okp := fun _ => True) ?hr ?hp (fun _ hk => hk) trivial (Below.refl _ _) (Nat.le_refl _) (by simp) ?_; (case hd => rfl); (case hg => rfl); (case hr => first | (go_simp; done) | (go_simp; rfl)); (case hp => exact (Reps.none _ _)); intro v286 w39 ho40 hb hg_ hnew_; clear hg_ hnew_; (first | rw [← Ny285.out] at ho40 | (simp only [Int.reduceToNat] at ho40; rw [← Ny285.out] at ho40)); have HO287 := am (Kd.R_lower ho40 (below_size bw)); replace BK283 := kb BK283 hb; replace HB := am (below_step bw hb); clear hb ho40))
 go_ret
 exact ⟨_, re, ro HO287.out, bw⟩


/-! ### impl_ConductorOf: function 122 -/
def impl_ConductorOf.f (k : Nat) (l0_0 : List Int) : Option (Int) := (impl_FrobeniusOf.f k l0_0).bind fun t375 => (some (wrap64 (t375 + 1)))
set_option maxHeartbeats 8000000 in
set_option maxRecDepth 100000 in
theorem impl_ConductorOf.calls (k : Nat) (A0_0 : Option Addr) (c0_0 : Nat) (l0_0 : List Int) (r : Int) (w : World) (hr0_0 : Kd.C (Kd.int .i64) w A0_0 l0_0.length l0_0) (hc0_0 : l0_0.length ≤ c0_0) (h : impl_ConductorOf.f k l0_0 = some r) :
  Calls Try.prog 122 #[.agg #[.slice A0_0 l0_0.length c0_0]] w fun e w' => e = .returned (.int .i64 r) ∧ Below w.heap.size w w' := by
 have hu27 := Try.underlying27
 have HR0_0 := am hr0_0
 have HC0_0 := am hc0_0
 clear hr0_0 hc0_0
 have HB := am (Below.refl w.heap.size w)
 have H : ((impl_FrobeniusOf.f k l0_0).bind fun t375 => (some (wrap64 (t375 + 1)))) = some r := h
 clear h
 replace H := ga H; obtain ⟨t375, A2, H⟩ := H
 obtain rfl := Option.some.inj H
 go_enter Try.func122, Try.ntmps122
 go_wp2_with (first | ((with_reducible refine gate_dst (N := 1) rfl ?_); refine bx 1 #[.slice A0_0 l0_0.length c0_0] 27 ?_; intro gb374 hg w3 hbox hb; have BK374 := am (hbox); have GW374 := am (gs hg : w.heap.size ≤ gb374); have GE374 := GW374; replace HB := am (below_step bw hb); clear hb hbox hg; have hcz4_0 := bc BK374 0 (.slice A0_0 l0_0.length c0_0); have hfz4_0 := blk_frozen BK374.out 0) | ((with_reducible refine gate_callee (f := 70) rfl ?_); refine gl (some 4) Try.func70 #[.agg #[.slice A0_0 l0_0.length c0_0]] ?_; (with_reducible refine (impl_FrobeniusOf.calls k _ _ l0_0 t375 _ ?side1 ?side2 A2.out).mono ?_); (case side1 => exact co (Kd.C_below HR0_0.out HB.out)); (case side2 => exact HC0_0.out); rintro e w5 ⟨rfl, hb⟩; refine ⟨_, rfl, ?_⟩; replace BK374 := kb BK374 hb; replace HB := am (below_step bw hb); clear hb))
 go_ret
 exact ⟨re, bw⟩


/-! ### impl_NumeratorOf: function 68 -/
mutual
def impl_NumeratorOf.l0 : Nat → List Bool → List Int → Bool → Int → Int → Option (List Int)
 | 0, _, _, _, _, _ => none
 | k + 1, x3, x4, x5, x16, x17 => if x17 < x16 then (if 0 ≤ x17 then (if x17 < (x3.length : Int) then (if rdOf false x3 x17 = true then (impl_NumeratorOf.j1 k x3 x4 x5 x17 0 x16 x17 (!x5)) else (impl_NumeratorOf.j1 k x3 x4 x5 x17 0 x16 x17 false)) else (none)) else (none)) else (some x4)
def impl_NumeratorOf.j1 : Nat → List Bool → List Int → Bool → Int → Int → Int → Int → Bool → Option (List Int)
 | 0, _, _, _, _, _, _, _, _ => none
 | k + 1, x3, x4, x5, x6, x7, x16, x17, x27 => if x27 = true then (if x4.length < 17592186044416 then (if 0 ≤ x6 then (if x6 < (x3.length : Int) then (impl_NumeratorOf.l0 k x3 (x4 ++ [1]) (rdOf false x3 x6) x16 (wrap64 (x17 + 1))) else (none)) else (none)) else (none)) else (if x5 = true then (if 0 ≤ x6 then (if x6 < (x3.length : Int) then (if rdOf false x3 x6 = true then (if x4.length < 17592186044416 then (impl_NumeratorOf.l0 k x3 (x4 ++ [x7]) (rdOf false x3 x6) x16 (wrap64 (x17 + 1))) else (none)) else (if x4.length < 17592186044416 then (impl_NumeratorOf.l0 k x3 (x4 ++ [(-1)]) (rdOf false x3 x6) x16 (wrap64 (x17 + 1))) else (none))) else (none)) else (none)) else (if x4.length < 17592186044416 then (if 0 ≤ x6 then (if x6 < (x3.length : Int) then (impl_NumeratorOf.l0 k x3 (x4 ++ [x7]) (rdOf false x3 x6) x16 (wrap64 (x17 + 1))) else (none)) else (none)) else (none)))
end
def impl_NumeratorOf.f (k : Nat) (l0_0 : List Int) : Option (List Int) := (impl_IsSemigroup.f k l0_0).bind fun t377 => (if t377 = true then ((impl_table.f k l0_0 200).bind fun t378 => ((impl_ConductorOf.f k l0_0).bind fun t384 => (impl_NumeratorOf.l0 k t378 (([] : List Int)) false (wrap64 (t384 + 1)) 0))) else (some ([] : List Int)))
set_option maxHeartbeats 8000000 in
set_option maxRecDepth 100000 in
theorem impl_NumeratorOf.calls (k : Nat) (A0_0 : Option Addr) (c0_0 : Nat) (l0_0 : List Int) (r : List Int) (w : World) (hr0_0 : Kd.C (Kd.int .i64) w A0_0 l0_0.length l0_0) (hc0_0 : l0_0.length ≤ c0_0) (h : impl_NumeratorOf.f k l0_0 = some r) :
  Calls Try.prog 68 #[.agg #[.slice A0_0 l0_0.length c0_0]] w fun e w' => ∃ v0_ : Value, e = .returned (v0_) ∧ Kd.R (Kd.int .i64) 3 w' w.heap.size (fun _ => True) v0_ r ∧ Below w.heap.size w w' := by
 have hu27 := Try.underlying27
 have HR0_0 := am hr0_0
 have HC0_0 := am hc0_0
 clear hr0_0 hc0_0
 have HB := am (Below.refl w.heap.size w)
 have H : ((impl_IsSemigroup.f k l0_0).bind fun t377 => (if t377 = true then ((impl_table.f k l0_0 200).bind fun t378 => ((impl_ConductorOf.f k l0_0).bind fun t384 => (impl_NumeratorOf.l0 k t378 (([] : List Int)) false (wrap64 (t384 + 1)) 0))) else (some ([] : List Int)))) = some r := h
 clear h
 replace H := ga H; obtain ⟨t377, A2, H⟩ := H
 replace H := gb H; obtain ⟨rfl, H⟩ | ⟨rfl, H⟩ := H
 ·replace H := ga H; obtain ⟨t378, A4, H⟩ := H
  obtain ⟨y381, hy381⟩ : ∃ y_ : List Int, y_ = (([] : List Int)) := ⟨_, rfl⟩
  replace H : ((impl_ConductorOf.f k l0_0).bind fun t384 => (impl_NumeratorOf.l0 k t378 y381 false (wrap64 (t384 + 1)) 0)) = some r := by first | (rw [hy381]; with_reducible first | exact H | exact bs H) | (with_reducible first | exact bs H | exact H) | (rw [hy381]; exact H) | exact H
  have Ny381 := am hy381
  clear hy381
  replace H := ga H; obtain ⟨t384, A5, H⟩ := H
  have H' := am H
  clear H
  go_enter Try.func68, Try.ntmps68
  go_wp2_with (first | ((with_reducible refine gate_dst (N := 1) rfl ?_); refine bx 1 #[.slice A0_0 l0_0.length c0_0] 27 ?_; intro gb376 hg w6 hbox hb; have BK376 := am (hbox); have GW376 := am (gs hg : w.heap.size ≤ gb376); have GE376 := GW376; replace HB := am (below_step bw hb); clear hb hbox hg; have hcz7_0 := bc BK376 0 (.slice A0_0 l0_0.length c0_0); have hfz7_0 := blk_frozen BK376.out 0) | ((with_reducible refine gate_callee (f := 62) rfl ?_); refine gl (some 9) Try.func62 #[.agg #[.slice A0_0 l0_0.length c0_0]] ?_; (with_reducible refine (impl_IsSemigroup.calls k _ _ l0_0 true _ ?side1 ?side2 A2.out).mono ?_); (case side1 => exact co (Kd.C_below HR0_0.out HB.out)); (case side2 => exact HC0_0.out); rintro e w8 ⟨rfl, hb⟩; refine ⟨_, rfl, ?_⟩; replace BK376 := kb BK376 hb; replace HB := am (below_step bw hb); clear hb; have hcz9_0 := bc BK376 0 (.slice A0_0 l0_0.length c0_0); have hfz9_0 := blk_frozen BK376.out 0) | ((with_reducible refine gate_callee (f := 121) rfl ?_); refine gl (some 12) Try.func121 #[.agg #[.slice A0_0 l0_0.length c0_0], .int .i64 200] ?_; (with_reducible refine (impl_table.calls k _ _ l0_0 200 t378 _ ?side1 ?side2 A4.out).mono ?_); (case side1 => exact co (Kd.C_below HR0_0.out HB.out)); (case side2 => exact HC0_0.out); rintro e w10 ⟨v379, rfl, ho0, hb⟩; refine ⟨_, rfl, ?_⟩; have HO380 := am (Kd.R_lower ho0 (below_size bw)); replace BK376 := kb BK376 hb; replace HB := am (below_step bw hb); clear hb ho0) | ((with_reducible refine gate_dst (N := 13) rfl ?_); refine Kd.R_lit (Kd.int .i64) _ 3 ?hg (N := 13) ?hd (xs := ([] : List Int)) (inner := []) (ok := fun _ => True) (okp := fun _ => True) ?hr ?hp (fun _ hk => hk) trivial (Below.refl _ _) (Nat.le_refl _) (by simp) ?_; (case hd => rfl); (case hg => rfl); (case hr => first | (go_simp; done) | (go_simp; rfl)); (case hp => exact (Reps.none _ _)); intro v382 w11 ho12 hb hg_ hnew_; clear hg_ hnew_; (first | rw [← Ny381.out] at ho12 | (simp only [Int.reduceToNat] at ho12; rw [← Ny381.out] at ho12)); replace HO380 := rK HO380 hb; have HO383 := am (Kd.R_lower ho12 (below_size bw)); replace BK376 := kb BK376 hb; replace HB := am (below_step bw hb); clear hb ho12; have hcz13_0 := bc BK376 0 (.slice A0_0 l0_0.length c0_0); have hfz13_0 := blk_frozen BK376.out 0) | ((with_reducible refine gate_callee (f := 122) rfl ?_); refine gl (some 15) Try.func122 #[.agg #[.slice A0_0 l0_0.length c0_0]] ?_; (with_reducible refine (impl_ConductorOf.calls k _ _ l0_0 t384 _ ?side1 ?side2 A5.out).mono ?_); (case side1 => exact co (Kd.C_below HR0_0.out HB.out)); (case side2 => exact HC0_0.out); rintro e w14 ⟨rfl, hb⟩; refine ⟨_, rfl, ?_⟩; replace HO380 := rK HO380 hb; replace HO383 := rK HO383 hb; replace BK376 := kb BK376 hb; replace HB := am (below_step bw hb); clear hb))
  go_loopg [4, 5, 17] k (fun kq v4 v5 v17 w' => ∃ (x4_1 : List Int) (x5_1 : Bool) (x17_1 : Int), v5 = .bool x5_1 ∧ v17 = .int .i64 x17_1 ∧ Aside0 (impl_NumeratorOf.l0 kq t378 x4_1 x5_1 (wrap64 (t384 + 1)) x17_1 = some r) ∧ Aside0 (kq ≤ k) ∧ Aside0 (Kd.R Kd.bool 4 w' w.heap.size (fun _ => True) v379 t378) ∧ Aside0 (Kd.R (Kd.int .i64) 3 w' w.heap.size (fun _ => True) v4 x4_1) ∧ Aside0 (w'.heap[gb376]? = some (.cells #[(.slice A0_0 l0_0.length c0_0)] 27 (0, 0))) ∧ Aside0 (Below w.heap.size w w'))
  case atStart => exact ⟨(y381), (false), (0), rr, rr, H', ⟨Nat.le_refl _⟩, ⟨ro HO380.out⟩, ⟨ro HO383.out⟩, ⟨bo BK376.out⟩, ⟨bw⟩⟩
  case round =>
   clear H'
   try clear hcz13_0; try clear hcz7_0; try clear hcz9_0; try clear hfz13_0; try clear hfz7_0; try clear hfz9_0
   obtain ⟨x4_1, x5_1, x17_1, rfl, rfl, HA, HK1, HO_3, HO_4, BK376, HB⟩ := hrel
   cases gk with
   | zero => exact absurd HA.out (by simp [impl_NumeratorOf.l0])
   | succ k1 =>
    have H := HA.out
    clear HA
    simp only [impl_NumeratorOf.l0] at H
    replace H := gi H; obtain ⟨c15b0, H⟩ | ⟨c15b0, H⟩ := H
    ·have HC16 := am H
     clear H
     go_upto_region 10 with (fail)
     go_cut [27] (fun v27 wc => ∃ (kq : Nat) (x27_15 : Bool), v27 = .bool x27_15 ∧ Aside0 (impl_NumeratorOf.j1 kq t378 x4_1 x5_1 x17_1 0 (wrap64 (t384 + 1)) x17_1 x27_15 = some r) ∧ Aside0 (kq ≤ k1) ∧ Aside0 (Kd.R Kd.bool 4 wc w.heap.size (fun _ => True) v379 t378) ∧ Aside0 (Kd.R (Kd.int .i64) 3 wc w.heap.size (fun _ => True) u4 x4_1) ∧ Aside0 (wc.heap[gb376]? = some (.cells #[(.slice A0_0 l0_0.length c0_0)] 27 (0, 0))) ∧ Aside0 (Below w.heap.size w wc))
     case first =>
      have H := HC16.out
      clear HC16
      replace H := gd H; obtain ⟨c17b0, H⟩ := H
      (first | rw [c17b0] | (simp only [i64_w, i32_w]; rw [c17b0]) | skip)
      replace H := gd H; obtain ⟨c18b0, H⟩ := H
      obtain ⟨bq19, hbq19⟩ : ∃ b_ : Bool, b_ = (rdOf false t378 x17_1) := ⟨_, rfl⟩
      replace H : (if bq19 = true then (impl_NumeratorOf.j1 k1 t378 x4_1 x5_1 x17_1 0 (wrap64 (t384 + 1)) x17_1 (!x5_1)) else (impl_NumeratorOf.j1 k1 t378 x4_1 x5_1 x17_1 0 (wrap64 (t384 + 1)) x17_1 false)) = some r := by rw [← hbq19] at H; exact H
      have Nbq19 := am hbq19
      clear hbq19
      replace H := gb H; obtain ⟨rfl, H⟩ | ⟨rfl, H⟩ := H
      ·have H' := am H
       clear H
       obtain ⟨Ao21, co21, eo21⟩ := Kd.R_slice HO_3.out
       subst eo21
       obtain ⟨⟨ad385, e385, hx385_0⟩, p385, q385⟩ := pq (Kd.at_bool (Kd.R_reads' HO_3.out).2.2 x17_1)
       (try rw [← Nbq19.out] at hx385_0)
       cases e385
       go_wp2
       go_meet
       case rel => exact ⟨_, (!x5_1), rr, H', ⟨by have := HK1.out; first | omega | exact Nat.le_refl _⟩, ⟨ro HO_3.out⟩, ⟨ro HO_4.out⟩, ⟨bo BK376.out⟩, ⟨bw⟩⟩
      have H' := am H
      clear H
      obtain ⟨Ao22, co22, eo22⟩ := Kd.R_slice HO_3.out
      subst eo22
      obtain ⟨⟨ad385, e385, hx385_0⟩, p385, q385⟩ := pq (Kd.at_bool (Kd.R_reads' HO_3.out).2.2 x17_1)
      (try rw [← Nbq19.out] at hx385_0)
      cases e385
      go_wp2
      go_meet
      case rel => exact ⟨_, (false), rr, H', ⟨by have := HK1.out; first | omega | exact Nat.le_refl _⟩, ⟨ro HO_3.out⟩, ⟨ro HO_4.out⟩, ⟨bo BK376.out⟩, ⟨bw⟩⟩
     case rest =>
      clear HC16
      try clear c15b0; try clear c17b0; try clear c18b0; try clear hcz13_0; try clear hcz7_0; try clear hcz9_0; try clear hfz13_0; try clear hfz7_0; try clear hfz9_0; try clear hx385_0; try clear p385; try clear q385
      obtain ⟨kq, x27_15, rfl, HA, HJ15, HO_3, HO_4, BK376, HB⟩ := hcut
      cases kq with
      | zero => exact absurd HA.out (by simp [impl_NumeratorOf.j1])
      | succ kj15 =>
       have H := HA.out
       clear HA
       simp only [impl_NumeratorOf.j1] at H
       replace H := gb H; obtain ⟨rfl, H⟩ | ⟨rfl, H⟩ := H
       ·by_cases c24 : x4_1.length < 17592186044416
        rotate_left
        ·rw [if_neg c24] at H
         exact absurd H (by simp)
        rw [if_pos c24] at H
        have LMc24 := am c24
        clear c24
        obtain ⟨y386, hy386⟩ : ∃ y_ : List Int, y_ = (x4_1 ++ [1]) := ⟨_, rfl⟩
        replace H : (if 0 ≤ x17_1 then (if x17_1 < (t378.length : Int) then (impl_NumeratorOf.l0 kj15 t378 y386 (rdOf false t378 x17_1) (wrap64 (t384 + 1)) (wrap64 (x17_1 + 1))) else (none)) else (none)) = some r := by first | (rw [hy386]; with_reducible first | exact H | exact bs H) | (with_reducible first | exact bs H | exact H) | (rw [hy386]; exact H) | exact H
        have Ny386 := am hy386
        clear hy386
        replace H := gd H; obtain ⟨c25b0, H⟩ := H
        replace H := gd H; obtain ⟨c26b0, H⟩ := H
        have H' := am H
        clear H
        go_wp2_with (first | ((with_reducible refine gate_builtin (b := .append) (xs := #[.tmp 36, .tmp 38]) rfl ?_); at_builtin; refine Kd.R_append (Kd.int .i64) (w0 := w) w.heap.size rfl (.tmp 36) (.tmp 38) 22 3 (.int .i64 0) 8 rfl Try.underlying22 info3 rfl (by decide) (by omega) u4 x4_1 1 [.int .i64 1] (fun _ => True) (fun _ => False) rfl rfl ?aP (fun _ hk => hk.elim) ?aF ?aO ?aB ?aS ?aL ?_; (case aP => exact rfl); (case aB => exact bw); (case aF => exact (fun _ _ => trivial)); (case aO => exact (ro HO_4.out)); (case aS => exact (below_size bw)); (case aL => have := LMc24.out; omega); intro v387 w27 ho hb hg hat; rw [← Ny386.out] at ho; replace HO_3 := am (Kd.R_over' (ro HO_3.out) (Kd.R_typed (ro HO_4.out)) (by decide) hg); replace BK376 := am (blk_grown (g := gb376) (o := .cells #[.slice A0_0 l0_0.length c0_0] 27 (0, 0)) (bo BK376.out) hg (Kd.R_ne HO_4.out BK376.out (by decide))); replace HB := am (hb); have HO388 := am (ho); clear HO_4 ho hb hg hat; obtain ⟨Ao28, co28, eo28⟩ := Kd.R_slice HO_3.out; subst eo28; have p389 : 0 ≤ (x17_1 : Int) := of_decide_eq_true (by first | (with_reducible assumption) | assumption); have q389 : x17_1 < (t378.length : Int) := of_decide_eq_true (by first | (with_reducible assumption) | assumption); obtain ⟨ad389, e389, hx389_0⟩ := Kd.at_bool (Kd.R_reads' HO_3.out).2.2 x17_1 p389 q389; cases e389; replace p389 := eq_true p389; replace q389 := eq_true q389))
        go_roundg kj15
        case measure => have := HK1.out; have := HJ15.out; omega
        case rel => exact ⟨(y386), (rdOf false t378 x17_1), (wrap64 (x17_1 + 1)), rr, rr, H', ⟨by have := HK1.out; have := HJ15.out; omega⟩, ⟨ro HO_3.out⟩, ⟨ro HO388.out⟩, ⟨bo BK376.out⟩, ⟨bw⟩⟩
       replace H := gb H; obtain ⟨rfl, H⟩ | ⟨rfl, H⟩ := H
       ·replace H := gd H; obtain ⟨c30b0, H⟩ := H
        replace H := gd H; obtain ⟨c31b0, H⟩ := H
        obtain ⟨bq32, hbq32⟩ : ∃ b_ : Bool, b_ = (rdOf false t378 x17_1) := ⟨_, rfl⟩
        replace H : (if bq32 = true then (if x4_1.length < 17592186044416 then (impl_NumeratorOf.l0 kj15 t378 (x4_1 ++ [0]) bq32 (wrap64 (t384 + 1)) (wrap64 (x17_1 + 1))) else (none)) else (if x4_1.length < 17592186044416 then (impl_NumeratorOf.l0 kj15 t378 (x4_1 ++ [(-1)]) bq32 (wrap64 (t384 + 1)) (wrap64 (x17_1 + 1))) else (none))) = some r := by rw [← hbq32] at H; exact H
        have Nbq32 := am hbq32
        clear hbq32
        replace H := gb H; obtain ⟨rfl, H⟩ | ⟨rfl, H⟩ := H
        ·by_cases c34 : x4_1.length < 17592186044416
         rotate_left
         ·rw [if_neg c34] at H
          exact absurd H (by simp)
         rw [if_pos c34] at H
         have LMc34 := am c34
         clear c34
         obtain ⟨y391, hy391⟩ : ∃ y_ : List Int, y_ = (x4_1 ++ [0]) := ⟨_, rfl⟩
         replace H : (impl_NumeratorOf.l0 kj15 t378 y391 true (wrap64 (t384 + 1)) (wrap64 (x17_1 + 1))) = some r := by first | (rw [hy391]; with_reducible first | exact H | exact bs H) | (with_reducible first | exact bs H | exact H) | (rw [hy391]; exact H) | exact H
         have Ny391 := am hy391
         clear hy391
         have H' := am H
         clear H
         obtain ⟨Ao35, co35, eo35⟩ := Kd.R_slice HO_3.out
         subst eo35
         obtain ⟨⟨ad390, e390, hx390_0⟩, p390, q390⟩ := pq (Kd.at_bool (Kd.R_reads' HO_3.out).2.2 x17_1)
         (try rw [← Nbq32.out] at hx390_0)
         cases e390
         go_wp2_with (first | ((with_reducible refine gate_builtin (b := .append) (xs := #[.tmp 36, .tmp 38]) rfl ?_); at_builtin; refine Kd.R_append (Kd.int .i64) (w0 := w) w.heap.size rfl (.tmp 36) (.tmp 38) 22 3 (.int .i64 0) 8 rfl Try.underlying22 info3 rfl (by decide) (by omega) u4 x4_1 0 [.int .i64 0] (fun _ => True) (fun _ => False) rfl rfl ?aP (fun _ hk => hk.elim) ?aF ?aO ?aB ?aS ?aL ?_; (case aP => exact rfl); (case aB => exact bw); (case aF => exact (fun _ _ => trivial)); (case aO => exact (ro HO_4.out)); (case aS => exact (below_size bw)); (case aL => have := LMc34.out; omega); intro v392 w36 ho hb hg hat; rw [← Ny391.out] at ho; replace HO_3 := am (Kd.R_over' (ro HO_3.out) (Kd.R_typed (ro HO_4.out)) (by decide) hg); replace BK376 := am (blk_grown (g := gb376) (o := .cells #[.slice A0_0 l0_0.length c0_0] 27 (0, 0)) (bo BK376.out) hg (Kd.R_ne HO_4.out BK376.out (by decide))); replace HB := am (hb); have HO393 := am (ho); clear HO_4 ho hb hg hat; have p394 : 0 ≤ (x17_1 : Int) := of_decide_eq_true (by first | (with_reducible assumption) | assumption); have q394 : x17_1 < (t378.length : Int) := of_decide_eq_true (by first | (with_reducible assumption) | assumption); obtain ⟨ad394, e394, hx394_0⟩ := Kd.at_bool (Kd.R_reads' HO_3.out).2.2 x17_1 p394 q394; (try rw [← Nbq32.out] at hx394_0); obtain rfl : ad390 = ad394 := (by injection e394); replace p394 := eq_true p394; replace q394 := eq_true q394))
         go_roundg kj15
         case measure => have := HK1.out; have := HJ15.out; omega
         case rel => exact ⟨(y391), (true), (wrap64 (x17_1 + 1)), rr, rr, H', ⟨by have := HK1.out; have := HJ15.out; omega⟩, ⟨ro HO_3.out⟩, ⟨ro HO393.out⟩, ⟨bo BK376.out⟩, ⟨bw⟩⟩
        by_cases c37 : x4_1.length < 17592186044416
        rotate_left
        ·rw [if_neg c37] at H
         exact absurd H (by simp)
        rw [if_pos c37] at H
        have LMc37 := am c37
        clear c37
        obtain ⟨y395, hy395⟩ : ∃ y_ : List Int, y_ = (x4_1 ++ [(-1)]) := ⟨_, rfl⟩
        replace H : (impl_NumeratorOf.l0 kj15 t378 y395 false (wrap64 (t384 + 1)) (wrap64 (x17_1 + 1))) = some r := by first | (rw [hy395]; with_reducible first | exact H | exact bs H) | (with_reducible first | exact bs H | exact H) | (rw [hy395]; exact H) | exact H
        have Ny395 := am hy395
        clear hy395
        have H' := am H
        clear H
        obtain ⟨Ao38, co38, eo38⟩ := Kd.R_slice HO_3.out
        subst eo38
        obtain ⟨⟨ad390, e390, hx390_0⟩, p390, q390⟩ := pq (Kd.at_bool (Kd.R_reads' HO_3.out).2.2 x17_1)
        (try rw [← Nbq32.out] at hx390_0)
        cases e390
        go_wp2_with (first | ((with_reducible refine gate_builtin (b := .append) (xs := #[.tmp 36, .tmp 38]) rfl ?_); at_builtin; refine Kd.R_append (Kd.int .i64) (w0 := w) w.heap.size rfl (.tmp 36) (.tmp 38) 22 3 (.int .i64 0) 8 rfl Try.underlying22 info3 rfl (by decide) (by omega) u4 x4_1 (-1) [.int .i64 (-1)] (fun _ => True) (fun _ => False) rfl rfl ?aP (fun _ hk => hk.elim) ?aF ?aO ?aB ?aS ?aL ?_; (case aP => exact rfl); (case aB => exact bw); (case aF => exact (fun _ _ => trivial)); (case aO => exact (ro HO_4.out)); (case aS => exact (below_size bw)); (case aL => have := LMc37.out; omega); intro v396 w39 ho hb hg hat; rw [← Ny395.out] at ho; replace HO_3 := am (Kd.R_over' (ro HO_3.out) (Kd.R_typed (ro HO_4.out)) (by decide) hg); replace BK376 := am (blk_grown (g := gb376) (o := .cells #[.slice A0_0 l0_0.length c0_0] 27 (0, 0)) (bo BK376.out) hg (Kd.R_ne HO_4.out BK376.out (by decide))); replace HB := am (hb); have HO397 := am (ho); clear HO_4 ho hb hg hat; have p398 : 0 ≤ (x17_1 : Int) := of_decide_eq_true (by first | (with_reducible assumption) | assumption); have q398 : x17_1 < (t378.length : Int) := of_decide_eq_true (by first | (with_reducible assumption) | assumption); obtain ⟨ad398, e398, hx398_0⟩ := Kd.at_bool (Kd.R_reads' HO_3.out).2.2 x17_1 p398 q398; (try rw [← Nbq32.out] at hx398_0); obtain rfl : ad390 = ad398 := (by injection e398); replace p398 := eq_true p398; replace q398 := eq_true q398))
        go_roundg kj15
        case measure => have := HK1.out; have := HJ15.out; omega
        case rel => exact ⟨(y395), (false), (wrap64 (x17_1 + 1)), rr, rr, H', ⟨by have := HK1.out; have := HJ15.out; omega⟩, ⟨ro HO_3.out⟩, ⟨ro HO397.out⟩, ⟨bo BK376.out⟩, ⟨bw⟩⟩
       by_cases c40 : x4_1.length < 17592186044416
       rotate_left
       ·rw [if_neg c40] at H
        exact absurd H (by simp)
       rw [if_pos c40] at H
       have LMc40 := am c40
       clear c40
       obtain ⟨y399, hy399⟩ : ∃ y_ : List Int, y_ = (x4_1 ++ [0]) := ⟨_, rfl⟩
       replace H : (if 0 ≤ x17_1 then (if x17_1 < (t378.length : Int) then (impl_NumeratorOf.l0 kj15 t378 y399 (rdOf false t378 x17_1) (wrap64 (t384 + 1)) (wrap64 (x17_1 + 1))) else (none)) else (none)) = some r := by first | (rw [hy399]; with_reducible first | exact H | exact bs H) | (with_reducible first | exact bs H | exact H) | (rw [hy399]; exact H) | exact H
       have Ny399 := am hy399
       clear hy399
       replace H := gd H; obtain ⟨c41b0, H⟩ := H
       replace H := gd H; obtain ⟨c42b0, H⟩ := H
       have H' := am H
       clear H
       go_wp2_with (first | ((with_reducible refine gate_builtin (b := .append) (xs := #[.tmp 36, .tmp 38]) rfl ?_); at_builtin; refine Kd.R_append (Kd.int .i64) (w0 := w) w.heap.size rfl (.tmp 36) (.tmp 38) 22 3 (.int .i64 0) 8 rfl Try.underlying22 info3 rfl (by decide) (by omega) u4 x4_1 0 [.int .i64 0] (fun _ => True) (fun _ => False) rfl rfl ?aP (fun _ hk => hk.elim) ?aF ?aO ?aB ?aS ?aL ?_; (case aP => exact rfl); (case aB => exact bw); (case aF => exact (fun _ _ => trivial)); (case aO => exact (ro HO_4.out)); (case aS => exact (below_size bw)); (case aL => have := LMc40.out; omega); intro v400 w43 ho hb hg hat; rw [← Ny399.out] at ho; replace HO_3 := am (Kd.R_over' (ro HO_3.out) (Kd.R_typed (ro HO_4.out)) (by decide) hg); replace BK376 := am (blk_grown (g := gb376) (o := .cells #[.slice A0_0 l0_0.length c0_0] 27 (0, 0)) (bo BK376.out) hg (Kd.R_ne HO_4.out BK376.out (by decide))); replace HB := am (hb); have HO401 := am (ho); clear HO_4 ho hb hg hat; obtain ⟨Ao44, co44, eo44⟩ := Kd.R_slice HO_3.out; subst eo44; have p402 : 0 ≤ (x17_1 : Int) := of_decide_eq_true (by first | (with_reducible assumption) | assumption); have q402 : x17_1 < (t378.length : Int) := of_decide_eq_true (by first | (with_reducible assumption) | assumption); obtain ⟨ad402, e402, hx402_0⟩ := Kd.at_bool (Kd.R_reads' HO_3.out).2.2 x17_1 p402 q402; cases e402; replace p402 := eq_true p402; replace q402 := eq_true q402))
       go_roundg kj15
       case measure => have := HK1.out; have := HJ15.out; omega
       case rel => exact ⟨(y399), (rdOf false t378 x17_1), (wrap64 (x17_1 + 1)), rr, rr, H', ⟨by have := HK1.out; have := HJ15.out; omega⟩, ⟨ro HO_3.out⟩, ⟨ro HO401.out⟩, ⟨bo BK376.out⟩, ⟨bw⟩⟩
    obtain rfl := Option.some.inj H
    go_wp2
    go_ret
    exact ⟨_, re, ro HO_4.out, bw⟩
 obtain rfl := Option.some.inj H
 go_enter Try.func68, Try.ntmps68
 go_wp2_with (first | ((with_reducible refine gate_dst (N := 1) rfl ?_); refine bx 1 #[.slice A0_0 l0_0.length c0_0] 27 ?_; intro gb376 hg w45 hbox hb; have BK376 := am (hbox); have GW376 := am (gs hg : w.heap.size ≤ gb376); have GE376 := GW376; replace HB := am (below_step bw hb); clear hb hbox hg; have hcz46_0 := bc BK376 0 (.slice A0_0 l0_0.length c0_0); have hfz46_0 := blk_frozen BK376.out 0) | ((with_reducible refine gate_callee (f := 62) rfl ?_); refine gl (some 9) Try.func62 #[.agg #[.slice A0_0 l0_0.length c0_0]] ?_; (with_reducible refine (impl_IsSemigroup.calls k _ _ l0_0 false _ ?side1 ?side2 A2.out).mono ?_); (case side1 => exact co (Kd.C_below HR0_0.out HB.out)); (case side2 => exact HC0_0.out); rintro e w47 ⟨rfl, hb⟩; refine ⟨_, rfl, ?_⟩; replace BK376 := kb BK376 hb; replace HB := am (below_step bw hb); clear hb))
 go_ret
 exact ⟨_, re, by first | exact Kd.R_nil _ _ _ _ _ | exact Kd.N_nil _ _ _ _ _ | exact Kd.V_nil _ _ _ _ _ | exact Kd.Q_nil _ _ _ _ _ | exact Kd.S_nil _ _ _ _ _, bw⟩


/-! ### impl_product: function 69 -/
mutual
def impl_product.l0 : Nat → List Int → List Int → List Int → Int → Int → Option (List Int)
 | 0, _, _, _, _, _ => none
 | k + 1, x1, x5, x17, x18, x19 => if x19 < x18 then (if 0 ≤ x19 then (if x19 < (x17.length : Int) then (impl_product.l1 k x1 x5 x19 (rd x17 x19) x17 x18 x19 x1 (x1.length : Int) 0) else (none)) else (none)) else (some x5)
def impl_product.l1 : Nat → List Int → List Int → Int → Int → List Int → Int → Int → List Int → Int → Int → Option (List Int)
 | 0, _, _, _, _, _, _, _, _, _, _ => none
 | k + 1, x1, x5, x6, x7, x17, x18, x19, x24, x25, x26 => if x26 < x25 then (if 0 ≤ x26 then (if x26 < (x24.length : Int) then (if 0 ≤ (wrap64 (x6 + x26)) then (if (wrap64 (x6 + x26)) < (x5.length : Int) then (impl_product.l1 k x1 (x5.set ((wrap64 (x6 + x26)) : Int).toNat (wrap64 ((rd x5 (wrap64 (x6 + x26))) + (wrap64 (x7 * (rd x24 x26)))))) x6 x7 x17 x18 x19 x24 x25 (wrap64 (x26 + 1))) else (none)) else (none)) else (none)) else (none)) else (impl_product.l0 k x1 x5 x17 x18 (wrap64 (x19 + 1)))
end
def impl_product.f (k : Nat) (l0 : List Int) (l1 : List Int) : Option (List Int) := if 0 ≤ (wrap64 ((wrap64 ((l0.length : Int) + (l1.length : Int))) - 1)) then (if (wrap64 ((wrap64 ((l0.length : Int) + (l1.length : Int))) - 1) : Int).toNat ≤ 35184372088832 then (impl_product.l0 k l1 (List.replicate (wrap64 ((wrap64 ((l0.length : Int) + (l1.length : Int))) - 1) : Int).toNat 0) l0 (l0.length : Int) 0) else (none)) else (none)
set_option maxHeartbeats 8000000 in
set_option maxRecDepth 100000 in
theorem impl_product.calls (k : Nat) (A0 : Option Addr) (c0 : Nat) (l0 : List Int) (A1 : Option Addr) (c1 : Nat) (l1 : List Int) (r : List Int) (w : World) (hr0 : Kd.C (Kd.int .i64) w A0 l0.length l0) (hc0 : l0.length ≤ c0) (hr1 : Kd.C (Kd.int .i64) w A1 l1.length l1) (hc1 : l1.length ≤ c1) (h : impl_product.f k l0 l1 = some r) :
  Calls Try.prog 69 #[.slice A0 l0.length c0, .slice A1 l1.length c1] w fun e w' => ∃ v0_ : Value, e = .returned (v0_) ∧ Kd.R (Kd.int .i64) 3 w' w.heap.size (fun _ => True) v0_ r ∧ Below w.heap.size w w' := by
 have HR0 := am hr0
 have HC0 := am hc0
 clear hr0 hc0
 have HR1 := am hr1
 have HC1 := am hc1
 clear hr1 hc1
 have HB := am (Below.refl w.heap.size w)
 have H : (if 0 ≤ (wrap64 ((wrap64 ((l0.length : Int) + (l1.length : Int))) - 1)) then (if (wrap64 ((wrap64 ((l0.length : Int) + (l1.length : Int))) - 1) : Int).toNat ≤ 35184372088832 then (impl_product.l0 k l1 (List.replicate (wrap64 ((wrap64 ((l0.length : Int) + (l1.length : Int))) - 1) : Int).toNat 0) l0 (l0.length : Int) 0) else (none)) else (none)) = some r := h
 clear h
 obtain ⟨ji3, hji3⟩ : ∃ j_ : Int, (wrap64 ((wrap64 ((l0.length : Int) + (l1.length : Int))) - 1)) = j_ := ⟨_, rfl⟩
 replace H : (if 0 ≤ (ji3) then (if (ji3 : Int).toNat ≤ 35184372088832 then (impl_product.l0 k l1 (List.replicate (ji3 : Int).toNat 0) l0 (l0.length : Int) 0) else (none)) else (none)) = some r := by first | (rw [hji3] at H; exact H) | (simp only [hji3] at H ⊢; exact H)
 have hji3w : (IntKind.i64.wrap ((wrap64 ((l0.length : Int) + (l1.length : Int))) - 1)) = ji3 := (i64_w _).trans hji3
 replace H := gp H; obtain ⟨c4, H⟩ := H
 have c4b0 := eq_true c4
 have c4b1 : decide (0 ≤ (ji3)) = true := decide_eq_true c4
 clear c4
 replace H := gp H; obtain ⟨c5, H⟩ := H
 have c5b0 := eq_true c5
 have c5b1 : decide ((ji3 : Int).toNat ≤ 35184372088832) = true := decide_eq_true c5
 clear c5
 obtain ⟨y403, hy403⟩ : ∃ y_ : List Int, y_ = (List.replicate (ji3 : Int).toNat 0) := ⟨_, rfl⟩
 replace H : (impl_product.l0 k l1 y403 l0 (l0.length : Int) 0) = some r := by first | (rw [hy403]; with_reducible first | exact H | exact bs H) | (with_reducible first | exact bs H | exact H) | (rw [hy403]; exact H) | exact H
 have Ny403 := am hy403
 clear hy403
 have H' := am H
 clear H
 go_enter Try.func69, Try.ntmps69
 go_wp2_with (first | ((with_reducible refine gate_dst (N := 16) rfl ?_); refine Kd.R_make (Kd.int .i64) _ 3 rfl (N := 16) rfl 22 _ _ rfl ji3 rfl rfl Try.underlying22 (.int .i64 0) 8 info3 rfl (by decide) (by omega) 0 (ok := fun _ => True) (okp := fun _ => True) rfl (fun _ hk => hk) trivial (of_decide_eq_true (by first | (with_reducible assumption) | assumption)) (Nat.le_trans (Nat.mul_le_mul_right _ (of_decide_eq_true (by first | (with_reducible assumption) | assumption) : ji3.toNat ≤ 35184372088832)) (by omega)) (Below.refl _ _) (Nat.le_refl _) ?_; intro v404 w6 ho7 hb hg_ hnew_; clear hg_ hnew_; (first | rw [← Ny403.out] at ho7 | (simp only [Int.reduceToNat] at ho7; rw [← Ny403.out] at ho7)); have HO405 := am (Kd.R_lower ho7 (below_size bw)); replace HB := am (below_step bw hb); clear hb ho7))
 go_loopg [19] k (fun kq v19 w' => ∃ (x5_1 : List Int) (x19_1 : Int), v19 = .int .i64 x19_1 ∧ Aside0 (impl_product.l0 kq l1 x5_1 l0 (l0.length : Int) x19_1 = some r) ∧ Aside0 (kq ≤ k) ∧ Aside0 (Kd.R (Kd.int .i64) 3 w' w.heap.size (fun _ => True) v404 x5_1) ∧ Aside0 (Below w.heap.size w w'))
 case atStart => exact ⟨(y403), (0), rr, H', ⟨Nat.le_refl _⟩, ⟨ro HO405.out⟩, ⟨bw⟩⟩
 case round =>
  clear H'
  try clear c1; try clear c4; try clear c4b0; try clear c4b1; try clear c5; try clear c5b0; try clear c5b1
  obtain ⟨x5_1, x19_1, rfl, HA, HK1, HO_5, HB⟩ := hrel
  cases gk with
  | zero => exact absurd HA.out (by simp [impl_product.l0])
  | succ k1 =>
   have H := HA.out
   clear HA
   simp only [impl_product.l0] at H
   replace H := gi H; obtain ⟨c8b0, H⟩ | ⟨c8b0, H⟩ := H
   ·replace H := gd H; obtain ⟨c9b0, H⟩ := H
    replace H := gd H; obtain ⟨c10b0, H⟩ := H
    have H' := am H
    clear H
    obtain ⟨⟨ad406, e406, hx406_0⟩, p406, q406⟩ := pq (Kd.at_int HR0.out x19_1)
    cases e406
    replace hx406_0 := hw HB hx406_0
    go_wp2
    go_loopg [26] k1 (fun kq v26 w' => ∃ (x5_2 : List Int) (x26_2 : Int), v26 = .int .i64 x26_2 ∧ Aside0 (impl_product.l1 kq l1 x5_2 x19_1 (rd l0 x19_1) l0 (l0.length : Int) x19_1 l1 (l1.length : Int) x26_2 = some r) ∧ Aside0 (kq ≤ k1) ∧ Aside0 (Kd.R (Kd.int .i64) 3 w' w.heap.size (fun _ => True) v404 x5_2) ∧ Aside0 (Below w.heap.size w w'))
    case atStart => exact ⟨(x5_1), (0), rr, H', ⟨Nat.le_refl _⟩, ⟨ro HO_5.out⟩, ⟨bw⟩⟩
    case round =>
     clear H'
     try clear c1; try clear c4; try clear c4b0; try clear c4b1; try clear c5; try clear c5b0; try clear c5b1; try clear c8b0; try clear c9b0; try clear c10b0; try clear hx406_0; try clear p406; try clear q406
     obtain ⟨x5_2, x26_2, rfl, HA, HK2, HO_5, HB⟩ := hrel
     cases gk with
     | zero => exact absurd HA.out (by simp [impl_product.l1])
     | succ k2 =>
      have H := HA.out
      clear HA
      simp only [impl_product.l1] at H
      replace H := gi H; obtain ⟨c11b0, H⟩ | ⟨c11b0, H⟩ := H
      ·replace H := gd H; obtain ⟨c12b0, H⟩ := H
       replace H := gd H; obtain ⟨c13b0, H⟩ := H
       obtain ⟨ji14, hji14⟩ : ∃ j_ : Int, (wrap64 (x19_1 + x26_2)) = j_ := ⟨_, rfl⟩
       replace H : (if 0 ≤ (ji14) then (if (ji14) < (x5_2.length : Int) then (impl_product.l1 k2 l1 (x5_2.set ((ji14) : Int).toNat (wrap64 ((rd x5_2 (ji14)) + (wrap64 ((rd l0 x19_1) * (rd l1 x26_2)))))) x19_1 (rd l0 x19_1) l0 (l0.length : Int) x19_1 l1 (l1.length : Int) (wrap64 (x26_2 + 1))) else (none)) else (none)) = some r := by first | (rw [hji14] at H; exact H) | (simp only [hji14] at H ⊢; exact H)
       have hji14w : (IntKind.i64.wrap (x19_1 + x26_2)) = ji14 := (i64_w _).trans hji14
       replace H := gd H; obtain ⟨c15b0, H⟩ := H
       replace H := gd H; obtain ⟨c16b0, H⟩ := H
       obtain ⟨y409, hy409⟩ : ∃ y_ : List Int, y_ = (x5_2.set ((ji14) : Int).toNat (wrap64 ((rd x5_2 (ji14)) + (wrap64 ((rd l0 x19_1) * (rd l1 x26_2)))))) := ⟨_, rfl⟩
       replace H : (impl_product.l1 k2 l1 y409 x19_1 (rd l0 x19_1) l0 (l0.length : Int) x19_1 l1 (l1.length : Int) (wrap64 (x26_2 + 1))) = some r := by first | (rw [hy409]; with_reducible first | exact H | exact bs H) | (with_reducible first | exact bs H | exact H) | (rw [hy409]; exact H) | exact H
       have Ny409 := am hy409
       clear hy409
       have H' := am H
       clear H
       obtain ⟨⟨ad407, e407, hx407_0⟩, p407, q407⟩ := pq (Kd.at_int HR1.out x26_2)
       cases e407
       replace hx407_0 := hw HB hx407_0
       obtain ⟨Ao18, co18, eo18⟩ := Kd.R_slice HO_5.out
       subst eo18
       obtain ⟨⟨ad408, e408, hx408_0⟩, p408, q408⟩ := pq (Kd.at_int (Kd.R_reads' HO_5.out).2.2 (ji14))
       cases e408
       have p17 : 0 ≤ ((ji14) : Int) := of_decide_eq_true (by first | (with_reducible assumption) | assumption)
       have q17 : ((ji14) : Int) < ((x5_2.length : Int) : Int) := of_decide_eq_true (by first | (with_reducible assumption) | assumption)
       obtain ⟨go17, co17, eo17, gb17, gl17, cl17, HG17⟩ := Kd.R_form HO_5.out (by omega)
       (first | cases eo17 | (injection eo17 with ea_ en_ ec_; (first | subst ea_ | (injection ea_ with ea_; subst ea_)); subst ec_; clear en_))
       have GB17 := am gb17
       have GG17 := am HG17
       clear gb17 gl17 HG17
       (first | simp only [add_plain] at hx408_0 | skip)
       obtain ⟨hx17_0, hf17_0⟩ := Kd.R_celln 0 HO_5.out ((ji14) : Int) p17 q17
       replace p17 := eq_true p17
       replace q17 := eq_true q17
       have HP19 := Kd.R_putg HO_5.out ((ji14) : Int) (wrap64 ((rd x5_2 (ji14)) + (wrap64 ((rd l0 x19_1) * (rd l1 x26_2)))))
       go_wp2_with (first | ((with_reducible refine gate_store (t := 3) (p := 41) rfl ?_); refine store_event (t := 3) (p := 41) (v := ?vo_w20) (w1 := (wr.setCell ⟨go17, ((ji14) : Int).toNat, none⟩ (.int .i64 (wrap64 ((rd x5_2 (ji14)) + (wrap64 ((rd l0 x19_1) * (rd l1 x26_2)))))))) ?hg ?ho ?hn ?hr ?_; (case ho => rfl); (case hg => rfl); (case hn => rfl); (case hr => first | (go_simp; done) | (go_simp; rfl)); intro w20 hw; have hg : wr.grownBy w20 (some go17) := (by rw [hw]; exact HP19.2); have hp_ : Kd.R (Kd.int .i64) 3 w20 w.heap.size (fun _ => True) (.slice (some ⟨go17, 0, none⟩) x5_2.length co18) y409 := (by rw [hw, Ny409.out]; exact HP19.1); clear HP19; replace HO_5 := am (hp_); replace HB := am ((by rw [hw]; exact below_set (HB.out) GB17.out : Below w.heap.size w w20)); clear hg hw hp_))
       go_roundg k2
       case measure => have := HK1.out; have := HK2.out; omega
       case rel => exact ⟨(y409), (wrap64 (x26_2 + 1)), rr, H', ⟨by have := HK1.out; have := HK2.out; omega⟩, ⟨ro HO_5.out⟩, ⟨bw⟩⟩
      have H' := am H
      clear H
      go_wp2
      go_roundg k2
      case measure => have := HK1.out; have := HK2.out; omega
      case rel => exact ⟨(x5_2), (wrap64 (x19_1 + 1)), rr, H', ⟨by have := HK1.out; have := HK2.out; omega⟩, ⟨ro HO_5.out⟩, ⟨bw⟩⟩
   obtain rfl := Option.some.inj H
   go_wp2
   go_ret
   exact ⟨_, by first | rfl | (simp [errW_none, errW_some] <;> rfl) | (simp only [← hji3]; first | rfl | (simp [errW_none, errW_some] <;> rfl)) | (simp [*, errW_none, errW_some] <;> rfl), ro HO_5.out, bw⟩


/-! ### impl_total: function 71 -/
def impl_total.l0 : Nat → Int → List Int → Int → Int → Option (Int)
 | 0, _, _, _, _ => none
 | k + 1, x3, x6, x7, x8 => if x8 < x7 then (if 0 ≤ x8 then (if x8 < (x6.length : Int) then (impl_total.l0 k (wrap64 (x3 + (rd x6 x8))) x6 x7 (wrap64 (x8 + 1))) else (none)) else (none)) else (some x3)
def impl_total.f (k : Nat) (l0 : List Int) : Option (Int) := impl_total.l0 k 0 l0 (l0.length : Int) 0
set_option maxHeartbeats 8000000 in
set_option maxRecDepth 100000 in
theorem impl_total.calls (k : Nat) (A0 : Option Addr) (c0 : Nat) (l0 : List Int) (r : Int) (w : World) (hr0 : Kd.C (Kd.int .i64) w A0 l0.length l0) (hc0 : l0.length ≤ c0) (h : impl_total.f k l0 = some r) :
  Calls Try.prog 71 #[.slice A0 l0.length c0] w fun e w' => e = .returned (.int .i64 r) ∧ Drawn0 w w' := by
 have HR0 := am hr0
 have HC0 := am hc0
 clear hr0 hc0
 have H : (impl_total.l0 k 0 l0 (l0.length : Int) 0) = some r := h
 clear h
 have H' := am H
 clear H
 go_enter Try.func71, Try.ntmps71
 go_wp2
 go_loopg [3, 8] k (fun kq v3 v8 w' => ∃ (x3_1 : Int) (x8_1 : Int), v3 = .int .i64 x3_1 ∧ v8 = .int .i64 x8_1 ∧ Aside0 (impl_total.l0 kq x3_1 l0 (l0.length : Int) x8_1 = some r) ∧ Aside0 (kq ≤ k) ∧ Drawn0 w w')
 case atStart => exact ⟨(0), (0), rr, rr, H', ⟨Nat.le_refl _⟩, dw⟩
 case round =>
  clear H'
  obtain ⟨x3_1, x8_1, rfl, rfl, HA, HK1, ⟨m1, rfl⟩⟩ := hrel
  cases gk with
  | zero => exact absurd HA.out (by simp [impl_total.l0])
  | succ k1 =>
   have H := HA.out
   clear HA
   simp only [impl_total.l0] at H
   replace H := gi H; obtain ⟨c2b0, H⟩ | ⟨c2b0, H⟩ := H
   ·replace H := gd H; obtain ⟨c3b0, H⟩ := H
    replace H := gd H; obtain ⟨c4b0, H⟩ := H
    have H' := am H
    clear H
    obtain ⟨⟨ad410, e410, hx410_0⟩, p410, q410⟩ := pq (Kd.at_int HR0.out x8_1)
    cases e410
    go_wp2
    go_roundg k1
    case measure => have := HK1.out; omega
    case rel => exact ⟨(wrap64 (x3_1 + (rd l0 x8_1))), (wrap64 (x8_1 + 1)), rr, rr, H', ⟨by have := HK1.out; omega⟩, dw⟩
   obtain rfl := Option.some.inj H
   go_wp2
   go_ret
   exact ⟨rr, dw⟩

end Go.Proofs.Ytlfdipnhlmjiaaa.C
