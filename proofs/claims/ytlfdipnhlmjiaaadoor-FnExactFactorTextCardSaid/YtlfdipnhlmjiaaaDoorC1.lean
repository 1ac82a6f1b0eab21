/- Contracts of functions of the program: laws_szIntS, laws_szSemigroup, spec_l1In, spec_l3Gens, spec_IsAscending, spec_l2Small, spec_l1Max, spec_GcdOf, spec_GcdOfList, spec_l2Same, spec_SortList. -/
import Derived.Test.YtlfdipnhlmjiaaaDoorC0
namespace Go.Proofs.YtlfdipnhlmjiaaaDoor.C
open Go.RowKit Go.Proofs.YtlfdipnhlmjiaaaDoorW.PrintWords Go.Proofs.YtlfdipnhlmjiaaaDoorW.PrintLast Go.Proofs.YtlfdipnhlmjiaaaDoorW.PrintMore
attribute [local go_sem] max2_int min2_int max_two min_two max_three min_three max_four min_four
set_option linter.unusedVariables false
set_option linter.unusedSimpArgs false

/-! ### laws_szIntS: function 11 -/
def laws_szIntS.f (l0 : List Int) (a1 : Int) : Option (Int) := if (wrap64 (a1 - (l0.length : Int))) < 0 then (some (-1)) else (some (wrap64 (a1 - (l0.length : Int))))
set_option maxHeartbeats 8000000 in
set_option maxRecDepth 100000 in
theorem laws_szIntS.calls (A0 : Option Addr) (c0 : Nat) (l0 : List Int) (a1 : Int) (r : Int) (w : World) (hr0 : Kd.C (Kd.int .i64) w A0 l0.length l0) (hc0 : l0.length ≤ c0) (h : laws_szIntS.f l0 a1 = some r) :
  Calls Tryd.prog 11 #[.slice A0 l0.length c0, .int .i64 a1] w fun e w' => e = .returned (.int .i64 r) ∧ Drawn0 w w' := by
 have HR0 := am hr0
 have HC0 := am hc0
 clear hr0 hc0
 have H : (if (wrap64 (a1 - (l0.length : Int))) < 0 then (some (-1)) else (some (wrap64 (a1 - (l0.length : Int))))) = some r := h
 clear h
 replace H := gi H; obtain ⟨c3b0, H⟩ | ⟨c3b0, H⟩ := H
 ·obtain rfl := Option.some.inj H
  go_enter Tryd.func11, Tryd.ntmps11
  go_wp2
  go_ret
  exact ⟨rr, dw⟩
 obtain rfl := Option.some.inj H
 go_enter Tryd.func11, Tryd.ntmps11
 go_wp2
 go_ret
 exact ⟨rr, dw⟩


/-! ### laws_szSemigroup: function 4 -/
def laws_szSemigroup.f (l0_0 : List Int) (a1 : Int) : Option (Int) := (laws_szIntS.f l0_0 a1).bind fun t102 => (if t102 < 0 then (some (-1)) else (some t102))
set_option maxHeartbeats 8000000 in
set_option maxRecDepth 100000 in
theorem laws_szSemigroup.calls (A0_0 : Option Addr) (c0_0 : Nat) (l0_0 : List Int) (a1 : Int) (r : Int) (w : World) (hr0_0 : Kd.C (Kd.int .i64) w A0_0 l0_0.length l0_0) (hc0_0 : l0_0.length ≤ c0_0) (h : laws_szSemigroup.f l0_0 a1 = some r) :
  Calls Tryd.prog 4 #[.agg #[.slice A0_0 l0_0.length c0_0], .int .i64 a1] w fun e w' => e = .returned (.int .i64 r) ∧ Below w.heap.size w w' := by
 have hu24 := Tryd.underlying24
 have HR0_0 := am hr0_0
 have HC0_0 := am hc0_0
 clear hr0_0 hc0_0
 have HB := am (Below.refl w.heap.size w)
 have H : ((laws_szIntS.f l0_0 a1).bind fun t102 => (if t102 < 0 then (some (-1)) else (some t102))) = some r := h
 clear h
 replace H := ga H; obtain ⟨t102, A3, H⟩ := H
 replace H := gi H; obtain ⟨c4b0, H⟩ | ⟨c4b0, H⟩ := H
 ·obtain rfl := Option.some.inj H
  go_enter Tryd.func4, Tryd.ntmps4
  go_wp2_with (first | ((with_reducible refine gate_dst (N := 2) rfl ?_); refine bx 2 #[.slice A0_0 l0_0.length c0_0] 24 ?_; intro gb101 hg w5 hbox hb; have BK101 := am (hbox); have GW101 := am (gs hg : w.heap.size ≤ gb101); have GE101 := GW101; replace HB := am (below_step bw hb); clear hb hbox hg; have hcz6_0 := bc BK101 0 (.slice A0_0 l0_0.length c0_0); have hfz6_0 := blk_frozen BK101.out 0) | ((with_reducible refine gate_callee (f := 11) rfl ?_); refine goesL_ (some 8) rfl rfl Tryd.func11 (by kernel_rfl) rfl #[.slice A0_0 l0_0.length c0_0, .int .i64 a1] rfl (by (try simp only [List.map_toArray, List.map_cons, List.map_nil]); first | done | rfl | (simp only [List.length_drop, List.length_take]; rfl)) ?_; (with_reducible refine (laws_szIntS.calls _ _ l0_0 a1 t102 _ ?side1 ?side2 A3.out).mono ?_); (case side1 => exact co (Kd.C_below HR0_0.out HB.out)); (case side2 => exact HC0_0.out); rintro e w' ⟨rfl, ⟨nd, rfl⟩⟩; refine ⟨_, rfl, ?_⟩))
  go_ret
  exact ⟨re, bw⟩
 obtain rfl := Option.some.inj H
 go_enter Tryd.func4, Tryd.ntmps4
 go_wp2_with (first | ((with_reducible refine gate_dst (N := 2) rfl ?_); refine bx 2 #[.slice A0_0 l0_0.length c0_0] 24 ?_; intro gb101 hg w7 hbox hb; have BK101 := am (hbox); have GW101 := am (gs hg : w.heap.size ≤ gb101); have GE101 := GW101; replace HB := am (below_step bw hb); clear hb hbox hg; have hcz8_0 := bc BK101 0 (.slice A0_0 l0_0.length c0_0); have hfz8_0 := blk_frozen BK101.out 0) | ((with_reducible refine gate_callee (f := 11) rfl ?_); refine goesL_ (some 8) rfl rfl Tryd.func11 (by kernel_rfl) rfl #[.slice A0_0 l0_0.length c0_0, .int .i64 a1] rfl (by (try simp only [List.map_toArray, List.map_cons, List.map_nil]); first | done | rfl | (simp only [List.length_drop, List.length_take]; rfl)) ?_; (with_reducible refine (laws_szIntS.calls _ _ l0_0 a1 t102 _ ?side1 ?side2 A3.out).mono ?_); (case side1 => exact co (Kd.C_below HR0_0.out HB.out)); (case side2 => exact HC0_0.out); rintro e w' ⟨rfl, ⟨nd, rfl⟩⟩; refine ⟨_, rfl, ?_⟩))
 go_ret
 exact ⟨re, bw⟩


/-! ### spec_l1In: function 19 -/
def spec_l1In.f (a0 : Int) (a1 : Int) (a2 : Int) : Option (Bool) := if a0 ≥ a1 then (some (decide (a0 ≤ a2))) else (some false)
set_option maxHeartbeats 8000000 in
set_option maxRecDepth 100000 in
theorem spec_l1In.calls (a0 : Int) (a1 : Int) (a2 : Int) (r : Bool) (w : World) (h : spec_l1In.f a0 a1 a2 = some r) :
  Calls Tryd.prog 19 #[.int .i64 a0, .int .i64 a1, .int .i64 a2] w fun e w' => e = .returned (.bool r) ∧ Drawn0 w w' := by
 have H : (if a0 ≥ a1 then (some (decide (a0 ≤ a2))) else (some false)) = some r := h
 clear h
 replace H := gj H; obtain ⟨c4, H⟩ | ⟨c4, H⟩ := H
 ·have c4b0 : decide (a1 ≤ a0) = true := decide_eq_true c4
  clear c4
  obtain rfl := Option.some.inj H
  go_enter Tryd.func19, Tryd.ntmps19
  go_wp2
  go_ret
  exact ⟨rr, dw⟩
 have c4b0 : decide (a1 ≤ a0) = false := decide_eq_false c4
 clear c4
 obtain rfl := Option.some.inj H
 go_enter Tryd.func19, Tryd.ntmps19
 go_wp2
 go_ret
 exact ⟨rr, dw⟩


/-! ### spec_l3Gens: function 24 -/
def spec_l3Gens.l0 : Nat → List Int → Int → Option (Bool)
 | 0, _, _ => none
 | k + 1, x0, x3 => if x3 < (x0.length : Int) then (if 0 ≤ x3 then ((spec_l1In.f (rd x0 x3) 1 60).bind fun t104 => (if t104 = true then (spec_l3Gens.l0 k x0 (wrap64 (x3 + 1))) else (some false))) else (none)) else ((spec_l1In.f (x0.length : Int) 1 20).bind fun t105 => (some t105))
def spec_l3Gens.f (k : Nat) (l0 : List Int) : Option (Bool) := spec_l3Gens.l0 k l0 0
set_option maxHeartbeats 8000000 in
set_option maxRecDepth 100000 in
theorem spec_l3Gens.calls (k : Nat) (A0 : Option Addr) (c0 : Nat) (l0 : List Int) (r : Bool) (w : World) (hr0 : Kd.C (Kd.int .i64) w A0 l0.length l0) (hc0 : l0.length ≤ c0) (h : spec_l3Gens.f k l0 = some r) :
  Calls Tryd.prog 24 #[.slice A0 l0.length c0] w fun e w' => e = .returned (.bool r) ∧ Drawn0 w w' := by
 have HR0 := am hr0
 have HC0 := am hc0
 clear hr0 hc0
 have H : (spec_l3Gens.l0 k l0 0) = some r := h
 clear h
 have H' := am H
 clear H
 go_enter Tryd.func24, Tryd.ntmps24
 go_wp2
 go_loopg [3] k (fun kq v3 w' => ∃ (x3_1 : Int), v3 = .int .i64 x3_1 ∧ Aside0 (spec_l3Gens.l0 kq l0 x3_1 = some r) ∧ Aside0 (kq ≤ k) ∧ Drawn0 w w')
 case atStart => exact ⟨(0), rr, H', ⟨Nat.le_refl _⟩, dw⟩
 case round =>
  clear H'
  obtain ⟨x3_1, rfl, HA, HK1, ⟨m1, rfl⟩⟩ := hrel
  cases gk with
  | zero => exact absurd HA.out (by simp [spec_l3Gens.l0])
  | succ k1 =>
   have H := HA.out
   clear HA
   simp only [spec_l3Gens.l0] at H
   replace H := gi H; obtain ⟨c2b0, H⟩ | ⟨c2b0, H⟩ := H
   ·replace H := gd H; obtain ⟨c3b0, H⟩ := H
    replace H := ga H; obtain ⟨t104, A4, H⟩ := H
    replace H := gb H; obtain ⟨rfl, H⟩ | ⟨rfl, H⟩ := H
    ·have H' := am H
     clear H
     obtain ⟨⟨ad103, e103, hx103_0⟩, p103, q103⟩ := pq (Kd.at_int HR0.out x3_1)
     cases e103
     go_wp2_with (first | ((with_reducible refine gate_callee (f := 19) rfl ?_); refine goesL_ (some 14) rfl rfl Tryd.func19 (by kernel_rfl) rfl #[.int .i64 (rd l0 x3_1), .int .i64 1, .int .i64 60] rfl (by (try simp only [List.map_toArray, List.map_cons, List.map_nil]); first | done | rfl | (simp only [List.length_drop, List.length_take]; rfl)) ?_; (with_reducible refine (spec_l1In.calls (rd l0 x3_1) 1 60 true _ A4.out).mono ?_); rintro e w' ⟨rfl, ⟨nd, rfl⟩⟩; refine ⟨_, rfl, ?_⟩))
     go_roundg k1
     case measure => have := HK1.out; omega
     case rel => exact ⟨(wrap64 (x3_1 + 1)), rr, H', ⟨by have := HK1.out; omega⟩, dw⟩
    obtain rfl := Option.some.inj H
    obtain ⟨⟨ad103, e103, hx103_0⟩, p103, q103⟩ := pq (Kd.at_int HR0.out x3_1)
    cases e103
    go_wp2_with (first | ((with_reducible refine gate_callee (f := 19) rfl ?_); refine goesL_ (some 14) rfl rfl Tryd.func19 (by kernel_rfl) rfl #[.int .i64 (rd l0 x3_1), .int .i64 1, .int .i64 60] rfl (by (try simp only [List.map_toArray, List.map_cons, List.map_nil]); first | done | rfl | (simp only [List.length_drop, List.length_take]; rfl)) ?_; (with_reducible refine (spec_l1In.calls (rd l0 x3_1) 1 60 false _ A4.out).mono ?_); rintro e w' ⟨rfl, ⟨nd, rfl⟩⟩; refine ⟨_, rfl, ?_⟩))
    go_ret
    exact ⟨rr, dw⟩
   replace H := ga H; obtain ⟨t105, A6, H⟩ := H
   obtain rfl := Option.some.inj H
   go_wp2_with (first | ((with_reducible refine gate_callee (f := 19) rfl ?_); refine goesL_ (some 18) rfl rfl Tryd.func19 (by kernel_rfl) rfl #[.int .i64 (l0.length : Int), .int .i64 1, .int .i64 20] rfl (by (try simp only [List.map_toArray, List.map_cons, List.map_nil]); first | done | rfl | (simp only [List.length_drop, List.length_take]; rfl)) ?_; (with_reducible refine (spec_l1In.calls (l0.length : Int) 1 20 t105 _ A6.out).mono ?_); rintro e w' ⟨rfl, ⟨nd, rfl⟩⟩; refine ⟨_, rfl, ?_⟩))
   go_ret
   exact ⟨rr, dw⟩


/-! ### spec_IsAscending: function 25 -/
def spec_IsAscending.l0 : Nat → List Int → Int → Option (Bool)
 | 0, _, _ => none
 | k + 1, x0, x3 => if x3 < (x0.length : Int) then (if 0 ≤ (wrap64 (x3 - 1)) then (if (wrap64 (x3 - 1)) < (x0.length : Int) then (if 0 ≤ x3 then (if (rd x0 (wrap64 (x3 - 1))) ≥ (rd x0 x3) then (some false) else (spec_IsAscending.l0 k x0 (wrap64 (x3 + 1)))) else (none)) else (none)) else (none)) else (some true)
def spec_IsAscending.f (k : Nat) (l0 : List Int) : Option (Bool) := spec_IsAscending.l0 k l0 1
set_option maxHeartbeats 8000000 in
set_option maxRecDepth 100000 in
theorem spec_IsAscending.calls (k : Nat) (A0 : Option Addr) (c0 : Nat) (l0 : List Int) (r : Bool) (w : World) (hr0 : Kd.C (Kd.int .i64) w A0 l0.length l0) (hc0 : l0.length ≤ c0) (h : spec_IsAscending.f k l0 = some r) :
  Calls Tryd.prog 25 #[.slice A0 l0.length c0] w fun e w' => e = .returned (.bool r) ∧ Drawn0 w w' := by
 have HR0 := am hr0
 have HC0 := am hc0
 clear hr0 hc0
 have H : (spec_IsAscending.l0 k l0 1) = some r := h
 clear h
 have H' := am H
 clear H
 go_enter Tryd.func25, Tryd.ntmps25
 go_wp2
 repeat (go_quiet (fail); try go_wp2)
 go_loopg [3] k (fun kq v3 w' => ∃ (x3_1 : Int), v3 = .int .i64 x3_1 ∧ Aside0 (spec_IsAscending.l0 kq l0 x3_1 = some r) ∧ Aside0 (kq ≤ k) ∧ Drawn0 w w')
 case atStart => exact ⟨(1), rr, H', ⟨Nat.le_refl _⟩, dw⟩
 case round =>
  clear H'
  obtain ⟨x3_1, rfl, HA, HK1, ⟨m1, rfl⟩⟩ := hrel
  cases gk with
  | zero => exact absurd HA.out (by simp [spec_IsAscending.l0])
  | succ k1 =>
   have H := HA.out
   clear HA
   simp only [spec_IsAscending.l0] at H
   replace H := gi H; obtain ⟨c2b0, H⟩ | ⟨c2b0, H⟩ := H
   ·obtain ⟨ji3, hji3⟩ : ∃ j_ : Int, (wrap64 (x3_1 - 1)) = j_ := ⟨_, rfl⟩
    replace H : (if 0 ≤ (ji3) then (if (ji3) < (l0.length : Int) then (if 0 ≤ x3_1 then (if (rd l0 (ji3)) ≥ (rd l0 x3_1) then (some false) else (spec_IsAscending.l0 k1 l0 (wrap64 (x3_1 + 1)))) else (none)) else (none)) else (none)) = some r := by first | (rw [hji3] at H; exact H) | (simp only [hji3] at H ⊢; exact H)
    have hji3w : (IntKind.i64.wrap (x3_1 - 1)) = ji3 := (i64_w _).trans hji3
    replace H := gd H; obtain ⟨c4b0, H⟩ := H
    replace H := gd H; obtain ⟨c5b0, H⟩ := H
    replace H := gd H; obtain ⟨c6b0, H⟩ := H
    replace H := gj H; obtain ⟨c7, H⟩ | ⟨c7, H⟩ := H
    ·have c7b0 : decide ((rd l0 x3_1) ≤ (rd l0 (ji3))) = true := decide_eq_true c7
     clear c7
     obtain rfl := Option.some.inj H
     obtain ⟨⟨ad106, e106, hx106_0⟩, p106, q106⟩ := pq (Kd.at_int HR0.out (ji3))
     cases e106
     obtain ⟨⟨ad107, e107, hx107_0⟩, p107, q107⟩ := pq (Kd.at_int HR0.out x3_1)
     obtain rfl : ad106 = ad107 := (by injection e107)
     go_wp2
     repeat (go_quiet (fail); try go_wp2)
     go_ret
     exact ⟨by first | rfl | (simp; done) | (simp only [← hji3] <;> (first | rfl | simp)) | (simp [*]; done), dw⟩
    have c7b0 : decide ((rd l0 x3_1) ≤ (rd l0 (ji3))) = false := decide_eq_false c7
    clear c7
    have H' := am H
    clear H
    obtain ⟨⟨ad106, e106, hx106_0⟩, p106, q106⟩ := pq (Kd.at_int HR0.out (ji3))
    cases e106
    obtain ⟨⟨ad107, e107, hx107_0⟩, p107, q107⟩ := pq (Kd.at_int HR0.out x3_1)
    obtain rfl : ad106 = ad107 := (by injection e107)
    go_wp2
    repeat (go_quiet (fail); try go_wp2)
    go_roundg k1
    case measure => have := HK1.out; omega
    case rel => exact ⟨(wrap64 (x3_1 + 1)), rr, H', ⟨by have := HK1.out; omega⟩, dw⟩
   obtain rfl := Option.some.inj H
   go_wp2
   repeat (go_quiet (fail); try go_wp2)
   go_ret
   exact ⟨rr, dw⟩


/-! ### spec_l2Small: function 47 -/
def spec_l2Small.f (a0 : Int) : Option (Bool) := (spec_l1In.f a0 (-1000000) 1000000).bind fun t108 => (some t108)
set_option maxHeartbeats 8000000 in
set_option maxRecDepth 100000 in
theorem spec_l2Small.calls (a0 : Int) (r : Bool) (w : World) (h : spec_l2Small.f a0 = some r) :
  Calls Tryd.prog 47 #[.int .i64 a0] w fun e w' => e = .returned (.bool r) ∧ Drawn0 w w' := by
 have H : ((spec_l1In.f a0 (-1000000) 1000000).bind fun t108 => (some t108)) = some r := h
 clear h
 replace H := ga H; obtain ⟨t108, A2, H⟩ := H
 obtain rfl := Option.some.inj H
 go_enter Tryd.func47, Tryd.ntmps47
 go_wp2_with (first | ((with_reducible refine gate_callee (f := 19) rfl ?_); refine goesL_ (some 4) rfl rfl Tryd.func19 (by kernel_rfl) rfl #[.int .i64 a0, .int .i64 (-1000000), .int .i64 1000000] rfl (by (try simp only [List.map_toArray, List.map_cons, List.map_nil]); first | done | rfl | (simp only [List.length_drop, List.length_take]; rfl)) ?_; (with_reducible refine (spec_l1In.calls a0 (-1000000) 1000000 t108 _ A2.out).mono ?_); rintro e w' ⟨rfl, ⟨nd, rfl⟩⟩; refine ⟨_, rfl, ?_⟩))
 go_ret
 exact ⟨rr, dw⟩


/-! ### spec_l1Max: function 48 -/
def spec_l1Max.f (a0 : Int) (a1 : Int) : Option (Int) := if a0 > a1 then (some a0) else (some a1)
set_option maxHeartbeats 8000000 in
set_option maxRecDepth 100000 in
theorem spec_l1Max.calls (a0 : Int) (a1 : Int) (r : Int) (w : World) (h : spec_l1Max.f a0 a1 = some r) :
  Calls Tryd.prog 48 #[.int .i64 a0, .int .i64 a1] w fun e w' => e = .returned (.int .i64 r) ∧ Drawn0 w w' := by
 have H : (if a0 > a1 then (some a0) else (some a1)) = some r := h
 clear h
 replace H := gj H; obtain ⟨c3, H⟩ | ⟨c3, H⟩ := H
 ·have c3b0 : decide (a1 < a0) = true := decide_eq_true c3
  clear c3
  obtain rfl := Option.some.inj H
  go_enter Tryd.func48, Tryd.ntmps48
  go_wp2
  go_ret
  exact ⟨rr, dw⟩
 have c3b0 : decide (a1 < a0) = false := decide_eq_false c3
 clear c3
 obtain rfl := Option.some.inj H
 go_enter Tryd.func48, Tryd.ntmps48
 go_wp2
 go_ret
 exact ⟨rr, dw⟩


/-! ### spec_GcdOf: function 39 -/
mutual
def spec_GcdOf.j0 : Nat → Int → Int → Bool → Option (Int)
 | 0, _, _, _ => none
 | k + 1, x0, x1, x13 => if x13 = true then (some 0) else ((spec_l1Max.f x0 (wrap64 (-x0))).bind fun t111 => ((spec_l1Max.f x1 (wrap64 (-x1))).bind fun t112 => (spec_GcdOf.l0 k t111 t112)))
def spec_GcdOf.l0 : Nat → Int → Int → Option (Int)
 | 0, _, _ => none
 | k + 1, x0, x1 => if x1 > 0 then (if x1 = 0 then (none) else (spec_GcdOf.l0 k x1 (Int.tmod x0 x1))) else (some x0)
end
def spec_GcdOf.f (k : Nat) (a0 : Int) (a1 : Int) : Option (Int) := (spec_l2Small.f a0).bind fun t109 => (if t109 = true then ((spec_l2Small.f a1).bind fun t110 => (spec_GcdOf.j0 k a0 a1 (!t110))) else (spec_GcdOf.j0 k a0 a1 true))
set_option maxHeartbeats 8000000 in
set_option maxRecDepth 100000 in
theorem spec_GcdOf.calls (k : Nat) (a0 : Int) (a1 : Int) (r : Int) (w : World) (h : spec_GcdOf.f k a0 a1 = some r) :
  Calls Tryd.prog 39 #[.int .i64 a0, .int .i64 a1] w fun e w' => e = .returned (.int .i64 r) ∧ Drawn0 w w' := by
 have H : ((spec_l2Small.f a0).bind fun t109 => (if t109 = true then ((spec_l2Small.f a1).bind fun t110 => (spec_GcdOf.j0 k a0 a1 (!t110))) else (spec_GcdOf.j0 k a0 a1 true))) = some r := h
 clear h
 have HC3 := am H
 clear H
 go_enter Tryd.func39, Tryd.ntmps39
 go_upto_region 1 with (fail)
 go_cut [13] (fun v13 wc => ∃ (kq : Nat) (x13_2 : Bool), v13 = .bool x13_2 ∧ Aside0 (spec_GcdOf.j0 kq a0 a1 x13_2 = some r) ∧ Aside0 (kq ≤ k) ∧ Drawn0 w wc)
 case first =>
  have H := HC3.out
  clear HC3
  replace H := ga H; obtain ⟨t109, A4, H⟩ := H
  replace H := gb H; obtain ⟨rfl, H⟩ | ⟨rfl, H⟩ := H
  ·replace H := ga H; obtain ⟨t110, A6, H⟩ := H
   have H' := am H
   clear H
   go_wp2_with (first | ((with_reducible refine gate_callee (f := 47) rfl ?_); refine goesL_ (some 7) rfl rfl Tryd.func47 (by kernel_rfl) rfl #[.int .i64 a0] rfl (by (try simp only [List.map_toArray, List.map_cons, List.map_nil]); first | done | rfl | (simp only [List.length_drop, List.length_take]; rfl)) ?_; (with_reducible refine (spec_l2Small.calls a0 true _ A4.out).mono ?_); rintro e w' ⟨rfl, ⟨nd, rfl⟩⟩; refine ⟨_, rfl, ?_⟩) | (go_at_call 47; (with_reducible refine (spec_l2Small.calls a1 t110 _ A6.out).mono ?_); rintro e w' ⟨rfl, ⟨nd, rfl⟩⟩))
   go_meet
   case rel => exact ⟨_, (!t110), rr, H', ⟨om⟩, dw⟩
  have H' := am H
  clear H
  go_wp2_with (first | ((with_reducible refine gate_callee (f := 47) rfl ?_); refine goesL_ (some 7) rfl rfl Tryd.func47 (by kernel_rfl) rfl #[.int .i64 a0] rfl (by (try simp only [List.map_toArray, List.map_cons, List.map_nil]); first | done | rfl | (simp only [List.length_drop, List.length_take]; rfl)) ?_; (with_reducible refine (spec_l2Small.calls a0 false _ A4.out).mono ?_); rintro e w' ⟨rfl, ⟨nd, rfl⟩⟩; refine ⟨_, rfl, ?_⟩))
  go_meet
  case rel => exact ⟨_, (true), rr, H', ⟨om⟩, dw⟩
 case rest =>
  clear HC3
  obtain ⟨kq, x13_2, rfl, HA, HJ2, ⟨mc2, rfl⟩⟩ := hcut
  cases kq with
  | zero => exact absurd HA.out (by simp [spec_GcdOf.j0])
  | succ kj2 =>
   have H := HA.out
   clear HA
   simp only [spec_GcdOf.j0] at H
   replace H := gb H; obtain ⟨rfl, H⟩ | ⟨rfl, H⟩ := H
   ·obtain rfl := Option.some.inj H
    go_wp2
    go_ret
    exact ⟨rr, dw⟩
   replace H := ga H; obtain ⟨t111, A8, H⟩ := H
   replace H := ga H; obtain ⟨t112, A9, H⟩ := H
   have H' := am H
   clear H
   go_wp2_with (first | ((with_reducible refine gate_callee (f := 48) rfl ?_); refine goesL_ (some 17) rfl rfl Tryd.func48 (by kernel_rfl) rfl #[.int .i64 a0, .int .i64 (wrap64 (-a0))] rfl (by (try simp only [List.map_toArray, List.map_cons, List.map_nil]); first | done | rfl | (simp only [List.length_drop, List.length_take]; rfl)) ?_; (with_reducible refine (spec_l1Max.calls a0 (wrap64 (-a0)) t111 _ A8.out).mono ?_); rintro e w' ⟨rfl, ⟨nd, rfl⟩⟩; refine ⟨_, rfl, ?_⟩) | ((with_reducible refine gate_callee (f := 48) rfl ?_); refine goesL_ (some 21) rfl rfl Tryd.func48 (by kernel_rfl) rfl #[.int .i64 a1, .int .i64 (wrap64 (-a1))] rfl (by (try simp only [List.map_toArray, List.map_cons, List.map_nil]); first | done | rfl | (simp only [List.length_drop, List.length_take]; rfl)) ?_; (with_reducible refine (spec_l1Max.calls a1 (wrap64 (-a1)) t112 _ A9.out).mono ?_); rintro e w' ⟨rfl, ⟨nd, rfl⟩⟩; refine ⟨_, rfl, ?_⟩))
   go_loopg [0, 1] kj2 (fun kq v0 v1 w' => ∃ (x0_2 : Int) (x1_2 : Int), v0 = .int .i64 x0_2 ∧ v1 = .int .i64 x1_2 ∧ Aside0 (spec_GcdOf.l0 kq x0_2 x1_2 = some r) ∧ Aside0 (kq ≤ kj2) ∧ Drawn0 w w')
   case atStart => exact ⟨(t111), (t112), rr, rr, H', ⟨Nat.le_refl _⟩, dw⟩
   case round =>
    clear H'
    obtain ⟨x0_2, x1_2, rfl, rfl, HA, HK2, ⟨m2, rfl⟩⟩ := hrel
    cases gk with
    | zero => exact absurd HA.out (by simp [spec_GcdOf.l0])
    | succ k2 =>
     have H := HA.out
     clear HA
     simp only [spec_GcdOf.l0] at H
     replace H := gj H; obtain ⟨c10, H⟩ | ⟨c10, H⟩ := H
     ·have c10b0 : decide (0 < x1_2) = true := decide_eq_true c10
      clear c10
      by_cases c11 : x1_2 = 0
      ·rw [if_pos c11] at H
       exact absurd H (by simp)
      rw [if_neg c11] at H
      have c11b0 : (x1_2 == 0) = false := beq_eq_false_iff_ne.mpr c11
      have c11b1 : (x1_2 != 0) = true := bne_iff_ne.mpr c11
      have H' := am H
      clear H
      go_wp2
      go_roundg k2
      case measure => have := HJ2.out; have := HK2.out; omega
      case rel => exact ⟨(x1_2), (Int.tmod x0_2 x1_2), rr, rr, H', ⟨by have := HJ2.out; have := HK2.out; omega⟩, dw⟩
     have c10b0 : decide (0 < x1_2) = false := decide_eq_false c10
     clear c10
     obtain rfl := Option.some.inj H
     go_wp2
     go_ret
     exact ⟨rr, dw⟩


/-! ### spec_GcdOfList: function 26 -/
def spec_GcdOfList.l0 : Nat → List Int → Int → Int → Option (Int)
 | 0, _, _, _ => none
 | k + 1, x0, x3, x4 => if x4 < (x0.length : Int) then (if 0 ≤ x4 then ((spec_GcdOf.f k x3 (rd x0 x4)).bind fun t114 => (spec_GcdOfList.l0 k x0 t114 (wrap64 (x4 + 1)))) else (none)) else (some x3)
def spec_GcdOfList.f (k : Nat) (l0 : List Int) : Option (Int) := spec_GcdOfList.l0 k l0 0 0
set_option maxHeartbeats 8000000 in
set_option maxRecDepth 100000 in
theorem spec_GcdOfList.calls (k : Nat) (A0 : Option Addr) (c0 : Nat) (l0 : List Int) (r : Int) (w : World) (hr0 : Kd.C (Kd.int .i64) w A0 l0.length l0) (hc0 : l0.length ≤ c0) (h : spec_GcdOfList.f k l0 = some r) :
  Calls Tryd.prog 26 #[.slice A0 l0.length c0] w fun e w' => e = .returned (.int .i64 r) ∧ Drawn0 w w' := by
 have HR0 := am hr0
 have HC0 := am hc0
 clear hr0 hc0
 have H : (spec_GcdOfList.l0 k l0 0 0) = some r := h
 clear h
 have H' := am H
 clear H
 go_enter Tryd.func26, Tryd.ntmps26
 go_wp2
 go_loopg [3, 4] k (fun kq v3 v4 w' => ∃ (x3_1 : Int) (x4_1 : Int), v3 = .int .i64 x3_1 ∧ v4 = .int .i64 x4_1 ∧ Aside0 (spec_GcdOfList.l0 kq l0 x3_1 x4_1 = some r) ∧ Aside0 (kq ≤ k) ∧ Drawn0 w w')
 case atStart => exact ⟨(0), (0), rr, rr, H', ⟨Nat.le_refl _⟩, dw⟩
 case round =>
  clear H'
  obtain ⟨x3_1, x4_1, rfl, rfl, HA, HK1, ⟨m1, rfl⟩⟩ := hrel
  cases gk with
  | zero => exact absurd HA.out (by simp [spec_GcdOfList.l0])
  | succ k1 =>
   have H := HA.out
   clear HA
   simp only [spec_GcdOfList.l0] at H
   replace H := gi H; obtain ⟨c2b0, H⟩ | ⟨c2b0, H⟩ := H
   ·replace H := gd H; obtain ⟨c3b0, H⟩ := H
    replace H := ga H; obtain ⟨t114, A4, H⟩ := H
    have H' := am H
    clear H
    obtain ⟨⟨ad113, e113, hx113_0⟩, p113, q113⟩ := pq (Kd.at_int HR0.out x4_1)
    cases e113
    go_wp2_with (first | ((with_reducible refine gate_callee (f := 39) rfl ?_); refine goesL_ (some 16) rfl rfl Tryd.func39 (by kernel_rfl) rfl #[.int .i64 x3_1, .int .i64 (rd l0 x4_1)] rfl (by (try simp only [List.map_toArray, List.map_cons, List.map_nil]); first | done | rfl | (simp only [List.length_drop, List.length_take]; rfl)) ?_; (with_reducible refine (spec_GcdOf.calls k1 x3_1 (rd l0 x4_1) t114 _ A4.out).mono ?_); rintro e w' ⟨rfl, ⟨nd, rfl⟩⟩; refine ⟨_, rfl, ?_⟩))
    go_roundg k1
    case measure => have := HK1.out; omega
    case rel => exact ⟨(t114), (wrap64 (x4_1 + 1)), rr, rr, H', ⟨by have := HK1.out; omega⟩, dw⟩
   obtain rfl := Option.some.inj H
   go_wp2
   go_ret
   exact ⟨rr, dw⟩


/-! ### spec_l2Same: function 27 -/
def spec_l2Same.l0 : Nat → List Int → List Int → Int → Option (Bool)
 | 0, _, _, _ => none
 | k + 1, x0, x1, x5 => if x5 < (x0.length : Int) then (if 0 ≤ x5 then (if x5 < (x1.length : Int) then (if (rd x0 x5) = (rd x1 x5) then (spec_l2Same.l0 k x0 x1 (wrap64 (x5 + 1))) else (some false)) else (none)) else (none)) else (some true)
def spec_l2Same.f (k : Nat) (l0 : List Int) (l1 : List Int) : Option (Bool) := if (l0.length : Int) = (l1.length : Int) then (spec_l2Same.l0 k l0 l1 0) else (some false)
set_option maxHeartbeats 8000000 in
set_option maxRecDepth 100000 in
theorem spec_l2Same.calls (k : Nat) (A0 : Option Addr) (c0 : Nat) (l0 : List Int) (A1 : Option Addr) (c1 : Nat) (l1 : List Int) (r : Bool) (w : World) (hr0 : Kd.C (Kd.int .i64) w A0 l0.length l0) (hc0 : l0.length ≤ c0) (hr1 : Kd.C (Kd.int .i64) w A1 l1.length l1) (hc1 : l1.length ≤ c1) (h : spec_l2Same.f k l0 l1 = some r) :
  Calls Tryd.prog 27 #[.slice A0 l0.length c0, .slice A1 l1.length c1] w fun e w' => e = .returned (.bool r) ∧ Drawn0 w w' := by
 have HR0 := am hr0
 have HC0 := am hc0
 clear hr0 hc0
 have HR1 := am hr1
 have HC1 := am hc1
 clear hr1 hc1
 have H : (if (l0.length : Int) = (l1.length : Int) then (spec_l2Same.l0 k l0 l1 0) else (some false)) = some r := h
 clear h
 by_cases c3 : (l0.length : Int) = (l1.length : Int)
 ·rw [if_pos c3] at H
  have c3b0 : ((l0.length : Int) == (l1.length : Int)) = true := beq_iff_eq.mpr c3
  have c3b1 : ((l0.length : Int) != (l1.length : Int)) = false := bne_eq_false_iff_eq.mpr c3
  have c3b2 : (l0.length == l1.length) = true := by first | simpa using c3 | (simp at c3 ⊢; omega)
  clear c3
  have H' := am H
  clear H
  go_enter Tryd.func27, Tryd.ntmps27
  go_wp2
  repeat (go_quiet (fail); try go_wp2)
  go_loopg [5] k (fun kq v5 w' => ∃ (x5_1 : Int), v5 = .int .i64 x5_1 ∧ Aside0 (spec_l2Same.l0 kq l0 l1 x5_1 = some r) ∧ Aside0 (kq ≤ k) ∧ Drawn0 w w')
  case atStart => exact ⟨(0), rr, H', ⟨Nat.le_refl _⟩, dw⟩
  case round =>
   clear H'
   try clear c1; try clear c3; try clear c3b0; try clear c3b1; try clear c3b2
   obtain ⟨x5_1, rfl, HA, HK1, ⟨m1, rfl⟩⟩ := hrel
   cases gk with
   | zero => exact absurd HA.out (by simp [spec_l2Same.l0])
   | succ k1 =>
    have H := HA.out
    clear HA
    simp only [spec_l2Same.l0] at H
    replace H := gi H; obtain ⟨c4b0, H⟩ | ⟨c4b0, H⟩ := H
    ·replace H := gd H; obtain ⟨c5b0, H⟩ := H
     replace H := gd H; obtain ⟨c6b0, H⟩ := H
     by_cases c7 : (rd l0 x5_1) = (rd l1 x5_1)
     ·rw [if_pos c7] at H
      have c7b0 : ((rd l0 x5_1) == (rd l1 x5_1)) = true := beq_iff_eq.mpr c7
      have c7b1 : ((rd l0 x5_1) != (rd l1 x5_1)) = false := bne_eq_false_iff_eq.mpr c7
      clear c7
      have H' := am H
      clear H
      obtain ⟨⟨ad115, e115, hx115_0⟩, p115, q115⟩ := pq (Kd.at_int HR0.out x5_1)
      cases e115
      obtain ⟨⟨ad116, e116, hx116_0⟩, p116, q116⟩ := pq (Kd.at_int HR1.out x5_1)
      cases e116
      go_wp2
      repeat (go_quiet (fail); try go_wp2)
      go_roundg k1
      case measure => have := HK1.out; omega
      case rel => exact ⟨(wrap64 (x5_1 + 1)), rr, H', ⟨by have := HK1.out; omega⟩, dw⟩
     rw [if_neg c7] at H
     have c7b0 : ((rd l0 x5_1) == (rd l1 x5_1)) = false := beq_eq_false_iff_ne.mpr c7
     have c7b1 : ((rd l0 x5_1) != (rd l1 x5_1)) = true := bne_iff_ne.mpr c7
     obtain rfl := Option.some.inj H
     obtain ⟨⟨ad115, e115, hx115_0⟩, p115, q115⟩ := pq (Kd.at_int HR0.out x5_1)
     cases e115
     obtain ⟨⟨ad116, e116, hx116_0⟩, p116, q116⟩ := pq (Kd.at_int HR1.out x5_1)
     cases e116
     go_wp2
     repeat (go_quiet (fail); try go_wp2)
     go_ret
     exact ⟨rr, dw⟩
    obtain rfl := Option.some.inj H
    go_wp2
    repeat (go_quiet (fail); try go_wp2)
    go_ret
    exact ⟨rr, dw⟩
 rw [if_neg c3] at H
 have c3b0 : ((l0.length : Int) == (l1.length : Int)) = false := beq_eq_false_iff_ne.mpr c3
 have c3b1 : ((l0.length : Int) != (l1.length : Int)) = true := bne_iff_ne.mpr c3
 have c3b2 : (l0.length == l1.length) = false := by first | simpa using c3 | (simp at c3 ⊢; omega)
 obtain rfl := Option.some.inj H
 go_enter Tryd.func27, Tryd.ntmps27
 go_wp2
 repeat (go_quiet (fail); try go_wp2)
 go_ret
 exact ⟨rr, dw⟩


/-! ### spec_SortList: function 40 -/
mutual
def spec_SortList.l0 : Nat → List Int → List Int → Int → Option (List Int)
 | 0, _, _, _ => none
 | k + 1, x0, x3, x4 => if x4 < (x0.length : Int) then (spec_SortList.l1 k x0 x3 x4 (x3.length : Int)) else (some x3)
def spec_SortList.l1 : Nat → List Int → List Int → Int → Int → Option (List Int)
 | 0, _, _, _, _ => none
 | k + 1, x0, x3, x4, x5 => if x5 > 0 then (if 0 ≤ (wrap64 (x5 - 1)) then (if (wrap64 (x5 - 1)) < (x3.length : Int) then (if 0 ≤ x4 then (if x4 < (x0.length : Int) then (if (rd x3 (wrap64 (x5 - 1))) > (rd x0 x4) then (spec_SortList.l1 k x0 x3 x4 (wrap64 (x5 - 1))) else (if (rd x3 (wrap64 (x5 - 1))) = (rd x0 x4) then (spec_SortList.l0 k x0 x3 (wrap64 (x4 + 1))) else ((some (([] : List Int) : List Int)).bind fun y124 => (if 0 ≤ x5 then (if x5 ≤ (x3.length : Int) then ((some (x3.drop (x5 : Int).toNat : List Int)).bind fun y127 => (if y124.length + y127.length < 17592186044416 then ((some (y124 ++ y127 : List Int)).bind fun y131 => ((some (x3.take (x5 : Int).toNat : List Int)).bind fun y134 => (if y134.length < 17592186044416 then ((some (y134 ++ [rd x0 x4] : List Int)).bind fun y138 => (if y138.length + y131.length < 17592186044416 then (spec_SortList.l0 k x0 (y138 ++ y131) (wrap64 (x4 + 1))) else (none))) else (none)))) else (none))) else (none)) else (none))))) else (none)) else (none)) else (none)) else (none)) else ((some (([] : List Int) : List Int)).bind fun y144 => (if 0 ≤ x5 then (if x5 ≤ (x3.length : Int) then ((some (x3.drop (x5 : Int).toNat : List Int)).bind fun y147 => (if y144.length + y147.length < 17592186044416 then ((some (y144 ++ y147 : List Int)).bind fun y151 => ((some (x3.take (x5 : Int).toNat : List Int)).bind fun y154 => (if 0 ≤ x4 then (if x4 < (x0.length : Int) then (if y154.length < 17592186044416 then ((some (y154 ++ [rd x0 x4] : List Int)).bind fun y158 => (if y158.length + y151.length < 17592186044416 then (spec_SortList.l0 k x0 (y158 ++ y151) (wrap64 (x4 + 1))) else (none))) else (none)) else (none)) else (none)))) else (none))) else (none)) else (none)))
end
def spec_SortList.f (k : Nat) (l0 : List Int) : Option (List Int) := spec_SortList.l0 k l0 (([] : List Int)) 0
def spec_SortList.T6 : Bool × List (List Nat × List Nat) := (true, [([], []), ([0], [0]), ([1], [1]), ([2], [2]), ([2], [2]), ([4, 2], [2, 4]), ([3, 5, 2], [2, 3, 5]), ([6, 2], [2, 6]), ([2], [2]), ([2], [2]), ([8, 9, 2], [2, 8, 9]), ([10, 2], [2, 10]), ([7, 11, 2], [2, 7, 11]), ([2, 12], [2, 12])])
def spec_SortList.B6 : List Nat := [0, 1, 3, 7, 7, 23, 63, 127, 7, 7, 775, 1799, 4095, 8191]
theorem spec_SortList.tab6 : rtab .any (opsOf Tryd.f40 6) = spec_SortList.T6 := by kernel_rfl
theorem spec_SortList.bits6 : waitsOk spec_SortList.T6.2 spec_SortList.B6 = true := by kernel_rfl
def spec_SortList.T8 : Bool × List (List Nat × List Nat) := (true, [([], []), ([0], [0]), ([1], [1]), ([2], [2]), ([2], [2]), ([4, 2], [2, 4]), ([3, 5, 2], [2, 3, 5]), ([6, 2], [2, 6]), ([2], [2]), ([2], [2]), ([8, 9, 2], [2, 8, 9]), ([10, 2], [2, 10]), ([7, 11, 2], [2, 7, 11]), ([2, 12], [2, 12])])
def spec_SortList.B8 : List Nat := [0, 1, 3, 7, 7, 23, 63, 127, 7, 7, 775, 1799, 4095, 8191]
theorem spec_SortList.tab8 : rtab .any (opsOf Tryd.f40 8) = spec_SortList.T8 := by kernel_rfl
theorem spec_SortList.bits8 : waitsOk spec_SortList.T8.2 spec_SortList.B8 = true := by kernel_rfl
def spec_SortList.T10 : Bool × List (List Nat × List Nat) := (true, [([], []), ([], []), ([0, 1], [0, 1]), ([], []), ([], []), ([3, 4], [3, 4]), ([5], [5]), ([6], [6]), ([2, 7], [2, 7]), ([], []), ([8, 9, 8], [8, 9]), ([10, 10, 0, 1, 2, 3, 4, 5, 6, 7, 8, 9, 10], [0, 10])])
def spec_SortList.B10 : List Nat := [0, 0, 3, 0, 0, 24, 56, 120, 255, 0, 1023, 2047]
theorem spec_SortList.tab10 : rtab .any (opsOf Tryd.f40 10) = spec_SortList.T10 := by kernel_rfl
theorem spec_SortList.bits10 : waitsOk spec_SortList.T10.2 spec_SortList.B10 = true := by kernel_rfl
set_option maxHeartbeats 8000000 in
set_option maxRecDepth 100000 in
theorem spec_SortList.calls (k : Nat) (A0 : Option Addr) (c0 : Nat) (l0 : List Int) (r : List Int) (w : World) (hr0 : Kd.C (Kd.int .i64) w A0 l0.length l0) (hc0 : l0.length ≤ c0) (h : spec_SortList.f k l0 = some r) :
  Calls Tryd.prog 40 #[.slice A0 l0.length c0] w fun e w' => ∃ v0_ : Value, e = .returned (v0_) ∧ Kd.R (Kd.int .i64) 3 w' w.heap.size (fun _ => True) v0_ r ∧ Below w.heap.size w w' := by
 have HR0 := am hr0
 have HC0 := am hc0
 clear hr0 hc0
 have HB := am (Below.refl w.heap.size w)
 have H : (spec_SortList.l0 k l0 (([] : List Int)) 0) = some r := h
 clear h
 obtain ⟨y117, hy117⟩ : ∃ y_ : List Int, y_ = (([] : List Int)) := ⟨_, rfl⟩
 replace H : (spec_SortList.l0 k l0 y117 0) = some r := by first | (rw [hy117]; with_reducible first | exact H | exact bs H) | (with_reducible first | exact bs H | exact H) | (rw [hy117]; exact H) | exact H
 have Ny117 := am hy117
 clear hy117
 have H' := am H
 clear H
 go_enter Tryd.func40, Tryd.ntmps40
 go_wp2_with (first | ((with_reducible refine gate_dst (N := 7) rfl ?_); refine Kd.R_lit (Kd.int .i64) _ 3 ?hg (N := 7) ?hd (xs := ([] : List Int)) (inner := []) (ok := fun _ => True) (okp := fun _ => True) ?hr ?hp (fun _ hk => hk) trivial (Below.refl _ _) (Nat.le_refl _) (by simp) ?_; (case hd => rfl); (case hg => rfl); (case hr => first | (go_simp; done) | (go_simp; rfl)); (case hp => exact (Reps.none _ _)); intro v118 w2 ho3 hb hg_ hnew_; clear hg_ hnew_; (first | rw [← Ny117.out] at ho3 | (simp only [Int.reduceToNat] at ho3; rw [← Ny117.out] at ho3)); have HO119 := am (Kd.R_lower ho3 (below_size bw)); replace HB := am (below_step bw hb); clear hb ho3))
 go_loopg [3, 4] k (fun kq v3 v4 w' => ∃ (x3_1 : List Int) (x4_1 : Int), v4 = .int .i64 x4_1 ∧ Aside0 (spec_SortList.l0 kq l0 x3_1 x4_1 = some r) ∧ Aside0 (kq ≤ k) ∧ Aside0 (Kd.R (Kd.int .i64) 3 w' w.heap.size (fun _ => True) v3 x3_1) ∧ Aside0 (Below w.heap.size w w'))
 case atStart => exact ⟨(y117), (0), rr, H', ⟨Nat.le_refl _⟩, ⟨ro HO119.out⟩, ⟨bw⟩⟩
 case round =>
  clear H'
  obtain ⟨x3_1, x4_1, rfl, HA, HK1, HO_3, HB⟩ := hrel
  cases gk with
  | zero => exact absurd HA.out (by simp [spec_SortList.l0])
  | succ k1 =>
   have H := HA.out
   clear HA
   simp only [spec_SortList.l0] at H
   replace H := gi H; obtain ⟨c4b0, H⟩ | ⟨c4b0, H⟩ := H
   ·have H' := am H
    clear H
    obtain ⟨Ao5, co5, eo5⟩ := Kd.R_slice HO_3.out
    subst eo5
    go_wp2
    go_loopg [5] k1 (fun kq v5 w' => ∃ (x5_2 : Int), v5 = .int .i64 x5_2 ∧ Aside0 (spec_SortList.l1 kq l0 x3_1 x4_1 x5_2 = some r) ∧ Aside0 (kq ≤ k1) ∧ Aside0 (Kd.R (Kd.int .i64) 3 w' w.heap.size (fun _ => True) (.slice Ao5 x3_1.length co5) x3_1) ∧ Aside0 (Below w.heap.size w w'))
    case atStart => exact ⟨((x3_1.length : Int)), rr, H', ⟨Nat.le_refl _⟩, ⟨ro HO_3.out⟩, ⟨bw⟩⟩
    case round =>
     clear H'
     try clear c4b0
     obtain ⟨x5_2, rfl, HA, HK2, HO_3, HB⟩ := hrel
     cases gk with
     | zero => exact absurd HA.out (by simp [spec_SortList.l1])
     | succ k2 =>
      have H := HA.out
      clear HA
      simp only [spec_SortList.l1] at H
      replace H := gj H; obtain ⟨c6, H⟩ | ⟨c6, H⟩ := H
      ·have c6b0 : decide (0 < x5_2) = true := decide_eq_true c6
       clear c6
       obtain ⟨ji7, hji7⟩ : ∃ j_ : Int, (wrap64 (x5_2 - 1)) = j_ := ⟨_, rfl⟩
       replace H : (if 0 ≤ (ji7) then (if (ji7) < (x3_1.length : Int) then (if 0 ≤ x4_1 then (if x4_1 < (l0.length : Int) then (if (rd x3_1 (ji7)) > (rd l0 x4_1) then (spec_SortList.l1 k2 l0 x3_1 x4_1 ji7) else (if (rd x3_1 (ji7)) = (rd l0 x4_1) then (spec_SortList.l0 k2 l0 x3_1 (wrap64 (x4_1 + 1))) else ((some (([] : List Int) : List Int)).bind fun y124 => (if 0 ≤ x5_2 then (if x5_2 ≤ (x3_1.length : Int) then ((some (x3_1.drop (x5_2 : Int).toNat : List Int)).bind fun y127 => (if y124.length + y127.length < 17592186044416 then ((some (y124 ++ y127 : List Int)).bind fun y131 => ((some (x3_1.take (x5_2 : Int).toNat : List Int)).bind fun y134 => (if y134.length < 17592186044416 then ((some (y134 ++ [rd l0 x4_1] : List Int)).bind fun y138 => (if y138.length + y131.length < 17592186044416 then (spec_SortList.l0 k2 l0 (y138 ++ y131) (wrap64 (x4_1 + 1))) else (none))) else (none)))) else (none))) else (none)) else (none))))) else (none)) else (none)) else (none)) else (none)) = some r := by first | (rw [hji7] at H; exact H) | (simp only [hji7] at H ⊢; exact H)
       have hji7w : (IntKind.i64.wrap (x5_2 - 1)) = ji7 := (i64_w _).trans hji7
       replace H := gd H; obtain ⟨c8b0, H⟩ := H
       replace H := gd H; obtain ⟨c9b0, H⟩ := H
       replace H := gd H; obtain ⟨c10b0, H⟩ := H
       replace H := gd H; obtain ⟨c11b0, H⟩ := H
       replace H := gj H; obtain ⟨c12, H⟩ | ⟨c12, H⟩ := H
       ·have c12b0 : decide ((rd l0 x4_1) < (rd x3_1 (ji7))) = true := decide_eq_true c12
        clear c12
        have H' := am H
        clear H
        try go_wp2
        replace HO_3 := am (Kd.R_drew HO_3.out)
        replace HB := am (below_drew1 HB.out)
        obtain ⟨⟨ad120, e120, hx120_0⟩, p120, q120⟩ := pq (Kd.at_int (Kd.R_reads' HO_3.out).2.2 (ji7))
        cases e120
        obtain ⟨⟨ad121, e121, hx121_0⟩, p121, q121⟩ := pq (Kd.at_int HR0.out x4_1)
        have hw121_0 := hx121_0
        cases e121
        replace hx121_0 := hw HB hx121_0
        refine start_ (n := 14) (S := fun w' => w'.cell? (ad120.add ((ji7)).toNat) = some (.int .i64 (rd x3_1 (ji7))) ∧ w'.cell? (ad121.add (x4_1).toNat) = some (.int .i64 (rd l0 x4_1))) (ds := []) (yz 14 0) (by kernel_rfl) rfl rfl ⟨hx120_0, ((HB.out.cell (World.block_lt_of_cell? w _ hw121_0)).trans hw121_0)⟩ (fun hHeld => ?_); refine with_tabW spec_SortList.tab6 spec_SortList.bits6 (fun HT_ HW_ => ?_)
        generalize wr.drew = w13 at HO_3 HB hx120_0 hx121_0 hHeld ⊢
        refine pa 0 (some 16) (yz 14 1) HT_ ?_
        refine pa 1 (some 17) (yz 14 3) HT_ ?_
        refine pa 2 (some 18) (yz 14 7) HT_ ?_
        refine pa 3 (some 19) (yz 14 15) HT_ ?_
        refine pa 4 (some 20) (yz 14 31) HT_ ?_
        refine pa 5 (some 21) (yz 14 63) HT_ ?_
        refine pa 6 (some 22) (yz 14 127) HT_ ?_
        refine pa 8 (some 24) (yz 14 383) HT_ ?_
        refine pa 9 (some 25) (yz 14 895) HT_ ?_
        refine pa 10 (some 26) (yz 14 1919) HT_ ?_
        refine tk 7 (some 23) (yz 14 2047) HT_ HW_ hHeld ?_
        refine tk 11 (some 27) (yz 14 4095) HT_ HW_ hHeld ?_
        refine pa 12 (some 28) (yz 14 8191) HT_ ?_
        refine pa 13 (some 29) (yz 14 16383) HT_ ?_
        refine done_ (done_of HT_.out (by kernel_rfl)) ?_
        try go_wp2
        go_roundg k2
        case measure => have := HK1.out; have := HK2.out; omega
        case rel => exact ⟨(ji7), (by first | rfl | (simp; done) | (simp only [← hji7] <;> (first | rfl | simp)) | (simp [*]; done)), H', ⟨by have := HK1.out; have := HK2.out; omega⟩, ⟨ro HO_3.out⟩, ⟨bw⟩⟩
       have c12b0 : decide ((rd l0 x4_1) < (rd x3_1 (ji7))) = false := decide_eq_false c12
       clear c12
       by_cases c14 : (rd x3_1 (ji7)) = (rd l0 x4_1)
       ·rw [if_pos c14] at H
        have c14b0 : ((rd x3_1 (ji7)) == (rd l0 x4_1)) = true := beq_iff_eq.mpr c14
        have c14b1 : ((rd x3_1 (ji7)) != (rd l0 x4_1)) = false := bne_eq_false_iff_eq.mpr c14
        clear c14
        have H' := am H
        clear H
        try go_wp2
        replace HO_3 := am (Kd.R_drew HO_3.out)
        replace HB := am (below_drew1 HB.out)
        obtain ⟨⟨ad120, e120, hx120_0⟩, p120, q120⟩ := pq (Kd.at_int (Kd.R_reads' HO_3.out).2.2 (ji7))
        cases e120
        obtain ⟨⟨ad121, e121, hx121_0⟩, p121, q121⟩ := pq (Kd.at_int HR0.out x4_1)
        have hw121_0 := hx121_0
        cases e121
        replace hx121_0 := hw HB hx121_0
        refine start_ (n := 14) (S := fun w' => w'.cell? (ad120.add ((ji7)).toNat) = some (.int .i64 (rd x3_1 (ji7))) ∧ w'.cell? (ad121.add (x4_1).toNat) = some (.int .i64 (rd l0 x4_1))) (ds := []) (yz 14 0) (by kernel_rfl) rfl rfl ⟨hx120_0, ((HB.out.cell (World.block_lt_of_cell? w _ hw121_0)).trans hw121_0)⟩ (fun hHeld => ?_); refine with_tabW spec_SortList.tab6 spec_SortList.bits6 (fun HT_ HW_ => ?_)
        generalize wr.drew = w15 at HO_3 HB hx120_0 hx121_0 hHeld ⊢
        refine pa 0 (some 16) (yz 14 1) HT_ ?_
        refine pa 1 (some 17) (yz 14 3) HT_ ?_
        refine pa 2 (some 18) (yz 14 7) HT_ ?_
        refine pa 3 (some 19) (yz 14 15) HT_ ?_
        refine pa 4 (some 20) (yz 14 31) HT_ ?_
        refine pa 5 (some 21) (yz 14 63) HT_ ?_
        refine pa 6 (some 22) (yz 14 127) HT_ ?_
        refine pa 8 (some 24) (yz 14 383) HT_ ?_
        refine pa 9 (some 25) (yz 14 895) HT_ ?_
        refine pa 10 (some 26) (yz 14 1919) HT_ ?_
        refine tk 7 (some 23) (yz 14 2047) HT_ HW_ hHeld ?_
        refine tk 11 (some 27) (yz 14 4095) HT_ HW_ hHeld ?_
        refine pa 12 (some 28) (yz 14 8191) HT_ ?_
        refine pa 13 (some 29) (yz 14 16383) HT_ ?_
        refine done_ (done_of HT_.out (by kernel_rfl)) ?_
        try go_wp2
        replace HO_3 := am (Kd.R_drew HO_3.out)
        replace HB := am (below_drew1 HB.out)
        obtain ⟨⟨ad122, e122, hx122_0⟩, p122, q122⟩ := pq (Kd.at_int (Kd.R_reads' HO_3.out).2.2 (ji7))
        obtain rfl : ad120 = ad122 := (by injection e122)
        obtain ⟨⟨ad123, e123, hx123_0⟩, p123, q123⟩ := pq (Kd.at_int HR0.out x4_1)
        have hw123_0 := hx123_0
        obtain rfl : ad121 = ad123 := (by injection e123)
        replace hx123_0 := hw HB hx123_0
        refine start_ (n := 14) (S := fun w' => w'.cell? (ad120.add ((ji7)).toNat) = some (.int .i64 (rd x3_1 (ji7))) ∧ w'.cell? (ad121.add (x4_1).toNat) = some (.int .i64 (rd l0 x4_1))) (ds := []) (yz 14 0) (by kernel_rfl) rfl rfl ⟨hx122_0, ((HB.out.cell (World.block_lt_of_cell? w _ hw123_0)).trans hw123_0)⟩ (fun hHeld => ?_); refine with_tabW spec_SortList.tab8 spec_SortList.bits8 (fun HT_ HW_ => ?_)
        generalize w15.drew = w16 at HO_3 HB hx122_0 hx123_0 hHeld ⊢
        refine pa 0 (some 32) (yz 14 1) HT_ ?_
        refine pa 1 (some 33) (yz 14 3) HT_ ?_
        refine pa 2 (some 34) (yz 14 7) HT_ ?_
        refine pa 3 (some 35) (yz 14 15) HT_ ?_
        refine pa 4 (some 36) (yz 14 31) HT_ ?_
        refine pa 5 (some 37) (yz 14 63) HT_ ?_
        refine pa 6 (some 38) (yz 14 127) HT_ ?_
        refine pa 8 (some 40) (yz 14 383) HT_ ?_
        refine pa 9 (some 41) (yz 14 895) HT_ ?_
        refine pa 10 (some 42) (yz 14 1919) HT_ ?_
        refine tk 7 (some 39) (yz 14 2047) HT_ HW_ hHeld ?_
        refine tk 11 (some 43) (yz 14 4095) HT_ HW_ hHeld ?_
        refine pa 12 (some 44) (yz 14 8191) HT_ ?_
        refine pa 13 (some 45) (yz 14 16383) HT_ ?_
        refine done_ (done_of HT_.out (by kernel_rfl)) ?_
        try go_wp2
        go_roundg k2
        case measure => have := HK1.out; have := HK2.out; omega
        case rel => exact ⟨(x3_1), (wrap64 (x4_1 + 1)), rr, H', ⟨by have := HK1.out; have := HK2.out; omega⟩, ⟨ro HO_3.out⟩, ⟨bw⟩⟩
       rw [if_neg c14] at H
       have c14b0 : ((rd x3_1 (ji7)) == (rd l0 x4_1)) = false := beq_eq_false_iff_ne.mpr c14
       have c14b1 : ((rd x3_1 (ji7)) != (rd l0 x4_1)) = true := bne_iff_ne.mpr c14
       obtain ⟨y124, hy124⟩ : ∃ y_ : List Int, y_ = (([] : List Int)) := ⟨_, rfl⟩
       replace H : (if 0 ≤ x5_2 then (if x5_2 ≤ (x3_1.length : Int) then ((some (x3_1.drop (x5_2 : Int).toNat : List Int)).bind fun y127 => (if y124.length + y127.length < 17592186044416 then ((some (y124 ++ y127 : List Int)).bind fun y131 => ((some (x3_1.take (x5_2 : Int).toNat : List Int)).bind fun y134 => (if y134.length < 17592186044416 then ((some (y134 ++ [rd l0 x4_1] : List Int)).bind fun y138 => (if y138.length + y131.length < 17592186044416 then (spec_SortList.l0 k2 l0 (y138 ++ y131) (wrap64 (x4_1 + 1))) else (none))) else (none)))) else (none))) else (none)) else (none)) = some r := by first | (rw [hy124]; with_reducible first | exact H | exact bs H) | (with_reducible first | exact bs H | exact H) | (rw [hy124]; exact H) | exact H
       have Ny124 := am hy124
       clear hy124
       replace H := gp H; obtain ⟨c17, H⟩ := H
       have c17b0 := eq_true c17
       have c17b1 : decide (0 ≤ x5_2) = true := decide_eq_true c17
       clear c17
       replace H := gp H; obtain ⟨c18, H⟩ := H
       have c18b0 := eq_true c18
       have c18b1 : decide (x5_2 ≤ (x3_1.length : Int)) = true := decide_eq_true c18
       clear c18
       obtain ⟨y127, hy127⟩ : ∃ y_ : List Int, y_ = (x3_1.drop (x5_2 : Int).toNat) := ⟨_, rfl⟩
       replace H : (if y124.length + y127.length < 17592186044416 then ((some (y124 ++ y127 : List Int)).bind fun y131 => ((some (x3_1.take (x5_2 : Int).toNat : List Int)).bind fun y134 => (if y134.length < 17592186044416 then ((some (y134 ++ [rd l0 x4_1] : List Int)).bind fun y138 => (if y138.length + y131.length < 17592186044416 then (spec_SortList.l0 k2 l0 (y138 ++ y131) (wrap64 (x4_1 + 1))) else (none))) else (none)))) else (none)) = some r := by first | (rw [hy127]; with_reducible first | exact H | exact bs H) | (with_reducible first | exact bs H | exact H) | (rw [hy127]; exact H) | exact H
       have Ny127 := am hy127
       clear hy127
       by_cases c19 : y124.length + y127.length < 17592186044416
       rotate_left
       ·rw [if_neg c19] at H
        exact absurd H (by simp)
       rw [if_pos c19] at H
       have LMc19 := am c19
       clear c19
       obtain ⟨y131, hy131⟩ : ∃ y_ : List Int, y_ = (y124 ++ y127) := ⟨_, rfl⟩
       replace H : ((some (x3_1.take (x5_2 : Int).toNat : List Int)).bind fun y134 => (if y134.length < 17592186044416 then ((some (y134 ++ [rd l0 x4_1] : List Int)).bind fun y138 => (if y138.length + y131.length < 17592186044416 then (spec_SortList.l0 k2 l0 (y138 ++ y131) (wrap64 (x4_1 + 1))) else (none))) else (none))) = some r := by first | (rw [hy131]; with_reducible first | exact H | exact bs H) | (with_reducible first | exact bs H | exact H) | (rw [hy131]; exact H) | exact H
       have Ny131 := am hy131
       clear hy131
       have c20b0 := eq_true (of_decide_eq_true (by first | (with_reducible assumption) | assumption) : x5_2 ≤ (x3_1.length : Int))
       obtain ⟨y134, hy134⟩ : ∃ y_ : List Int, y_ = (x3_1.take (x5_2 : Int).toNat) := ⟨_, rfl⟩
       replace H : (if y134.length < 17592186044416 then ((some (y134 ++ [rd l0 x4_1] : List Int)).bind fun y138 => (if y138.length + y131.length < 17592186044416 then (spec_SortList.l0 k2 l0 (y138 ++ y131) (wrap64 (x4_1 + 1))) else (none))) else (none)) = some r := by first | (rw [hy134]; with_reducible first | exact H | exact bs H) | (with_reducible first | exact bs H | exact H) | (rw [hy134]; exact H) | exact H
       have Ny134 := am hy134
       clear hy134
       by_cases c21 : y134.length < 17592186044416
       rotate_left
       ·rw [if_neg c21] at H
        exact absurd H (by simp)
       rw [if_pos c21] at H
       have LMc21 := am c21
       clear c21
       obtain ⟨y138, hy138⟩ : ∃ y_ : List Int, y_ = (y134 ++ [rd l0 x4_1]) := ⟨_, rfl⟩
       replace H : (if y138.length + y131.length < 17592186044416 then (spec_SortList.l0 k2 l0 (y138 ++ y131) (wrap64 (x4_1 + 1))) else (none)) = some r := by first | (rw [hy138]; with_reducible first | exact H | exact bs H) | (with_reducible first | exact bs H | exact H) | (rw [hy138]; exact H) | exact H
       have Ny138 := am hy138
       clear hy138
       by_cases c22 : y138.length + y131.length < 17592186044416
       rotate_left
       ·rw [if_neg c22] at H
        exact absurd H (by simp)
       rw [if_pos c22] at H
       have LMc22 := am c22
       clear c22
       obtain ⟨y141, hy141⟩ : ∃ y_ : List Int, y_ = (y138 ++ y131) := ⟨_, rfl⟩
       replace H : (spec_SortList.l0 k2 l0 y141 (wrap64 (x4_1 + 1))) = some r := by first | (rw [hy141]; with_reducible first | exact H | exact bs H) | (with_reducible first | exact bs H | exact H) | (rw [hy141]; exact H) | exact H
       have Ny141 := am hy141
       clear hy141
       have H' := am H
       clear H
       try go_wp2
       replace HO_3 := am (Kd.R_drew HO_3.out)
       replace HB := am (below_drew1 HB.out)
       obtain ⟨⟨ad120, e120, hx120_0⟩, p120, q120⟩ := pq (Kd.at_int (Kd.R_reads' HO_3.out).2.2 (ji7))
       cases e120
       obtain ⟨⟨ad121, e121, hx121_0⟩, p121, q121⟩ := pq (Kd.at_int HR0.out x4_1)
       have hw121_0 := hx121_0
       cases e121
       replace hx121_0 := hw HB hx121_0
       refine start_ (n := 14) (S := fun w' => w'.cell? (ad120.add ((ji7)).toNat) = some (.int .i64 (rd x3_1 (ji7))) ∧ w'.cell? (ad121.add (x4_1).toNat) = some (.int .i64 (rd l0 x4_1))) (ds := []) (yz 14 0) (by kernel_rfl) rfl rfl ⟨hx120_0, ((HB.out.cell (World.block_lt_of_cell? w _ hw121_0)).trans hw121_0)⟩ (fun hHeld => ?_); refine with_tabW spec_SortList.tab6 spec_SortList.bits6 (fun HT_ HW_ => ?_)
       generalize wr.drew = w23 at HO_3 HB hx120_0 hx121_0 hHeld ⊢
       refine pa 0 (some 16) (yz 14 1) HT_ ?_
       refine pa 1 (some 17) (yz 14 3) HT_ ?_
       refine pa 2 (some 18) (yz 14 7) HT_ ?_
       refine pa 3 (some 19) (yz 14 15) HT_ ?_
       refine pa 4 (some 20) (yz 14 31) HT_ ?_
       refine pa 5 (some 21) (yz 14 63) HT_ ?_
       refine pa 6 (some 22) (yz 14 127) HT_ ?_
       refine pa 8 (some 24) (yz 14 383) HT_ ?_
       refine pa 9 (some 25) (yz 14 895) HT_ ?_
       refine pa 10 (some 26) (yz 14 1919) HT_ ?_
       refine tk 7 (some 23) (yz 14 2047) HT_ HW_ hHeld ?_
       refine tk 11 (some 27) (yz 14 4095) HT_ HW_ hHeld ?_
       refine pa 12 (some 28) (yz 14 8191) HT_ ?_
       refine pa 13 (some 29) (yz 14 16383) HT_ ?_
       refine done_ (done_of HT_.out (by kernel_rfl)) ?_
       try go_wp2
       replace HO_3 := am (Kd.R_drew HO_3.out)
       replace HB := am (below_drew1 HB.out)
       obtain ⟨⟨ad122, e122, hx122_0⟩, p122, q122⟩ := pq (Kd.at_int (Kd.R_reads' HO_3.out).2.2 (ji7))
       obtain rfl : ad120 = ad122 := (by injection e122)
       obtain ⟨⟨ad123, e123, hx123_0⟩, p123, q123⟩ := pq (Kd.at_int HR0.out x4_1)
       have hw123_0 := hx123_0
       obtain rfl : ad121 = ad123 := (by injection e123)
       replace hx123_0 := hw HB hx123_0
       refine start_ (n := 14) (S := fun w' => w'.cell? (ad120.add ((ji7)).toNat) = some (.int .i64 (rd x3_1 (ji7))) ∧ w'.cell? (ad121.add (x4_1).toNat) = some (.int .i64 (rd l0 x4_1))) (ds := []) (yz 14 0) (by kernel_rfl) rfl rfl ⟨hx122_0, ((HB.out.cell (World.block_lt_of_cell? w _ hw123_0)).trans hw123_0)⟩ (fun hHeld => ?_); refine with_tabW spec_SortList.tab8 spec_SortList.bits8 (fun HT_ HW_ => ?_)
       generalize w23.drew = w24 at HO_3 HB hx122_0 hx123_0 hHeld ⊢
       refine pa 0 (some 32) (yz 14 1) HT_ ?_
       refine pa 1 (some 33) (yz 14 3) HT_ ?_
       refine pa 2 (some 34) (yz 14 7) HT_ ?_
       refine pa 3 (some 35) (yz 14 15) HT_ ?_
       refine pa 4 (some 36) (yz 14 31) HT_ ?_
       refine pa 5 (some 37) (yz 14 63) HT_ ?_
       refine pa 6 (some 38) (yz 14 127) HT_ ?_
       refine pa 8 (some 40) (yz 14 383) HT_ ?_
       refine pa 9 (some 41) (yz 14 895) HT_ ?_
       refine pa 10 (some 42) (yz 14 1919) HT_ ?_
       refine tk 7 (some 39) (yz 14 2047) HT_ HW_ hHeld ?_
       refine tk 11 (some 43) (yz 14 4095) HT_ HW_ hHeld ?_
       refine pa 12 (some 44) (yz 14 8191) HT_ ?_
       refine pa 13 (some 45) (yz 14 16383) HT_ ?_
       refine done_ (done_of HT_.out (by kernel_rfl)) ?_
       try go_wp2_with (first | ((with_reducible refine gate_dst (N := 46) rfl ?_); refine Kd.R_lit (Kd.int .i64) _ 3 ?hg (N := 46) ?hd (xs := ([] : List Int)) (inner := []) (ok := fun _ => True) (okp := fun _ => True) ?hr ?hp (fun _ hk => hk) trivial (Below.refl _ _) (Nat.le_refl _) (by simp) ?_; (case hd => rfl); (case hg => rfl); (case hr => first | (go_simp; done) | (go_simp; rfl)); (case hp => exact (Reps.none _ _)); intro v125 w25 ho26 hb hg_ hnew_; clear hg_ hnew_; (first | rw [← Ny124.out] at ho26 | (simp only [Int.reduceToNat] at ho26; rw [← Ny124.out] at ho26)); have HO126 := am (Kd.R_lower (Kd.R_new' ho26 (Kd.R_lt (ro HO_3.out))) (below_size bw)); replace HO_3 := am (Kd.R_elder' (ro HO_3.out) (Kd.R_base ho26) hb); replace HB := am (below_step bw hb); clear hb ho26; have q27 : (x5_2 : Int) ≤ ((x3_1.length : Int) : Int) := of_decide_eq_true (by first | (with_reducible assumption) | assumption); obtain ⟨i027, hi027, _, hsz27, _⟩ := info_parts info3; have hroom27 : x3_1.length ≤ co5 := (Kd.R_reads' HO_3.out).2.1; have hC27 : Kd.C (Kd.int .i64) _ (some ad120) x3_1.length x3_1 := (Kd.R_reads' HO_3.out).2.2; have q027 : (0 : Int) ≤ (x5_2 : Int) := of_decide_eq_true (by first | (with_reducible assumption) | assumption); have hcut27 := cut_from (P := Tryd.prog) 22 3 .i64 Tryd.underlying22 hi027 1 hsz27 (some ad120) x3_1.length co5 x5_2 q027 q27; have hr27 := Kd.C_drop (m := (x5_2 : Int).toNat) (c := co5) hC27 (by omega) hroom27; obtain ⟨A27, hA27⟩ : ∃ A1, A1 = (if co5 = (x5_2 : Int).toNat then (some ad120) else ((some ad120) : Option Addr).map (·.add ((x5_2 : Int).toNat * 1))) := ⟨_, rfl⟩; obtain ⟨c27, hc27⟩ : ∃ c1, c1 = co5 - (x5_2 : Int).toNat := ⟨_, rfl⟩; have hy27 : y127.length = x3_1.length - (x5_2 : Int).toNat := (by rw [Ny127.out, List.length_drop] <;> omega); rw [show (x3_1).drop (x5_2 : Int).toNat = y127 from Ny127.out.symm] at hr27; replace hr27 : Kd.C (Kd.int .i64) _ A27 y127.length y127 := (by rw [hA27]; exact hr27); rw [← hy27, ← hA27, ← hc27] at hcut27; have HR130 := am hr27; have HC130 := am (show y127.length ≤ c27 from by rw [hy27, hc27]; exact Nat.sub_le_sub_right hroom27 _); clear hr27 hC27 hroom27 hi027 hsz27 hc27; have KY27 := am hy27; have KA27 := am hA27; clear hy27 hA27; have KL27 := am (show (x5_2 : Int).toNat ≤ x3_1.length from by omega); replace q27 := eq_true q27) | ((with_reducible refine gate_builtin (b := .append) (xs := #[.tmp 46, .tmp 49]) rfl ?_); at_builtin; refine Kd.R_append_rows (Kd.int .i64) (w0 := w) w.heap.size rfl (.tmp 46) (.tmp 49) 22 3 (.int .i64 0) 8 rfl Tryd.underlying22 info3 rfl (by decide) (by omega) v125 y124 y127 _ _ _ (fun k_ => some k_ ≠ (.slice (some ad120) x3_1.length co5 : Value).ownBlock) (fun _ => False) rfl rfl ?aO ?aR (fun _ _ h => h) (fun _ h => h.elim) ?aF ?aB ?aS ?aL ?_; (case aR => exact co HR130.out); (case aB => exact bw); (case aF => exact (fun k_ hk => Kd.fresh' (Kd.R_lt (ro HO_3.out)) k_ hk)); (case aO => exact (by (with_reducible repeat (first | apply Kd.R_alloc | apply Kd.R_drewN | apply Kd.R_drew)); exact Kd.R_mono HO126.out (fun _ hk => hk.2))); (case aS => exact (below_size bw)); (case aL => have := LMc19.out; omega); intro v132 w28 ho hb hg hat; rw [← Ny131.out] at ho; replace HB := am (hb); replace HR130 := am ((show Kd.C (Kd.int .i64) w28 A27 y127.length y127 from by rw [Ny127.out, KA27.out]; exact Kd.C_drop (m := (x5_2 : Int).toNat) (c := co5) ((Kd.R_reads' (Kd.R_after (ok := (fun _ => True)) (ro HO_3.out) hg hat)).2.2) KL27.out ((Kd.R_reads' (Kd.R_after (ok := (fun _ => True)) (ro HO_3.out) hg hat)).2.1))); replace HO_3 := am (Kd.R_after (ok := (fun _ => True)) (ro HO_3.out) hg hat); have HO133 := am (ho); clear HO126 ho hb hg hat))
       replace HO_3 := am (Kd.R_drew HO_3.out)
       replace HO133 := am (Kd.R_drew HO133.out)
       replace HR130 := am (Kd.C_drew HR130.out)
       replace HB := am (below_drew1 HB.out)
       have q30 : (x5_2 : Int) ≤ ((x3_1.length : Int) : Int) := of_decide_eq_true (by first | (with_reducible assumption) | assumption)
       obtain ⟨i030, hi030, _, hsz30, _⟩ := info_parts info3
       have hcut30 := cut_to (P := Tryd.prog) 22 3 .i64 Tryd.underlying22 hi030 (some ad120) x3_1.length co5 x5_2 (of_decide_eq_true (by first | (with_reducible assumption) | assumption)) q30 (Kd.R_reads' HO_3.out).2.1
       have hr30 := Kd.R_take (m := (x5_2 : Int).toNat) HO_3.out (by omega)
       have hy30 : y134.length = (x5_2 : Int).toNat := (by rw [Ny134.out, List.length_take]; omega)
       rw [← Ny134.out] at hr30
       rw [← hy30] at hr30 hcut30
       clear hy30 hi030 hsz30 HO_3
       have HO136 := am hr30
       clear hr30
       replace q30 := eq_true q30
       obtain ⟨⟨ad137, e137, hx137_0⟩, p137, q137⟩ := pq (Kd.at_int HR0.out x4_1)
       have hw137_0 := hx137_0
       obtain rfl : ad121 = ad137 := (by injection e137)
       replace hx137_0 := hw HB hx137_0
       refine start_ (n := 12) (S := fun w' => w'.cell? (ad121.add (x4_1).toNat) = some (.int .i64 (rd l0 x4_1))) (ds := []) (yz 12 0) (by kernel_rfl) rfl rfl (((HB.out.cell (World.block_lt_of_cell? w _ hw137_0)).trans hw137_0)) (fun hHeld => ?_); refine with_tabW spec_SortList.tab10 spec_SortList.bits10 (fun HT_ HW_ => ?_)
       generalize w28.drew = w29 at HO_3 HO133 HR130 HB HO136 hx137_0 hHeld ⊢
       refine pa 0 (some 51) (yz 12 1) HT_ ?_
       refine pa 1 (some 52) (yz 12 3) HT_ ?_
       refine pa 2 (some 53) (yz 12 7) HT_ ?_
       refine pa 3 (some 54) (yz 12 15) HT_ ?_
       refine pa 4 (some 55) (yz 12 31) HT_ ?_
       refine pa 5 (some 56) (yz 12 63) HT_ ?_
       refine pa 9 (some 60) (yz 12 575) HT_ ?_
       refine tK 6 (some 57) (yz 12 639) HT_ HW_ hHeld ?_
       refine oa 7 (some 58) (yz 12 767) HT_ (fun K hK => ?_)
       refine value_ (w1 := ?_) (v := ?_) (by rfl) rfl ?_ ?_
       rotate_left 2
       ·go_simp
        constructor
        ·rfl
        rfl
       refine hK.out _ _ ((World.cell?_alloc_lt _ _ _ (World.block_lt_of_cell? _ _ (((HB.out.cell (World.block_lt_of_cell? w _ hw137_0)).trans hw137_0)))).trans (((HB.out.cell (World.block_lt_of_cell? w _ hw137_0)).trans hw137_0))) (fun hHeld => ?_)
       clear hK K
       refine nm (some 58) ?_
       refine oa 8 (some 59) (yz 12 1023) HT_ (fun K hK => ?_)
       refine Kd.R_append_step (Kd.int .i64) (w0 := w) w.heap.size (by rfl) (.tmp 53) (.tmp 58) 22 3 (.int .i64 0) 8 rfl Tryd.underlying22 info3 rfl (by decide) (by omega) (.slice (some ad120) y134.length co5) y134 (rd l0 x4_1) [.int .i64 (rd l0 x4_1)] (fun k_ => some k_ ≠ (v132 : Value).ownBlock) (fun _ => False) rfl rfl ?aP (fun _ hk => hk.elim) ?aF ?aO ?aB ?aS ?aL ?_
       (case aP => exact rfl)
       (case aB => exact bw)
       (case aF => exact (fun k_ hk => Kd.fresh' (Kd.R_lt (ro HO133.out)) k_ hk))
       (case aO => exact (by (with_reducible repeat (first | apply Kd.R_alloc | apply Kd.R_drewN | apply Kd.R_drew)); exact Kd.R_mono HO136.out (fun _ hk => hk.2)))
       (case aS => exact (below_size bw))
       (case aL => have := LMc21.out; omega)
       intro v139 w31 ho hb hg hat
       rw [← Ny138.out] at ho
       replace HO133 := am (Kd.R_after (ok := (fun _ => True)) (by (with_reducible repeat (first | apply Kd.R_alloc | apply Kd.R_drewN | apply Kd.R_drew)); exact Kd.R_mono HO133.out (fun _ hk => ⟨trivial, by first | exact hk | exact (by intro a n m c x h; cases a <;> exact h : ∀ (a : Option Addr) (n m c x : Nat), some x ≠ (Value.slice a n c).ownBlock → some x ≠ (Value.slice a m c).ownBlock) _ _ _ _ _ hk⟩)) hg hat)
       replace HB := am (hb)
       have HO140 := am (ho)
       clear HO136 ho hb hg hat
       obtain ⟨Ao33, co33, eo33⟩ := Kd.R_slice HO133.out
       (first | subst eo33 | (injection eo33 with f1_ f2_ f3_; have f4_ := f1_.symm; have f5_ := f3_.symm; clear f1_ f2_ f3_; subst f4_; subst f5_))
       refine hK.out _ _ (((HB.out.cell (World.block_lt_of_cell? w _ hw137_0)).trans hw137_0)) (fun hHeld => ?_)
       clear hK K
       refine nm (some 59) ?_
       refine oa 10 (some 61) (yz 12 2047) HT_ (fun K hK => ?_)
       refine Kd.R_append_rows_step (Kd.int .i64) (w0 := w) w.heap.size (by rfl) (.tmp 59) (.tmp 60) 22 3 (.int .i64 0) 8 rfl Tryd.underlying22 info3 rfl (by decide) (by omega) v139 y138 y131 _ _ _ (fun k_ => nb k_ Ao33 y131 co33) (fun _ => False) rfl rfl ?aO ?aR (fun _ _ h => h) (fun _ h => h.elim) ?aF ?aB ?aS ?aL ?_
       (case aR => exact co (Kd.R_reads' HO133.out).2.2)
       (case aB => exact bw)
       (case aF => exact (fun k_ hk => Kd.fresh' (Kd.R_lt (ro HO133.out)) k_ hk))
       (case aO => exact (ro HO140.out))
       (case aS => exact (below_size bw))
       (case aL => have := LMc22.out; omega)
       intro v142 w32 ho hb hg hat
       rw [← Ny141.out] at ho
       replace HO133 := am (Kd.R_after (ok := (fun _ => True)) (ro HO133.out) hg hat)
       replace HB := am (hb)
       have HO143 := am (ho)
       clear HO140 ho hb hg hat
       refine hK.out _ _ (((HB.out.cell (World.block_lt_of_cell? w _ hw137_0)).trans hw137_0)) (fun hHeld => ?_)
       clear hK K
       refine nm (some 61) ?_
       refine pa 11 (some 3) (yz 12 4095) HT_ ?_
       refine done_ (done_of HT_.out (by kernel_rfl)) ?_
       try go_wp2
       go_roundg k2
       case measure => have := HK1.out; have := HK2.out; omega
       case rel => exact ⟨(y141), (wrap64 (x4_1 + 1)), rr, H', ⟨by have := HK1.out; have := HK2.out; omega⟩, ⟨by (with_reducible repeat (first | apply Kd.R_alloc | apply Kd.R_drewN | apply Kd.R_drew)); exact Kd.R_mono HO143.out (fun _ hk => trivial)⟩, ⟨bw⟩⟩
      have c6b0 : decide (0 < x5_2) = false := decide_eq_false c6
      clear c6
      obtain ⟨y144, hy144⟩ : ∃ y_ : List Int, y_ = (([] : List Int)) := ⟨_, rfl⟩
      replace H : (if 0 ≤ x5_2 then (if x5_2 ≤ (x3_1.length : Int) then ((some (x3_1.drop (x5_2 : Int).toNat : List Int)).bind fun y147 => (if y144.length + y147.length < 17592186044416 then ((some (y144 ++ y147 : List Int)).bind fun y151 => ((some (x3_1.take (x5_2 : Int).toNat : List Int)).bind fun y154 => (if 0 ≤ x4_1 then (if x4_1 < (l0.length : Int) then (if y154.length < 17592186044416 then ((some (y154 ++ [rd l0 x4_1] : List Int)).bind fun y158 => (if y158.length + y151.length < 17592186044416 then (spec_SortList.l0 k2 l0 (y158 ++ y151) (wrap64 (x4_1 + 1))) else (none))) else (none)) else (none)) else (none)))) else (none))) else (none)) else (none)) = some r := by first | (rw [hy144]; with_reducible first | exact H | exact bs H) | (with_reducible first | exact bs H | exact H) | (rw [hy144]; exact H) | exact H
      have Ny144 := am hy144
      clear hy144
      replace H := gp H; obtain ⟨c34, H⟩ := H
      have c34b0 := eq_true c34
      have c34b1 : decide (0 ≤ x5_2) = true := decide_eq_true c34
      clear c34
      replace H := gp H; obtain ⟨c35, H⟩ := H
      have c35b0 := eq_true c35
      have c35b1 : decide (x5_2 ≤ (x3_1.length : Int)) = true := decide_eq_true c35
      clear c35
      obtain ⟨y147, hy147⟩ : ∃ y_ : List Int, y_ = (x3_1.drop (x5_2 : Int).toNat) := ⟨_, rfl⟩
      replace H : (if y144.length + y147.length < 17592186044416 then ((some (y144 ++ y147 : List Int)).bind fun y151 => ((some (x3_1.take (x5_2 : Int).toNat : List Int)).bind fun y154 => (if 0 ≤ x4_1 then (if x4_1 < (l0.length : Int) then (if y154.length < 17592186044416 then ((some (y154 ++ [rd l0 x4_1] : List Int)).bind fun y158 => (if y158.length + y151.length < 17592186044416 then (spec_SortList.l0 k2 l0 (y158 ++ y151) (wrap64 (x4_1 + 1))) else (none))) else (none)) else (none)) else (none)))) else (none)) = some r := by first | (rw [hy147]; with_reducible first | exact H | exact bs H) | (with_reducible first | exact bs H | exact H) | (rw [hy147]; exact H) | exact H
      have Ny147 := am hy147
      clear hy147
      by_cases c36 : y144.length + y147.length < 17592186044416
      rotate_left
      ·rw [if_neg c36] at H
       exact absurd H (by simp)
      rw [if_pos c36] at H
      have LMc36 := am c36
      clear c36
      obtain ⟨y151, hy151⟩ : ∃ y_ : List Int, y_ = (y144 ++ y147) := ⟨_, rfl⟩
      replace H : ((some (x3_1.take (x5_2 : Int).toNat : List Int)).bind fun y154 => (if 0 ≤ x4_1 then (if x4_1 < (l0.length : Int) then (if y154.length < 17592186044416 then ((some (y154 ++ [rd l0 x4_1] : List Int)).bind fun y158 => (if y158.length + y151.length < 17592186044416 then (spec_SortList.l0 k2 l0 (y158 ++ y151) (wrap64 (x4_1 + 1))) else (none))) else (none)) else (none)) else (none))) = some r := by first | (rw [hy151]; with_reducible first | exact H | exact bs H) | (with_reducible first | exact bs H | exact H) | (rw [hy151]; exact H) | exact H
      have Ny151 := am hy151
      clear hy151
      have c37b0 := eq_true (of_decide_eq_true (by first | (with_reducible assumption) | assumption) : x5_2 ≤ (x3_1.length : Int))
      obtain ⟨y154, hy154⟩ : ∃ y_ : List Int, y_ = (x3_1.take (x5_2 : Int).toNat) := ⟨_, rfl⟩
      replace H : (if 0 ≤ x4_1 then (if x4_1 < (l0.length : Int) then (if y154.length < 17592186044416 then ((some (y154 ++ [rd l0 x4_1] : List Int)).bind fun y158 => (if y158.length + y151.length < 17592186044416 then (spec_SortList.l0 k2 l0 (y158 ++ y151) (wrap64 (x4_1 + 1))) else (none))) else (none)) else (none)) else (none)) = some r := by first | (rw [hy154]; with_reducible first | exact H | exact bs H) | (with_reducible first | exact bs H | exact H) | (rw [hy154]; exact H) | exact H
      have Ny154 := am hy154
      clear hy154
      replace H := gd H; obtain ⟨c38b0, H⟩ := H
      replace H := gd H; obtain ⟨c39b0, H⟩ := H
      by_cases c40 : y154.length < 17592186044416
      rotate_left
      ·rw [if_neg c40] at H
       exact absurd H (by simp)
      rw [if_pos c40] at H
      have LMc40 := am c40
      clear c40
      obtain ⟨y158, hy158⟩ : ∃ y_ : List Int, y_ = (y154 ++ [rd l0 x4_1]) := ⟨_, rfl⟩
      replace H : (if y158.length + y151.length < 17592186044416 then (spec_SortList.l0 k2 l0 (y158 ++ y151) (wrap64 (x4_1 + 1))) else (none)) = some r := by first | (rw [hy158]; with_reducible first | exact H | exact bs H) | (with_reducible first | exact bs H | exact H) | (rw [hy158]; exact H) | exact H
      have Ny158 := am hy158
      clear hy158
      by_cases c41 : y158.length + y151.length < 17592186044416
      rotate_left
      ·rw [if_neg c41] at H
       exact absurd H (by simp)
      rw [if_pos c41] at H
      have LMc41 := am c41
      clear c41
      obtain ⟨y161, hy161⟩ : ∃ y_ : List Int, y_ = (y158 ++ y151) := ⟨_, rfl⟩
      replace H : (spec_SortList.l0 k2 l0 y161 (wrap64 (x4_1 + 1))) = some r := by first | (rw [hy161]; with_reducible first | exact H | exact bs H) | (with_reducible first | exact bs H | exact H) | (rw [hy161]; exact H) | exact H
      have Ny161 := am hy161
      clear hy161
      have H' := am H
      clear H
      try go_wp2
      replace HO_3 := am (Kd.R_drew HO_3.out)
      replace HB := am (below_drew1 HB.out)
      refine start_ (n := 14) (S := fun w' => True) (ds := []) (yz 14 0) (by kernel_rfl) rfl rfl trivial (fun hHeld => ?_); refine with_tabW spec_SortList.tab6 spec_SortList.bits6 (fun HT_ HW_ => ?_)
      generalize wr.drew = w42 at HO_3 HB hHeld ⊢
      refine pa 0 (some 16) (yz 14 1) HT_ ?_
      refine pa 1 (some 17) (yz 14 3) HT_ ?_
      refine pa 2 (some 18) (yz 14 7) HT_ ?_
      refine pu 3 (some 19) (yz 14 15) HT_ ?_
      refine pu 4 (some 20) (yz 14 31) HT_ ?_
      refine pu 5 (some 21) (yz 14 63) HT_ ?_
      refine pu 6 (some 22) (yz 14 127) HT_ ?_
      refine pu 7 (some 23) (yz 14 255) HT_ ?_
      refine pu 8 (some 24) (yz 14 511) HT_ ?_
      refine pu 9 (some 25) (yz 14 1023) HT_ ?_
      refine pu 10 (some 26) (yz 14 2047) HT_ ?_
      refine pu 11 (some 27) (yz 14 4095) HT_ ?_
      refine pu 12 (some 28) (yz 14 8191) HT_ ?_
      refine pa 13 (some 29) (yz 14 16383) HT_ ?_
      refine done_ (done_of HT_.out (by kernel_rfl)) ?_
      try go_wp2
      replace HO_3 := am (Kd.R_drew HO_3.out)
      replace HB := am (below_drew1 HB.out)
      refine start_ (n := 14) (S := fun w' => True) (ds := []) (yz 14 0) (by kernel_rfl) rfl rfl trivial (fun hHeld => ?_); refine with_tabW spec_SortList.tab8 spec_SortList.bits8 (fun HT_ HW_ => ?_)
      generalize w42.drew = w43 at HO_3 HB hHeld ⊢
      refine pa 0 (some 32) (yz 14 1) HT_ ?_
      refine pa 1 (some 33) (yz 14 3) HT_ ?_
      refine pa 2 (some 34) (yz 14 7) HT_ ?_
      refine pu 3 (some 35) (yz 14 15) HT_ ?_
      refine pu 4 (some 36) (yz 14 31) HT_ ?_
      refine pu 5 (some 37) (yz 14 63) HT_ ?_
      refine pu 6 (some 38) (yz 14 127) HT_ ?_
      refine pu 7 (some 39) (yz 14 255) HT_ ?_
      refine pu 8 (some 40) (yz 14 511) HT_ ?_
      refine pu 9 (some 41) (yz 14 1023) HT_ ?_
      refine pu 10 (some 42) (yz 14 2047) HT_ ?_
      refine pu 11 (some 43) (yz 14 4095) HT_ ?_
      refine pu 12 (some 44) (yz 14 8191) HT_ ?_
      refine pa 13 (some 45) (yz 14 16383) HT_ ?_
      refine done_ (done_of HT_.out (by kernel_rfl)) ?_
      try go_wp2_with (first | ((with_reducible refine gate_dst (N := 46) rfl ?_); refine Kd.R_lit (Kd.int .i64) _ 3 ?hg (N := 46) ?hd (xs := ([] : List Int)) (inner := []) (ok := fun _ => True) (okp := fun _ => True) ?hr ?hp (fun _ hk => hk) trivial (Below.refl _ _) (Nat.le_refl _) (by simp) ?_; (case hd => rfl); (case hg => rfl); (case hr => first | (go_simp; done) | (go_simp; rfl)); (case hp => exact (Reps.none _ _)); intro v145 w44 ho45 hb hg_ hnew_; clear hg_ hnew_; (first | rw [← Ny144.out] at ho45 | (simp only [Int.reduceToNat] at ho45; rw [← Ny144.out] at ho45)); have HO146 := am (Kd.R_lower (Kd.R_new' ho45 (Kd.R_lt (ro HO_3.out))) (below_size bw)); replace HO_3 := am (Kd.R_elder' (ro HO_3.out) (Kd.R_base ho45) hb); replace HB := am (below_step bw hb); clear hb ho45; have q46 : (x5_2 : Int) ≤ ((x3_1.length : Int) : Int) := of_decide_eq_true (by first | (with_reducible assumption) | assumption); obtain ⟨i046, hi046, _, hsz46, _⟩ := info_parts info3; have hroom46 : x3_1.length ≤ co5 := (Kd.R_reads' HO_3.out).2.1; have hC46 : Kd.C (Kd.int .i64) _ Ao5 x3_1.length x3_1 := (Kd.R_reads' HO_3.out).2.2; have q046 : (0 : Int) ≤ (x5_2 : Int) := of_decide_eq_true (by first | (with_reducible assumption) | assumption); have hcut46 := cut_from (P := Tryd.prog) 22 3 .i64 Tryd.underlying22 hi046 1 hsz46 Ao5 x3_1.length co5 x5_2 q046 q46; have hr46 := Kd.C_drop (m := (x5_2 : Int).toNat) (c := co5) hC46 (by omega) hroom46; obtain ⟨A46, hA46⟩ : ∃ A1, A1 = (if co5 = (x5_2 : Int).toNat then Ao5 else (Ao5 : Option Addr).map (·.add ((x5_2 : Int).toNat * 1))) := ⟨_, rfl⟩; obtain ⟨c46, hc46⟩ : ∃ c1, c1 = co5 - (x5_2 : Int).toNat := ⟨_, rfl⟩; have hy46 : y147.length = x3_1.length - (x5_2 : Int).toNat := (by rw [Ny147.out, List.length_drop] <;> omega); rw [show (x3_1).drop (x5_2 : Int).toNat = y147 from Ny147.out.symm] at hr46; replace hr46 : Kd.C (Kd.int .i64) _ A46 y147.length y147 := (by rw [hA46]; exact hr46); rw [← hy46, ← hA46, ← hc46] at hcut46; have HR150 := am hr46; have HC150 := am (show y147.length ≤ c46 from by rw [hy46, hc46]; exact Nat.sub_le_sub_right hroom46 _); clear hr46 hC46 hroom46 hi046 hsz46 hc46; have KY46 := am hy46; have KA46 := am hA46; clear hy46 hA46; have KL46 := am (show (x5_2 : Int).toNat ≤ x3_1.length from by omega); replace q46 := eq_true q46) | ((with_reducible refine gate_builtin (b := .append) (xs := #[.tmp 46, .tmp 49]) rfl ?_); at_builtin; refine Kd.R_append_rows (Kd.int .i64) (w0 := w) w.heap.size rfl (.tmp 46) (.tmp 49) 22 3 (.int .i64 0) 8 rfl Tryd.underlying22 info3 rfl (by decide) (by omega) v145 y144 y147 _ _ _ (fun k_ => nb k_ Ao5 x3_1 co5) (fun _ => False) rfl rfl ?aO ?aR (fun _ _ h => h) (fun _ h => h.elim) ?aF ?aB ?aS ?aL ?_; (case aR => exact co HR150.out); (case aB => exact bw); (case aF => exact (fun k_ hk => Kd.fresh' (Kd.R_lt (ro HO_3.out)) k_ hk)); (case aO => exact (by (with_reducible repeat (first | apply Kd.R_alloc | apply Kd.R_drewN | apply Kd.R_drew)); exact Kd.R_mono HO146.out (fun _ hk => hk.2))); (case aS => exact (below_size bw)); (case aL => have := LMc36.out; omega); intro v152 w47 ho hb hg hat; rw [← Ny151.out] at ho; replace HB := am (hb); replace HR150 := am ((show Kd.C (Kd.int .i64) w47 A46 y147.length y147 from by rw [Ny147.out, KA46.out]; exact Kd.C_drop (m := (x5_2 : Int).toNat) (c := co5) ((Kd.R_reads' (Kd.R_after (ok := (fun _ => True)) (ro HO_3.out) hg hat)).2.2) KL46.out ((Kd.R_reads' (Kd.R_after (ok := (fun _ => True)) (ro HO_3.out) hg hat)).2.1))); replace HO_3 := am (Kd.R_after (ok := (fun _ => True)) (ro HO_3.out) hg hat); have HO153 := am (ho); clear HO146 ho hb hg hat))
      replace HO_3 := am (Kd.R_drew HO_3.out)
      replace HO153 := am (Kd.R_drew HO153.out)
      replace HR150 := am (Kd.C_drew HR150.out)
      replace HB := am (below_drew1 HB.out)
      have q49 : (x5_2 : Int) ≤ ((x3_1.length : Int) : Int) := of_decide_eq_true (by first | (with_reducible assumption) | assumption)
      obtain ⟨i049, hi049, _, hsz49, _⟩ := info_parts info3
      have hcut49 := cut_to (P := Tryd.prog) 22 3 .i64 Tryd.underlying22 hi049 Ao5 x3_1.length co5 x5_2 (of_decide_eq_true (by first | (with_reducible assumption) | assumption)) q49 (Kd.R_reads' HO_3.out).2.1
      have hr49 := Kd.R_take (m := (x5_2 : Int).toNat) HO_3.out (by omega)
      have hy49 : y154.length = (x5_2 : Int).toNat := (by rw [Ny154.out, List.length_take]; omega)
      rw [← Ny154.out] at hr49
      rw [← hy49] at hr49 hcut49
      clear hy49 hi049 hsz49 HO_3
      have HO156 := am hr49
      clear hr49
      replace q49 := eq_true q49
      obtain ⟨⟨ad157, e157, hx157_0⟩, p157, q157⟩ := pq (Kd.at_int HR0.out x4_1)
      have hw157_0 := hx157_0
      cases e157
      replace hx157_0 := hw HB hx157_0
      refine start_ (n := 12) (S := fun w' => w'.cell? (ad157.add (x4_1).toNat) = some (.int .i64 (rd l0 x4_1))) (ds := []) (yz 12 0) (by kernel_rfl) rfl rfl (((HB.out.cell (World.block_lt_of_cell? w _ hw157_0)).trans hw157_0)) (fun hHeld => ?_); refine with_tabW spec_SortList.tab10 spec_SortList.bits10 (fun HT_ HW_ => ?_)
      generalize w47.drew = w48 at HO_3 HO153 HR150 HB HO156 hx157_0 hHeld ⊢
      refine pa 0 (some 51) (yz 12 1) HT_ ?_
      refine pa 1 (some 52) (yz 12 3) HT_ ?_
      refine pa 2 (some 53) (yz 12 7) HT_ ?_
      refine pa 3 (some 54) (yz 12 15) HT_ ?_
      refine pa 4 (some 55) (yz 12 31) HT_ ?_
      refine pa 5 (some 56) (yz 12 63) HT_ ?_
      refine pa 9 (some 60) (yz 12 575) HT_ ?_
      refine tK 6 (some 57) (yz 12 639) HT_ HW_ hHeld ?_
      refine oa 7 (some 58) (yz 12 767) HT_ (fun K hK => ?_)
      refine value_ (w1 := ?_) (v := ?_) (by rfl) rfl ?_ ?_
      rotate_left 2
      ·go_simp
       constructor
       ·rfl
       rfl
      refine hK.out _ _ ((World.cell?_alloc_lt _ _ _ (World.block_lt_of_cell? _ _ (((HB.out.cell (World.block_lt_of_cell? w _ hw157_0)).trans hw157_0)))).trans (((HB.out.cell (World.block_lt_of_cell? w _ hw157_0)).trans hw157_0))) (fun hHeld => ?_)
      clear hK K
      refine nm (some 58) ?_
      refine oa 8 (some 59) (yz 12 1023) HT_ (fun K hK => ?_)
      refine Kd.R_append_step (Kd.int .i64) (w0 := w) w.heap.size (by rfl) (.tmp 53) (.tmp 58) 22 3 (.int .i64 0) 8 rfl Tryd.underlying22 info3 rfl (by decide) (by omega) (.slice Ao5 y154.length co5) y154 (rd l0 x4_1) [.int .i64 (rd l0 x4_1)] (fun k_ => some k_ ≠ (v152 : Value).ownBlock) (fun _ => False) rfl rfl ?aP (fun _ hk => hk.elim) ?aF ?aO ?aB ?aS ?aL ?_
      (case aP => exact rfl)
      (case aB => exact bw)
      (case aF => exact (fun k_ hk => Kd.fresh' (Kd.R_lt (ro HO153.out)) k_ hk))
      (case aO => exact (by (with_reducible repeat (first | apply Kd.R_alloc | apply Kd.R_drewN | apply Kd.R_drew)); exact Kd.R_mono HO156.out (fun _ hk => hk.2)))
      (case aS => exact (below_size bw))
      (case aL => have := LMc40.out; omega)
      intro v159 w50 ho hb hg hat
      rw [← Ny158.out] at ho
      replace HO153 := am (Kd.R_after (ok := (fun _ => True)) (by (with_reducible repeat (first | apply Kd.R_alloc | apply Kd.R_drewN | apply Kd.R_drew)); exact Kd.R_mono HO153.out (fun _ hk => ⟨trivial, by first | exact hk | exact (by intro a n m c x h; cases a <;> exact h : ∀ (a : Option Addr) (n m c x : Nat), some x ≠ (Value.slice a n c).ownBlock → some x ≠ (Value.slice a m c).ownBlock) _ _ _ _ _ hk⟩)) hg hat)
      replace HB := am (hb)
      have HO160 := am (ho)
      clear HO156 ho hb hg hat
      obtain ⟨Ao52, co52, eo52⟩ := Kd.R_slice HO153.out
      (first | subst eo52 | (injection eo52 with f1_ f2_ f3_; have f4_ := f1_.symm; have f5_ := f3_.symm; clear f1_ f2_ f3_; subst f4_; subst f5_))
      refine hK.out _ _ (((HB.out.cell (World.block_lt_of_cell? w _ hw157_0)).trans hw157_0)) (fun hHeld => ?_)
      clear hK K
      refine nm (some 59) ?_
      refine oa 10 (some 61) (yz 12 2047) HT_ (fun K hK => ?_)
      refine Kd.R_append_rows_step (Kd.int .i64) (w0 := w) w.heap.size (by rfl) (.tmp 59) (.tmp 60) 22 3 (.int .i64 0) 8 rfl Tryd.underlying22 info3 rfl (by decide) (by omega) v159 y158 y151 _ _ _ (fun k_ => nb k_ Ao52 y151 co52) (fun _ => False) rfl rfl ?aO ?aR (fun _ _ h => h) (fun _ h => h.elim) ?aF ?aB ?aS ?aL ?_
      (case aR => exact co (Kd.R_reads' HO153.out).2.2)
      (case aB => exact bw)
      (case aF => exact (fun k_ hk => Kd.fresh' (Kd.R_lt (ro HO153.out)) k_ hk))
      (case aO => exact (ro HO160.out))
      (case aS => exact (below_size bw))
      (case aL => have := LMc41.out; omega)
      intro v162 w51 ho hb hg hat
      rw [← Ny161.out] at ho
      replace HO153 := am (Kd.R_after (ok := (fun _ => True)) (ro HO153.out) hg hat)
      replace HB := am (hb)
      have HO163 := am (ho)
      clear HO160 ho hb hg hat
      refine hK.out _ _ (((HB.out.cell (World.block_lt_of_cell? w _ hw157_0)).trans hw157_0)) (fun hHeld => ?_)
      clear hK K
      refine nm (some 61) ?_
      refine pa 11 (some 3) (yz 12 4095) HT_ ?_
      refine done_ (done_of HT_.out (by kernel_rfl)) ?_
      try go_wp2
      go_roundg k2
      case measure => have := HK1.out; have := HK2.out; omega
      case rel => exact ⟨(y161), (wrap64 (x4_1 + 1)), rr, H', ⟨by have := HK1.out; have := HK2.out; omega⟩, ⟨by (with_reducible repeat (first | apply Kd.R_alloc | apply Kd.R_drewN | apply Kd.R_drew)); exact Kd.R_mono HO163.out (fun _ hk => trivial)⟩, ⟨bw⟩⟩
   obtain rfl := Option.some.inj H
   go_wp2
   go_ret
   exact ⟨_, re, ro HO_3.out, bw⟩

end Go.Proofs.YtlfdipnhlmjiaaaDoor.C
