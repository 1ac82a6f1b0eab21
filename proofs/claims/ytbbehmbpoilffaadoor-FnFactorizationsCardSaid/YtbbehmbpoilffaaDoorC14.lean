/- Contracts of functions of the program: spec_l3Has, spec_Contains. -/
import Derived.Test.YtbbehmbpoilffaaDoorC0
import Derived.Test.YtbbehmbpoilffaaDoorC2
import Derived.Test.YtbbehmbpoilffaaDoorC3
namespace Go.Proofs.YtbbehmbpoilffaaDoor.C
open Go.RowKit Go.Proofs.YtbbehmbpoilffaaDoorW.PrintWords Go.Proofs.YtbbehmbpoilffaaDoorW.PrintLast Go.Proofs.YtbbehmbpoilffaaDoorW.PrintMore
attribute [local go_sem] max2_int min2_int max_two min_two max_three min_three max_four min_four
set_option linter.unusedVariables false
set_option linter.unusedSimpArgs false

/-! ### spec_l3Has: function 46 -/
def spec_l3Has.f (k : Nat) (l0_0 : List Int) (a1 : Int) : Option (Bool) := if a1 < 0 then (some (decide (a1 > 0))) else (if a1 ≥ 200 then (some (decide (a1 > 0))) else ((spec_l3Table.f k l0_0 a1).bind fun t722 => (if 0 ≤ a1 then (if a1 < (t722.length : Int) then (some (rdOf false t722 a1)) else (none)) else (none))))
set_option maxHeartbeats 8000000 in
set_option maxRecDepth 100000 in
theorem spec_l3Has.calls (k : Nat) (A0_0 : Option Addr) (c0_0 : Nat) (l0_0 : List Int) (a1 : Int) (r : Bool) (w : World) (hr0_0 : Kd.C (Kd.int .i64) w A0_0 l0_0.length l0_0) (hc0_0 : l0_0.length ≤ c0_0) (h : spec_l3Has.f k l0_0 a1 = some r) :
  Calls Tryd.prog 46 #[.agg #[.slice A0_0 l0_0.length c0_0], .int .i64 a1] w fun e w' => e = .returned (.bool r) ∧ Below w.heap.size w w' := by
 have hu26 := Tryd.underlying26
 have HR0_0 := am hr0_0
 have HC0_0 := am hc0_0
 clear hr0_0 hc0_0
 have HB := am (Below.refl w.heap.size w)
 have H : (if a1 < 0 then (some (decide (a1 > 0))) else (if a1 ≥ 200 then (some (decide (a1 > 0))) else ((spec_l3Table.f k l0_0 a1).bind fun t722 => (if 0 ≤ a1 then (if a1 < (t722.length : Int) then (some (rdOf false t722 a1)) else (none)) else (none))))) = some r := h
 clear h
 replace H := gi H; obtain ⟨c3b0, H⟩ | ⟨c3b0, H⟩ := H
 ·obtain rfl := Option.some.inj H
  go_enter Tryd.func46, Tryd.ntmps46
  go_wp2_with (first | ((with_reducible refine gate_dst (N := 2) rfl ?_); refine bx 2 #[.slice A0_0 l0_0.length c0_0] 26 ?_; intro gb721 hg w4 hbox hb; have BK721 := am (hbox); have GW721 := am (gs hg : w.heap.size ≤ gb721); have GE721 := GW721; replace HB := am (below_step bw hb); clear hb hbox hg))
  go_ret
  exact ⟨re, bw⟩
 replace H := gj H; obtain ⟨c5, H⟩ | ⟨c5, H⟩ := H
 ·have c5b0 : decide (200 ≤ a1) = true := decide_eq_true c5
  clear c5
  obtain rfl := Option.some.inj H
  go_enter Tryd.func46, Tryd.ntmps46
  go_wp2_with (first | ((with_reducible refine gate_dst (N := 2) rfl ?_); refine bx 2 #[.slice A0_0 l0_0.length c0_0] 26 ?_; intro gb721 hg w6 hbox hb; have BK721 := am (hbox); have GW721 := am (gs hg : w.heap.size ≤ gb721); have GE721 := GW721; replace HB := am (below_step bw hb); clear hb hbox hg))
  go_ret
  exact ⟨re, bw⟩
 have c5b0 : decide (200 ≤ a1) = false := decide_eq_false c5
 clear c5
 replace H := ga H; obtain ⟨t722, A7, H⟩ := H
 replace H := gd H; obtain ⟨c8b0, H⟩ := H
 replace H := gd H; obtain ⟨c9b0, H⟩ := H
 obtain rfl := Option.some.inj H
 go_enter Tryd.func46, Tryd.ntmps46
 go_wp2_with (first | ((with_reducible refine gate_dst (N := 2) rfl ?_); refine bx 2 #[.slice A0_0 l0_0.length c0_0] 26 ?_; intro gb721 hg w10 hbox hb; have BK721 := am (hbox); have GW721 := am (gs hg : w.heap.size ≤ gb721); have GE721 := GW721; replace HB := am (below_step bw hb); clear hb hbox hg; have hcz11_0 := bc BK721 0 (.slice A0_0 l0_0.length c0_0); have hfz11_0 := blk_frozen BK721.out 0) | ((with_reducible refine gate_callee (f := 58) rfl ?_); refine goesL_ (some 16) rfl rfl Tryd.func58 (by kernel_rfl) rfl #[.slice A0_0 l0_0.length c0_0, .int .i64 a1] rfl (by (try simp only [List.map_toArray, List.map_cons, List.map_nil]); first | done | rfl | (simp only [List.length_drop, List.length_take]; rfl)) ?_; (with_reducible refine (spec_l3Table.calls k _ _ l0_0 a1 t722 _ ?side1 ?side2 A7.out).mono ?_); (case side1 => exact co (Kd.C_below HR0_0.out HB.out)); (case side2 => exact HC0_0.out); rintro e w12 ⟨v723, rfl, ho0, hb⟩; refine ⟨_, rfl, ?_⟩; have HO724 := am (Kd.R_lower ho0 (below_size bw)); replace BK721 := kb BK721 hb; replace HB := am (below_step bw hb); clear hb ho0; obtain ⟨Ao13, co13, eo13⟩ := Kd.R_slice HO724.out; subst eo13; have p725 : 0 ≤ (a1 : Int) := of_decide_eq_true (by first | (with_reducible assumption) | assumption); have q725 : a1 < (t722.length : Int) := of_decide_eq_true (by first | (with_reducible assumption) | assumption); obtain ⟨ad725, e725, hx725_0⟩ := Kd.at_bool (Kd.R_reads' HO724.out).2.2 a1 p725 q725; cases e725; replace p725 := eq_true p725; replace q725 := eq_true q725))
 go_ret
 exact ⟨re, bw⟩


/-! ### spec_Contains: function 23 -/
def spec_Contains.f (k : Nat) (l0_0 : List Int) (a1 : Int) : Option (Bool) := (spec_IsSemigroup.f k l0_0).bind fun t727 => (if t727 = true then ((spec_l3Has.f k l0_0 a1).bind fun t728 => (some t728)) else (some false))
set_option maxHeartbeats 8000000 in
set_option maxRecDepth 100000 in
theorem spec_Contains.calls (k : Nat) (A0_0 : Option Addr) (c0_0 : Nat) (l0_0 : List Int) (a1 : Int) (r : Bool) (w : World) (hr0_0 : Kd.C (Kd.int .i64) w A0_0 l0_0.length l0_0) (hc0_0 : l0_0.length ≤ c0_0) (h : spec_Contains.f k l0_0 a1 = some r) :
  Calls Tryd.prog 23 #[.agg #[.slice A0_0 l0_0.length c0_0], .int .i64 a1] w fun e w' => e = .returned (.bool r) ∧ Below w.heap.size w w' := by
 have hu26 := Tryd.underlying26
 have HR0_0 := am hr0_0
 have HC0_0 := am hc0_0
 clear hr0_0 hc0_0
 have HB := am (Below.refl w.heap.size w)
 have H : ((spec_IsSemigroup.f k l0_0).bind fun t727 => (if t727 = true then ((spec_l3Has.f k l0_0 a1).bind fun t728 => (some t728)) else (some false))) = some r := h
 clear h
 replace H := ga H; obtain ⟨t727, A3, H⟩ := H
 replace H := gb H; obtain ⟨rfl, H⟩ | ⟨rfl, H⟩ := H
 ·replace H := ga H; obtain ⟨t728, A5, H⟩ := H
  obtain rfl := Option.some.inj H
  go_enter Tryd.func23, Tryd.ntmps23
  go_wp2_with (first | ((with_reducible refine gate_dst (N := 2) rfl ?_); refine bx 2 #[.slice A0_0 l0_0.length c0_0] 26 ?_; intro gb726 hg w6 hbox hb; have BK726 := am (hbox); have GW726 := am (gs hg : w.heap.size ≤ gb726); have GE726 := GW726; replace HB := am (below_step bw hb); clear hb hbox hg; have hcz7_0 := bc BK726 0 (.slice A0_0 l0_0.length c0_0); have hfz7_0 := blk_frozen BK726.out 0) | ((with_reducible refine gate_callee (f := 22) rfl ?_); refine goesL_ (some 6) rfl rfl Tryd.func22 (by kernel_rfl) rfl #[.agg #[.slice A0_0 l0_0.length c0_0]] rfl (by (try simp only [List.map_toArray, List.map_cons, List.map_nil]); first | done | rfl | (simp only [List.length_drop, List.length_take]; rfl)) ?_; (with_reducible refine (spec_IsSemigroup.calls k _ _ l0_0 true _ ?side1 ?side2 A3.out).mono ?_); (case side1 => exact co (Kd.C_below HR0_0.out HB.out)); (case side2 => exact HC0_0.out); rintro e w8 ⟨rfl, hb⟩; refine ⟨_, rfl, ?_⟩; replace BK726 := kb BK726 hb; replace HB := am (below_step bw hb); clear hb; have hcz9_0 := bc BK726 0 (.slice A0_0 l0_0.length c0_0); have hfz9_0 := blk_frozen BK726.out 0) | (go_at_call 46; (with_reducible refine (spec_l3Has.calls k _ _ l0_0 a1 t728 _ ?side1 ?side2 A5.out).mono ?_); (case side1 => exact co (Kd.C_below HR0_0.out HB.out)); (case side2 => exact HC0_0.out); rintro e w10 ⟨rfl, hb⟩; replace BK726 := kb BK726 hb; replace HB := am (below_step bw hb); clear hb))
  go_ret
  exact ⟨re, bw⟩
 obtain rfl := Option.some.inj H
 go_enter Tryd.func23, Tryd.ntmps23
 go_wp2_with (first | ((with_reducible refine gate_dst (N := 2) rfl ?_); refine bx 2 #[.slice A0_0 l0_0.length c0_0] 26 ?_; intro gb726 hg w11 hbox hb; have BK726 := am (hbox); have GW726 := am (gs hg : w.heap.size ≤ gb726); have GE726 := GW726; replace HB := am (below_step bw hb); clear hb hbox hg; have hcz12_0 := bc BK726 0 (.slice A0_0 l0_0.length c0_0); have hfz12_0 := blk_frozen BK726.out 0) | ((with_reducible refine gate_callee (f := 22) rfl ?_); refine goesL_ (some 6) rfl rfl Tryd.func22 (by kernel_rfl) rfl #[.agg #[.slice A0_0 l0_0.length c0_0]] rfl (by (try simp only [List.map_toArray, List.map_cons, List.map_nil]); first | done | rfl | (simp only [List.length_drop, List.length_take]; rfl)) ?_; (with_reducible refine (spec_IsSemigroup.calls k _ _ l0_0 false _ ?side1 ?side2 A3.out).mono ?_); (case side1 => exact co (Kd.C_below HR0_0.out HB.out)); (case side2 => exact HC0_0.out); rintro e w13 ⟨rfl, hb⟩; refine ⟨_, rfl, ?_⟩; replace BK726 := kb BK726 hb; replace HB := am (below_step bw hb); clear hb))
 go_ret
 exact ⟨re, bw⟩

end Go.Proofs.YtbbehmbpoilffaaDoor.C
