/- Contracts of functions of the program: impl_reach. -/
import Derived.Test.YtkfplkdchkmgbaaC0
import Derived.Test.YtkfplkdchkmgbaaC7
import Derived.Test.YtkfplkdchkmgbaaC9
namespace Go.Proofs.Ytkfplkdchkmgbaa.C
open Go.RowKit Go.Proofs.YtkfplkdchkmgbaaW.PrintWords Go.Proofs.YtkfplkdchkmgbaaW.PrintLast Go.Proofs.YtkfplkdchkmgbaaW.PrintMore
attribute [local go_sem] max2_int min2_int max_two min_two max_three min_three max_four min_four
set_option linter.unusedVariables false
set_option linter.unusedSimpArgs false

/-! ### impl_reach: function 152 -/
def impl_reach.p (is : List Bool) (d : Int) : Option Bool := if d ≥ 200 then some true else if d ≥ 0 then (if d < (is.length : Int) then some (rdOf false is d) else none) else some false
def impl_reach.f (k : Nat) (l0_0 : List Int) : Option (Int → Option Bool) := (impl_IsSemigroup.f k l0_0).bind fun t => if t = true then (impl_table.f k l0_0 200).bind fun is => some (impl_reach.p is) else some (fun _ => some false)
set_option maxHeartbeats 8000000 in
theorem impl_reach.c1 (w : World) : FnR1 Try.prog w (.func (.func 218) #[] #[]) (fun _ => some false) :=
 ⟨218, #[], rfl, (fun args w => enters_ Try.func218 (by kernel_rfl) rfl args w), fun W _ d b h => by
  obtain rfl := Option.some.inj h
  show Calls Try.prog 218 #[.int .i64 d] W _
  go_enter Try.func218, Try.ntmps218
  go_wp2
  go_ret
  exact ⟨rfl, dw⟩⟩
set_option maxHeartbeats 8000000 in
theorem impl_reach.c2 (w : World) (g : Nat) (A : Option Addr) (c : Nat) (is : List Bool) (hbox : w.heap[g]? = some (.cells #[.slice A is.length c] 109 (0, 0))) (hC : Kd.C Kd.bool w A is.length is) :
  FnR1 Try.prog w (.func (.func 219) #[] #[.pointer (some ⟨g, 0, none⟩)]) (impl_reach.p is) :=
 ⟨219, _, rfl, (fun args w => enters_ Try.func219 (by kernel_rfl) rfl args w), fun W hb d b h => by
  show Calls Try.prog 219 #[.int .i64 d, .pointer (some ⟨g, 0, none⟩)] W _
  have hbox' := blk_below hbox hb
  have hC' := Kd.C_below hC hb
  have hcz : W.cell? ⟨g, 0, none⟩ = some (.slice A is.length c) := (blk_cell hbox' 0).trans rfl
  clear hbox hC hbox' hb
  unfold impl_reach.p at h
  replace h := gj h; obtain ⟨c1, h⟩ | ⟨c1, h⟩ := h
  ·obtain rfl := Option.some.inj h
   have c1b0 : decide (200 ≤ d) = true := decide_eq_true c1
   clear hC' hcz c1
   go_enter Try.func219, Try.ntmps219
   go_wp2
   go_ret
   exact ⟨re, dw⟩
  ·have c1b0 : decide (200 ≤ d) = false := decide_eq_false c1
   clear c1
   replace h := gj h; obtain ⟨c2, h⟩ | ⟨c2, h⟩ := h
   ·have c2b0 : decide (0 ≤ d) = true := decide_eq_true c2
    replace h := gd h; obtain ⟨c3b0, h⟩ := h
    obtain rfl := Option.some.inj h
    clear c2
    obtain ⟨⟨ad, e0, hx⟩, p1, q1⟩ := pq (Kd.at_bool hC' d)
    cases e0
    clear hC'
    go_enter Try.func219, Try.ntmps219
    go_wp2
    go_ret
    exact ⟨re, dw⟩
   ·have c2b0 : decide (0 ≤ d) = false := decide_eq_false c2
    obtain rfl := Option.some.inj h
    clear hC' hcz c2
    go_enter Try.func219, Try.ntmps219
    go_wp2
    go_ret
    exact ⟨re, dw⟩⟩
set_option maxHeartbeats 8000000 in
set_option maxRecDepth 100000 in
theorem impl_reach.calls (k : Nat) (A0_0 : Option Addr) (c0_0 : Nat) (l0_0 : List Int) (r : Int → Option Bool) (w : World) (hr0_0 : Kd.C (Kd.int .i64) w A0_0 l0_0.length l0_0) (hc0_0 : l0_0.length ≤ c0_0) (h : impl_reach.f k l0_0 = some r) :
  Calls Try.prog 152 #[.agg #[.slice A0_0 l0_0.length c0_0]] w fun e w' => ∃ v0_ : Value, e = .returned v0_ ∧ FnR1 Try.prog w' v0_ r ∧ Below w.heap.size w w' := by
 have hu27 := Try.underlying26
 have hu66 := Try.underlying109
 have HR0_0 := Aside0.mk hr0_0
 have HC0_0 := Aside0.mk hc0_0
 clear hr0_0 hc0_0
 have HB := Aside0.mk (Below.refl w.heap.size w)
 have H : ((impl_IsSemigroup.f k l0_0).bind fun t => if t = true then (impl_table.f k l0_0 200).bind fun is => some (impl_reach.p is) else some (fun _ => some false)) = some r := h
 clear h
 replace H := ga H; obtain ⟨t1, A1, H⟩ := H
 replace H := gb H; obtain ⟨rfl, H⟩ | ⟨rfl, H⟩ := H
 ·replace H := ga H; obtain ⟨t2, A2, H⟩ := H
  obtain rfl := Option.some.inj H
  clear H
  go_enter Try.func152, Try.ntmps152
  go_wp2_with (first | ((with_reducible refine gate_dst (N := 1) rfl ?_); refine bx 1 #[.slice A0_0 l0_0.length c0_0] 26 ?_; intro gb1 hg w1 hbox hb; have BK1 := Aside0.mk hbox; replace HB := Aside0.mk (below_step bw hb); clear hb hbox hg; have hcz1 := bc BK1 0 (.slice A0_0 l0_0.length c0_0); have hfz1 := blk_frozen BK1.out 0) | ((with_reducible refine gate_callee (f := 151) rfl ?_); refine gl (some 5) Try.func151 #[.agg #[.slice A0_0 l0_0.length c0_0]] ?_; (with_reducible refine (impl_IsSemigroup.calls k _ _ l0_0 true _ ?side1 ?side2 A1.out).mono ?_); (case side1 => exact co (Kd.C_below HR0_0.out HB.out)); (case side2 => exact HC0_0.out); rintro e w2 ⟨rfl, hb⟩; refine ⟨_, rfl, ?_⟩; clear hcz1 hfz1; replace BK1 := Aside0.mk (blk_below (g := gb1) (o := .cells #[.slice A0_0 l0_0.length c0_0] 26 (0, 0)) (bo BK1.out) hb); replace HB := Aside0.mk (below_step bw hb); clear hb; have hcz1 := bc BK1 0 (.slice A0_0 l0_0.length c0_0); have hfz1 := blk_frozen BK1.out 0) | ((with_reducible refine gate_callee (f := 157) rfl ?_); refine gl (some 8) Try.func157 #[.agg #[.slice A0_0 l0_0.length c0_0], .int .i64 200] ?_; (with_reducible refine (impl_table.calls k _ _ l0_0 200 t2 _ ?side1 ?side2 A2.out).mono ?_); (case side1 => exact co (Kd.C_below HR0_0.out HB.out)); (case side2 => exact HC0_0.out); rintro e w3 ⟨v2, rfl, ho0, hb⟩; refine ⟨_, rfl, ?_⟩; clear hcz1 hfz1 BK1; have HO2 := Aside0.mk (Kd.R_lower ho0 (below_size bw)); replace HB := Aside0.mk (below_step bw hb); clear hb ho0; obtain ⟨Ao2, co2, eo2⟩ := Kd.R_slice HO2.out; subst eo2) | ((with_reducible refine gate_dst (N := 3) rfl ?_); refine bx 3 #[.slice none 0 0] 109 ?_; intro gb3 hg w4 hbox hb; have GE3 := Aside0.mk (gs hg : w.heap.size ≤ gb3); replace HO2 := Aside0.mk (Kd.R_below (ro HO2.out) hb); have BK3 := Aside0.mk hbox; replace HB := Aside0.mk (below_step bw hb); clear hb hbox hg; have hcz3 := bc BK3 0 (.slice none 0 0); have hfz3 := blk_frozen BK3.out 0))
  go_ret
  exact ⟨_, rfl, impl_reach.c2 _ gb3 Ao2 co2 t2 (by (with_reducible repeat (first | refine blk_drewN ?_ _ | refine blk_drew ?_ | refine blk_alloc ?_ _)); exact blk_put (cs := #[.slice none 0 0]) (bo BK3.out) 0 _ rfl) (co (Kd.R_reads' (Kd.R_far (p := ⟨gb3, 0, none⟩) (Kd.R_types HO2.out BK3.out (by decide)) (fun _ hk => hk.2) (.slice Ao2 t2.length co2))).2.2), bw⟩
 ·obtain rfl := Option.some.inj H
  clear H
  go_enter Try.func152, Try.ntmps152
  go_wp2_with (first | ((with_reducible refine gate_dst (N := 1) rfl ?_); refine bx 1 #[.slice A0_0 l0_0.length c0_0] 26 ?_; intro gb1 hg w1 hbox hb; have BK1 := Aside0.mk hbox; replace HB := Aside0.mk (below_step bw hb); clear hb hbox hg; have hcz1 := bc BK1 0 (.slice A0_0 l0_0.length c0_0); have hfz1 := blk_frozen BK1.out 0) | ((with_reducible refine gate_callee (f := 151) rfl ?_); refine gl (some 5) Try.func151 #[.agg #[.slice A0_0 l0_0.length c0_0]] ?_; (with_reducible refine (impl_IsSemigroup.calls k _ _ l0_0 false _ ?side1 ?side2 A1.out).mono ?_); (case side1 => exact co (Kd.C_below HR0_0.out HB.out)); (case side2 => exact HC0_0.out); rintro e w2 ⟨rfl, hb⟩; refine ⟨_, rfl, ?_⟩; clear hcz1 hfz1 BK1; replace HB := Aside0.mk (below_step bw hb); clear hb))
  go_ret
  exact ⟨_, rfl, impl_reach.c1 _, bw⟩

end Go.Proofs.Ytkfplkdchkmgbaa.C
