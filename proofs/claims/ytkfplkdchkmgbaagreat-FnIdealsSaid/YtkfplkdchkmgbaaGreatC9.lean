/- Contracts of functions of the program: impl_reach, impl_InIdeal, slices_Sort_int_int, slices_Compact_int_int, impl_SortList, impl_extreme, impl_MinimalIn, impl_IdealGens, spec_DrawIdealSum, spec_DrawDualGens, impl_sifted. -/
import Derived.Test.YtkfplkdchkmgbaaGreatC0
import Derived.Test.YtkfplkdchkmgbaaGreatC1
import Derived.Test.YtkfplkdchkmgbaaGreatC6
import Derived.Test.YtkfplkdchkmgbaaGreatC7
import Derived.Test.YtkfplkdchkmgbaaGreatC8
namespace Go.Proofs.YtkfplkdchkmgbaaGreat.C
open Go.RowKit Go.Proofs.YtkfplkdchkmgbaaGreatW.PrintWords Go.Proofs.YtkfplkdchkmgbaaGreatW.PrintLast Go.Proofs.YtkfplkdchkmgbaaGreatW.PrintMore
attribute [local go_sem] max2_int min2_int max_two min_two max_three min_three max_four min_four
set_option linter.unusedVariables false
set_option linter.unusedSimpArgs false

/-! ### impl_reach: function 46 -/
def impl_reach.p (is : List Bool) (d : Int) : Option Bool := if d ≥ 200 then some true else if d ≥ 0 then (if d < (is.length : Int) then some (rdOf false is d) else none) else some false
def impl_reach.f (k : Nat) (l0_0 : List Int) : Option (Int → Option Bool) := (impl_IsSemigroup.f k l0_0).bind fun t => if t = true then (impl_table.f k l0_0 200).bind fun is => some (impl_reach.p is) else some (fun _ => some false)
set_option maxHeartbeats 8000000 in
theorem impl_reach.c1 (w : World) : FnR1 Tryz.prog w (.func (.func 97) #[] #[]) (fun _ => some false) :=
 ⟨97, #[], rfl, (fun args w => enters_ Tryz.func97 (by kernel_rfl) rfl args w), fun W _ d b h => by
  obtain rfl := Option.some.inj h
  show Calls Tryz.prog 97 #[.int .i64 d] W _
  go_enter Tryz.func97, Tryz.ntmps97
  go_wp2
  go_ret
  exact ⟨rfl, dw⟩⟩
set_option maxHeartbeats 8000000 in
theorem impl_reach.c2 (w : World) (g : Nat) (A : Option Addr) (c : Nat) (is : List Bool) (hbox : w.heap[g]? = some (.cells #[.slice A is.length c] 77 (0, 0))) (hC : Kd.C Kd.bool w A is.length is) :
  FnR1 Tryz.prog w (.func (.func 99) #[] #[.pointer (some ⟨g, 0, none⟩)]) (impl_reach.p is) :=
 ⟨99, _, rfl, (fun args w => enters_ Tryz.func99 (by kernel_rfl) rfl args w), fun W hb d b h => by
  show Calls Tryz.prog 99 #[.int .i64 d, .pointer (some ⟨g, 0, none⟩)] W _
  have hbox' := blk_below hbox hb
  have hC' := Kd.C_below hC hb
  have hcz : W.cell? ⟨g, 0, none⟩ = some (.slice A is.length c) := (blk_cell hbox' 0).trans rfl
  clear hbox hC hbox' hb
  unfold impl_reach.p at h
  replace h := gj h; obtain ⟨c1, h⟩ | ⟨c1, h⟩ := h
  ·obtain rfl := Option.some.inj h
   have c1b0 : decide (200 ≤ d) = true := decide_eq_true c1
   clear hC' hcz c1
   go_enter Tryz.func99, Tryz.ntmps99
   go_wp2
   go_ret
   exact ⟨re, dw⟩
  ·have c1b0 : decide (200 ≤ d) = false := decide_eq_false c1
   clear c1
   replace h := gj h; obtain ⟨c2, h⟩ | ⟨c2, h⟩ := h
   ·have c2b0 : decide (0 ≤ d) = true := decide_eq_true c2
    replace h := gd h; obtain ⟨c3b0, h⟩ := h
    obtain rfl := Option.some.inj h
    clear c2
    obtain ⟨⟨ad, e0, hx⟩, p1, q1⟩ := pq (Kd.at_bool hC' d)
    cases e0
    clear hC'
    go_enter Tryz.func99, Tryz.ntmps99
    go_wp2
    go_ret
    exact ⟨re, dw⟩
   ·have c2b0 : decide (0 ≤ d) = false := decide_eq_false c2
    obtain rfl := Option.some.inj h
    clear hC' hcz c2
    go_enter Tryz.func99, Tryz.ntmps99
    go_wp2
    go_ret
    exact ⟨re, dw⟩⟩
set_option maxHeartbeats 8000000 in
set_option maxRecDepth 100000 in
theorem impl_reach.calls (k : Nat) (A0_0 : Option Addr) (c0_0 : Nat) (l0_0 : List Int) (r : Int → Option Bool) (w : World) (hr0_0 : Kd.C (Kd.int .i64) w A0_0 l0_0.length l0_0) (hc0_0 : l0_0.length ≤ c0_0) (h : impl_reach.f k l0_0 = some r) :
  Calls Tryz.prog 46 #[.agg #[.slice A0_0 l0_0.length c0_0]] w fun e w' => ∃ v0_ : Value, e = .returned v0_ ∧ FnR1 Tryz.prog w' v0_ r ∧ Below w.heap.size w w' := by
 have hu27 := Tryz.underlying26
 have hu66 := Tryz.underlying77
 have HR0_0 := Aside0.mk hr0_0
 have HC0_0 := Aside0.mk hc0_0
 clear hr0_0 hc0_0
 have HB := Aside0.mk (Below.refl w.heap.size w)
 have H : ((impl_IsSemigroup.f k l0_0).bind fun t => if t = true then (impl_table.f k l0_0 200).bind fun is => some (impl_reach.p is) else some (fun _ => some false)) = some r := h
 clear h
 replace H := ga H; obtain ⟨t1, A1, H⟩ := H
 replace H := gb H; obtain ⟨rfl, H⟩ | ⟨rfl, H⟩ := H
 ·replace H := ga H; obtain ⟨t2, A2, H⟩ := H
  obtain rfl := Option.some.inj H
  clear H
  go_enter Tryz.func46, Tryz.ntmps46
  go_wp2_with (first | ((with_reducible refine gate_dst (N := 1) rfl ?_); refine bx 1 #[.slice A0_0 l0_0.length c0_0] 26 ?_; intro gb1 hg w1 hbox hb; have BK1 := Aside0.mk hbox; replace HB := Aside0.mk (below_step bw hb); clear hb hbox hg; have hcz1 := bc BK1 0 (.slice A0_0 l0_0.length c0_0); have hfz1 := blk_frozen BK1.out 0) | ((with_reducible refine gate_callee (f := 43) rfl ?_); refine gl (some 5) Tryz.func43 #[.agg #[.slice A0_0 l0_0.length c0_0]] ?_; (with_reducible refine (impl_IsSemigroup.calls k _ _ l0_0 true _ ?side1 ?side2 A1.out).mono ?_); (case side1 => exact co (Kd.C_below HR0_0.out HB.out)); (case side2 => exact HC0_0.out); rintro e w2 ⟨rfl, hb⟩; refine ⟨_, rfl, ?_⟩; clear hcz1 hfz1; replace BK1 := Aside0.mk (blk_below (g := gb1) (o := .cells #[.slice A0_0 l0_0.length c0_0] 26 (0, 0)) (bo BK1.out) hb); replace HB := Aside0.mk (below_step bw hb); clear hb; have hcz1 := bc BK1 0 (.slice A0_0 l0_0.length c0_0); have hfz1 := blk_frozen BK1.out 0) | ((with_reducible refine gate_callee (f := 98) rfl ?_); refine gl (some 8) Tryz.func98 #[.agg #[.slice A0_0 l0_0.length c0_0], .int .i64 200] ?_; (with_reducible refine (impl_table.calls k _ _ l0_0 200 t2 _ ?side1 ?side2 A2.out).mono ?_); (case side1 => exact co (Kd.C_below HR0_0.out HB.out)); (case side2 => exact HC0_0.out); rintro e w3 ⟨v2, rfl, ho0, hb⟩; refine ⟨_, rfl, ?_⟩; clear hcz1 hfz1 BK1; have HO2 := Aside0.mk (Kd.R_lower ho0 (below_size bw)); replace HB := Aside0.mk (below_step bw hb); clear hb ho0; obtain ⟨Ao2, co2, eo2⟩ := Kd.R_slice HO2.out; subst eo2) | ((with_reducible refine gate_dst (N := 3) rfl ?_); refine bx 3 #[.slice none 0 0] 77 ?_; intro gb3 hg w4 hbox hb; have GE3 := Aside0.mk (gs hg : w.heap.size ≤ gb3); replace HO2 := Aside0.mk (Kd.R_below (ro HO2.out) hb); have BK3 := Aside0.mk hbox; replace HB := Aside0.mk (below_step bw hb); clear hb hbox hg; have hcz3 := bc BK3 0 (.slice none 0 0); have hfz3 := blk_frozen BK3.out 0))
  go_ret
  exact ⟨_, rfl, impl_reach.c2 _ gb3 Ao2 co2 t2 (by (with_reducible repeat (first | refine blk_drewN ?_ _ | refine blk_drew ?_ | refine blk_alloc ?_ _)); exact blk_put (cs := #[.slice none 0 0]) (bo BK3.out) 0 _ rfl) (co (Kd.R_reads' (Kd.R_far (p := ⟨gb3, 0, none⟩) (Kd.R_types HO2.out BK3.out (by decide)) (fun _ hk => hk.2) (.slice Ao2 t2.length co2))).2.2), bw⟩
 ·obtain rfl := Option.some.inj H
  clear H
  go_enter Tryz.func46, Tryz.ntmps46
  go_wp2_with (first | ((with_reducible refine gate_dst (N := 1) rfl ?_); refine bx 1 #[.slice A0_0 l0_0.length c0_0] 26 ?_; intro gb1 hg w1 hbox hb; have BK1 := Aside0.mk hbox; replace HB := Aside0.mk (below_step bw hb); clear hb hbox hg; have hcz1 := bc BK1 0 (.slice A0_0 l0_0.length c0_0); have hfz1 := blk_frozen BK1.out 0) | ((with_reducible refine gate_callee (f := 43) rfl ?_); refine gl (some 5) Tryz.func43 #[.agg #[.slice A0_0 l0_0.length c0_0]] ?_; (with_reducible refine (impl_IsSemigroup.calls k _ _ l0_0 false _ ?side1 ?side2 A1.out).mono ?_); (case side1 => exact co (Kd.C_below HR0_0.out HB.out)); (case side2 => exact HC0_0.out); rintro e w2 ⟨rfl, hb⟩; refine ⟨_, rfl, ?_⟩; clear hcz1 hfz1 BK1; replace HB := Aside0.mk (below_step bw hb); clear hb))
  go_ret
  exact ⟨_, rfl, impl_reach.c1 _, bw⟩


/-! ### impl_InIdeal: function 7 -/
mutual
def impl_InIdeal.j0 : Nat → List Int → Int → Bool → List Int → Option (Bool)
 | 0, _, _, _, _ => none
 | k + 1, x1, x2, x22, x458000 => if x22 = true then (some false) else ((impl_reach.f k x458000).bind fun t461 => (impl_InIdeal.l0 k x2 t461 x1 (x1.length : Int) 0))
def impl_InIdeal.l0 : Nat → Int → (Int → Option Bool) → List Int → Int → Int → Option (Bool)
 | 0, _, _, _, _, _ => none
 | k + 1, x2, x7, x25, x26, x27 => if x27 < x26 then (if 0 ≤ x27 then (if x27 < (x25.length : Int) then ((apF1.f x7 (wrap64 (x2 - (rd x25 x27)))).bind fun t463 => (if t463 = true then (some true) else (impl_InIdeal.l0 k x2 x7 x25 x26 (wrap64 (x27 + 1))))) else (none)) else (none)) else (some false)
end
def impl_InIdeal.f (k : Nat) (l0_0 : List Int) (l1 : List Int) (a2 : Int) : Option (Bool) := (impl_IsSemigroup.f k l0_0).bind fun t458 => (if t458 = true then ((impl_idealList.f k l1).bind fun t459 => (if t459 = true then ((impl_within.f a2 (-1000000) 1000000).bind fun t460 => (impl_InIdeal.j0 k l1 a2 (!t460) l0_0)) else (impl_InIdeal.j0 k l1 a2 true l0_0))) else (impl_InIdeal.j0 k l1 a2 true l0_0))
set_option maxHeartbeats 8000000 in
set_option maxRecDepth 100000 in
theorem impl_InIdeal.calls (k : Nat) (A0_0 : Option Addr) (c0_0 : Nat) (l0_0 : List Int) (A1 : Option Addr) (c1 : Nat) (l1 : List Int) (a2 : Int) (r : Bool) (w : World) (hr0_0 : Kd.C (Kd.int .i64) w A0_0 l0_0.length l0_0) (hc0_0 : l0_0.length ≤ c0_0) (hr1 : Kd.C (Kd.int .i64) w A1 l1.length l1) (hc1 : l1.length ≤ c1) (h : impl_InIdeal.f k l0_0 l1 a2 = some r) :
  Calls Tryz.prog 7 #[.agg #[.slice A0_0 l0_0.length c0_0], .slice A1 l1.length c1, .int .i64 a2] w fun e w' => e = .returned (.bool r) ∧ Below w.heap.size w w' := by
 have hu26 := Tryz.underlying26
 have HR0_0 := am hr0_0
 have HC0_0 := am hc0_0
 clear hr0_0 hc0_0
 have HR1 := am hr1
 have HC1 := am hc1
 clear hr1 hc1
 have HB := am (Below.refl w.heap.size w)
 have H : ((impl_IsSemigroup.f k l0_0).bind fun t458 => (if t458 = true then ((impl_idealList.f k l1).bind fun t459 => (if t459 = true then ((impl_within.f a2 (-1000000) 1000000).bind fun t460 => (impl_InIdeal.j0 k l1 a2 (!t460) l0_0)) else (impl_InIdeal.j0 k l1 a2 true l0_0))) else (impl_InIdeal.j0 k l1 a2 true l0_0))) = some r := h
 clear h
 have HC4 := am H
 clear H
 go_enter Tryz.func7, Tryz.ntmps7
 go_upto_region 1 with (first | ((with_reducible refine gate_dst (N := 3) rfl ?_); refine bx 3 #[.slice A0_0 l0_0.length c0_0] 26 ?_; intro gb457 hg w5 hbox hb; have BK457 := am (hbox); have GW457 := am (gs hg : w.heap.size ≤ gb457); have GE457 := GW457; replace HB := am (below_step bw hb); clear hb hbox hg))
 (try simp only [Act.put, List.setIfInBounds_toArray, List.set_cons_zero, List.set_cons_succ])
 go_cut [22] (fun v22 wc => ∃ (kq : Nat) (x22_3 : Bool), v22 = .bool x22_3 ∧ Aside0 (impl_InIdeal.j0 kq l1 a2 x22_3 l0_0 = some r) ∧ Aside0 (kq ≤ k) ∧ Aside0 (wc.heap[gb457]? = some (.cells #[(.slice A0_0 l0_0.length c0_0)] 26 (0, 0))) ∧ Aside0 (Below w.heap.size w wc))
 case first =>
  have H := HC4.out
  clear HC4
  replace H := ga H; obtain ⟨t458, A6, H⟩ := H
  replace H := gb H; obtain ⟨rfl, H⟩ | ⟨rfl, H⟩ := H
  ·replace H := ga H; obtain ⟨t459, A8, H⟩ := H
   replace H := gb H; obtain ⟨rfl, H⟩ | ⟨rfl, H⟩ := H
   ·replace H := ga H; obtain ⟨t460, A10, H⟩ := H
    have H' := am H
    clear H
    have hcz11_0 := bc BK457 0 (.slice A0_0 l0_0.length c0_0)
    have hfz11_0 := blk_frozen BK457.out 0
    go_wp2_with (first | ((with_reducible refine gate_callee (f := 43) rfl ?_); refine goesL_ (some 11) rfl rfl Tryz.func43 (by kernel_rfl) rfl #[.agg #[.slice A0_0 l0_0.length c0_0]] rfl (by (try simp only [List.map_toArray, List.map_cons, List.map_nil]); first | done | rfl | (simp only [List.length_drop, List.length_take]; rfl)) ?_; (with_reducible refine (impl_IsSemigroup.calls k _ _ l0_0 true _ ?side1 ?side2 A6.out).mono ?_); (case side1 => exact co (Kd.C_below HR0_0.out HB.out)); (case side2 => exact HC0_0.out); rintro e w12 ⟨rfl, hb⟩; refine ⟨_, rfl, ?_⟩; replace BK457 := kb BK457 hb; replace HB := am (below_step bw hb); clear hb) | (go_at_call 44; (with_reducible refine (impl_idealList.calls k _ _ l1 true _ ?side1 ?side2 A8.out).mono ?_); (case side1 => exact co (Kd.C_below HR1.out HB.out)); (case side2 => exact HC1.out); rintro e w' ⟨rfl, ⟨nd, rfl⟩⟩) | (go_at_call 45; (with_reducible refine (impl_within.calls a2 (-1000000) 1000000 t460 _ A10.out).mono ?_); rintro e w' ⟨rfl, ⟨nd, rfl⟩⟩))
    go_meet
    case rel => exact ⟨_, (!t460), rr, H', ⟨om⟩, ⟨bo BK457.out⟩, ⟨bw⟩⟩
   have H' := am H
   clear H
   have hcz13_0 := bc BK457 0 (.slice A0_0 l0_0.length c0_0)
   have hfz13_0 := blk_frozen BK457.out 0
   go_wp2_with (first | ((with_reducible refine gate_callee (f := 43) rfl ?_); refine goesL_ (some 11) rfl rfl Tryz.func43 (by kernel_rfl) rfl #[.agg #[.slice A0_0 l0_0.length c0_0]] rfl (by (try simp only [List.map_toArray, List.map_cons, List.map_nil]); first | done | rfl | (simp only [List.length_drop, List.length_take]; rfl)) ?_; (with_reducible refine (impl_IsSemigroup.calls k _ _ l0_0 true _ ?side1 ?side2 A6.out).mono ?_); (case side1 => exact co (Kd.C_below HR0_0.out HB.out)); (case side2 => exact HC0_0.out); rintro e w14 ⟨rfl, hb⟩; refine ⟨_, rfl, ?_⟩; replace BK457 := kb BK457 hb; replace HB := am (below_step bw hb); clear hb) | (go_at_call 44; (with_reducible refine (impl_idealList.calls k _ _ l1 false _ ?side1 ?side2 A8.out).mono ?_); (case side1 => exact co (Kd.C_below HR1.out HB.out)); (case side2 => exact HC1.out); rintro e w' ⟨rfl, ⟨nd, rfl⟩⟩))
   go_meet
   case rel => exact ⟨_, (true), rr, H', ⟨om⟩, ⟨bo BK457.out⟩, ⟨bw⟩⟩
  have H' := am H
  clear H
  have hcz15_0 := bc BK457 0 (.slice A0_0 l0_0.length c0_0)
  have hfz15_0 := blk_frozen BK457.out 0
  go_wp2_with (first | ((with_reducible refine gate_callee (f := 43) rfl ?_); refine goesL_ (some 11) rfl rfl Tryz.func43 (by kernel_rfl) rfl #[.agg #[.slice A0_0 l0_0.length c0_0]] rfl (by (try simp only [List.map_toArray, List.map_cons, List.map_nil]); first | done | rfl | (simp only [List.length_drop, List.length_take]; rfl)) ?_; (with_reducible refine (impl_IsSemigroup.calls k _ _ l0_0 false _ ?side1 ?side2 A6.out).mono ?_); (case side1 => exact co (Kd.C_below HR0_0.out HB.out)); (case side2 => exact HC0_0.out); rintro e w16 ⟨rfl, hb⟩; refine ⟨_, rfl, ?_⟩; replace BK457 := kb BK457 hb; replace HB := am (below_step bw hb); clear hb))
  go_meet
  case rel => exact ⟨_, (true), rr, H', ⟨om⟩, ⟨bo BK457.out⟩, ⟨bw⟩⟩
 case rest =>
  clear HC4
  try clear c1; try clear hcz11_0; try clear hcz13_0; try clear hcz15_0; try clear hfz11_0; try clear hfz13_0; try clear hfz15_0
  obtain ⟨kq, x22_3, rfl, HA, HJ3, BK457, HB⟩ := hcut
  cases kq with
  | zero => exact absurd HA.out (by simp [impl_InIdeal.j0])
  | succ kj3 =>
   have H := HA.out
   clear HA
   simp only [impl_InIdeal.j0] at H
   replace H := gb H; obtain ⟨rfl, H⟩ | ⟨rfl, H⟩ := H
   ·obtain rfl := Option.some.inj H
    go_wp2
    go_ret
    exact ⟨re, bw⟩
   replace H := ga H; obtain ⟨t461, A18, H⟩ := H
   have H' := am H
   clear H
   have hcz19_0 := bc BK457 0 (.slice A0_0 l0_0.length c0_0)
   have hfz19_0 := blk_frozen BK457.out 0
   go_wp2_with (first | ((with_reducible refine gate_callee (f := 46) rfl ?_); refine goesL_ (some 24) rfl rfl Tryz.func46 (by kernel_rfl) rfl #[.agg #[.slice A0_0 l0_0.length c0_0]] rfl (by (try simp only [List.map_toArray, List.map_cons, List.map_nil]); first | done | rfl | (simp only [List.length_drop, List.length_take]; rfl)) ?_; (with_reducible refine (impl_reach.calls kj3 _ _ l0_0 t461 _ ?side1 ?side2 A18.out).mono ?_); (case side1 => exact co (Kd.C_below HR0_0.out HB.out)); (case side2 => exact HC0_0.out); rintro e w20 ⟨F_t461, rfl, hF_t461, hb⟩; refine ⟨_, rfl, ?_⟩; replace BK457 := kb BK457 hb; have HW_ := am (below_step bw hb : Below w.heap.size w w20); replace HR0_0 := am (Kd.C_below HR0_0.out HW_.out); replace HR1 := am (Kd.C_below HR1.out HW_.out); clear HB hb; have HB := am (Below.refl w20.heap.size w20); obtain ⟨gF_t461, lF_t461, rfl, eF_t461, hF_t461⟩ := hF_t461; obtain ⟨w, rfl⟩ : ∃ x_, x_ = w20 := ⟨_, rfl⟩))
   go_loopg [27] kj3 (fun kq v27 w' => ∃ (x27_2 : Int), v27 = .int .i64 x27_2 ∧ Aside0 (impl_InIdeal.l0 kq a2 t461 l1 (l1.length : Int) x27_2 = some r) ∧ Aside0 (kq ≤ kj3) ∧ Aside0 (w'.heap[gb457]? = some (.cells #[(.slice A0_0 l0_0.length c0_0)] 26 (0, 0))) ∧ Aside0 (Below w.heap.size w w'))
   case atStart => exact ⟨(0), rr, H', ⟨Nat.le_refl _⟩, ⟨bo BK457.out⟩, ⟨bw⟩⟩
   case round =>
    clear H'
    try clear c1; try clear hcz11_0; try clear hcz13_0; try clear hcz15_0; try clear hcz19_0; try clear hfz11_0; try clear hfz13_0; try clear hfz15_0; try clear hfz19_0
    obtain ⟨x27_2, rfl, HA, HK2, BK457, HB⟩ := hrel
    cases gk with
    | zero => exact absurd HA.out (by simp [impl_InIdeal.l0])
    | succ k2 =>
     have H := HA.out
     clear HA
     simp only [impl_InIdeal.l0] at H
     replace H := gi H; obtain ⟨c21b0, H⟩ | ⟨c21b0, H⟩ := H
     ·replace H := gd H; obtain ⟨c22b0, H⟩ := H
      replace H := gd H; obtain ⟨c23b0, H⟩ := H
      replace H := ga H; obtain ⟨t463, A24, H⟩ := H
      replace H := gb H; obtain ⟨rfl, H⟩ | ⟨rfl, H⟩ := H
      ·obtain rfl := Option.some.inj H
       obtain ⟨⟨ad462, e462, hx462_0⟩, p462, q462⟩ := pq (Kd.at_int HR1.out x27_2)
       cases e462
       replace hx462_0 := hw HB hx462_0
       go_wp2_with (first | (go_at_fn gF_t461; (with_reducible refine (hF_t461 _ bw (wrap64 (a2 - (rd l1 x27_2))) true A24.out).mono ?_); rintro e w' ⟨rfl, ⟨nd, rfl⟩⟩))
       go_ret
       replace HB := am (below_step HW_.out HB.out)
       exact ⟨re, bw⟩
      have H' := am H
      clear H
      obtain ⟨⟨ad462, e462, hx462_0⟩, p462, q462⟩ := pq (Kd.at_int HR1.out x27_2)
      cases e462
      replace hx462_0 := hw HB hx462_0
      go_wp2_with (first | (go_at_fn gF_t461; (with_reducible refine (hF_t461 _ bw (wrap64 (a2 - (rd l1 x27_2))) false A24.out).mono ?_); rintro e w' ⟨rfl, ⟨nd, rfl⟩⟩))
      go_roundg k2
      case measure => have := HJ3.out; have := HK2.out; omega
      case rel => exact ⟨(wrap64 (x27_2 + 1)), rr, H', ⟨by have := HJ3.out; have := HK2.out; omega⟩, ⟨bo BK457.out⟩, ⟨bw⟩⟩
     obtain rfl := Option.some.inj H
     go_wp2
     go_ret
     replace HB := am (below_step HW_.out HB.out)
     exact ⟨re, bw⟩


/-! ### slices_Sort_int_int: function 102 -/
def slices_Sort_int_int.f (l0 : List Int) : Option (List Int) := if l0.length < 4611686018427387904 then some (l0.mergeSort fun x y => decide (x ≤ y)) else none
theorem slices_Sort_int_int.calls (P0_ : Nat → Prop) (u9000_ : Value) (l0 : List Int) (r : List Int) (w0 w : World) (hB : Below w0.heap.size w0 w) (ho0 : Kd.R (Kd.int .i64) 3 w w0.heap.size P0_ u9000_ l0) (h : slices_Sort_int_int.f l0 = some r) :
  Calls Tryz.prog 102 #[u9000_] w fun e w' => e = .returned (.tuple #[]) ∧ Kd.R (Kd.int .i64) 3 w' w0.heap.size (fun k_ => (P0_ k_ ∨ w.heap.size ≤ k_)) u9000_ r ∧ Below w0.heap.size w0 w' ∧ Kept w w' (fun k_ => P0_ k_) := by
 unfold slices_Sort_int_int.f at h
 by_cases c : l0.length < 4611686018427387904
 rotate_left
 ·rw [if_neg c] at h
  cases h
 rw [if_pos c] at h
 obtain rfl := Option.some.inj h
 rcases (Kd.own_of_R ho0).2 with ⟨rfl, hn⟩ | ⟨g, cap, cur, rfl, hb, hg, h1, h2, h3, h4⟩
 ·have e0 : l0 = [] := List.eq_nil_of_length_eq_zero hn
  subst e0
  refine (Tryz.slices_Sort_int_none none 0 w).mono ?_
  rintro e w' ⟨rfl, rfl⟩
  exact ⟨rfl, by rw [List.mergeSort_nil]; exact Kd.R_mono ho0 (fun k hk => .inl hk), hB, Kept.refl _ _⟩
 ·have hl : g < w.heap.size := (Array.getElem?_eq_some_iff.1 hg).1
  refine (Tryz.slices_Sort_int g 0 cap l0 w (Go.holds_of_blockI hg (by rw [← Nat.mul_one l0.length]; exact h4)) hl c).mono ?_
  rintro e w' ⟨rfl, n, os, rfl⟩
  have hlen : (l0.mergeSort fun x y => decide (x ≤ y)).length = l0.length := List.length_mergeSort ..
  have hgr := Go.grownBy_sortedI (w := w) (g := g) (n := n) (os := os) (l0.mergeSort fun x y => decide (x ≤ y)).toArray
  exact ⟨rfl, Kd.R_of_own (by rw [hlen]; exact Go.ownsRow_sortedI (n := n) (os := os) hlen hb hg h1 h2 h3) (fun k hk => .inl (ho0.1 k hk)),
   ⟨hgr.os.trans hB.os, hgr.tape.trans hB.tape, hgr.output.trans hB.output, Nat.le_trans hB.size hgr.size, fun k hk => (hgr.block k (Nat.lt_of_lt_of_le hk hB.size) (fun e => by injection e with e; omega)).trans (hB.block k hk)⟩,
   ⟨hgr.size, fun i hi hP => hgr.block i hi (fun e => hP (ho0.1 i (by rw [e]; rfl)))⟩⟩


/-! ### slices_Compact_int_int: function 103 -/
def slices_Compact_int_int.f (l0 : List Int) : Option (List Int) := if l0.length ≤ 9223372036854775807 then some (Go.Lib.compact l0) else none
theorem slices_Compact_int_int.calls (P0_ : Nat → Prop) (u9000_ : Value) (l0 : List Int) (r : List Int) (w0 w : World) (hB : Below w0.heap.size w0 w) (ho0 : Kd.R (Kd.int .i64) 3 w w0.heap.size P0_ u9000_ l0) (h : slices_Compact_int_int.f l0 = some r) :
  Calls Tryz.prog 103 #[u9000_] w fun e w' => ∃ v0_ : Value, e = .returned (v0_) ∧ Kd.R (Kd.int .i64) 3 w' w0.heap.size (fun k_ => (P0_ k_ ∨ w.heap.size ≤ k_)) v0_ r ∧ Below w0.heap.size w0 w' ∧ Kept w w' (fun k_ => P0_ k_) := by
 unfold slices_Compact_int_int.f at h
 by_cases c : l0.length ≤ 9223372036854775807
 rotate_left
 ·rw [if_neg c] at h
  cases h
 rw [if_pos c] at h
 obtain rfl := Option.some.inj h
 rcases (Kd.own_of_R ho0).2 with ⟨rfl, hn⟩ | ⟨g, cap, cur, rfl, hb, hg, h1, h2, h3, h4⟩
 ·have e0 : l0 = [] := List.eq_nil_of_length_eq_zero hn
  subst e0
  refine (Tryz.slices_Compact_int_empty none 0 w).mono ?_
  rintro e w' ⟨rfl, rfl⟩
  exact ⟨_, rfl, Kd.R_mono (show Kd.R (Kd.int .i64) 3 w' w0.heap.size P0_ (.slice none 0 0) (Go.Lib.compact []) from ho0) (fun k hk => .inl hk), hB, Kept.refl _ _⟩
 ·have hl : g < w.heap.size := (Array.getElem?_eq_some_iff.1 hg).1
  refine (Tryz.slices_Compact_int g 0 cap l0 w (Go.holds_of_blockI hg (by rw [← Nat.mul_one l0.length]; exact h4)) c h1).mono ?_
  rintro e w' ⟨rfl, q, rfl⟩
  have hk : (Go.Lib.compact l0).length ≤ l0.length := by
   unfold Go.Lib.compact Go.Lib.compactUpTo
   rw [List.length_map]
   exact Nat.le_trans (List.length_filter_le ..) (by rw [List.length_range]; exact Nat.le_refl _)
  have hgr := Go.grownBy_sortedI (w := w) (g := g) (n := q) (os := #[]) (Go.Lib.compact l0 ++ List.replicate (l0.length - (Go.Lib.compact l0).length) 0).toArray
  rw [Go.Sort.grow_empty] at hgr
  have hr := Go.Lib.ownsRow_putRow (q := q) (k := (Go.Lib.compact l0).length) (Kd.own_of_R ho0) (ys := Go.Lib.compact l0 ++ List.replicate (l0.length - (Go.Lib.compact l0).length) 0) (by rw [List.length_append, List.length_replicate]; omega) hk
  rw [List.take_left] at hr
  exact ⟨_, rfl, Kd.R_of_own hr (fun k hk => .inl (ho0.1 k hk)),
   ⟨hgr.os.trans hB.os, hgr.tape.trans hB.tape, hgr.output.trans hB.output, Nat.le_trans hB.size hgr.size, fun k hk => (hgr.block k (Nat.lt_of_lt_of_le hk hB.size) (fun e => by injection e with e; omega)).trans (hB.block k hk)⟩,
   ⟨hgr.size, fun i hi hP => hgr.block i hi (fun e => hP (ho0.1 i (by rw [e]; rfl)))⟩⟩


/-! ### impl_SortList: function 48 -/
def impl_SortList.f (l0 : List Int) : Option (List Int) := (some (([] : List Int) : List Int)).bind fun y583 => (if y583.length + l0.length < 17592186044416 then ((slices_Sort_int_int.f (y583 ++ l0)).bind fun t589 => ((slices_Compact_int_int.f t589).bind fun t590 => (some t590))) else (none))
set_option maxHeartbeats 8000000 in
set_option maxRecDepth 100000 in
theorem impl_SortList.calls (A0 : Option Addr) (c0 : Nat) (l0 : List Int) (r : List Int) (w : World) (hr0 : Kd.C (Kd.int .i64) w A0 l0.length l0) (hc0 : l0.length ≤ c0) (h : impl_SortList.f l0 = some r) :
  Calls Tryz.prog 48 #[.slice A0 l0.length c0] w fun e w' => ∃ v0_ : Value, e = .returned (v0_) ∧ Kd.R (Kd.int .i64) 3 w' w.heap.size (fun _ => True) v0_ r ∧ Below w.heap.size w w' := by
 have HR0 := am hr0
 have HC0 := am hc0
 clear hr0 hc0
 have HB := am (Below.refl w.heap.size w)
 have H : ((some (([] : List Int) : List Int)).bind fun y583 => (if y583.length + l0.length < 17592186044416 then ((slices_Sort_int_int.f (y583 ++ l0)).bind fun t589 => ((slices_Compact_int_int.f t589).bind fun t590 => (some t590))) else (none))) = some r := h
 clear h
 obtain ⟨y583, hy583⟩ : ∃ y_ : List Int, y_ = (([] : List Int)) := ⟨_, rfl⟩
 replace H : (if y583.length + l0.length < 17592186044416 then ((slices_Sort_int_int.f (y583 ++ l0)).bind fun t589 => ((slices_Compact_int_int.f t589).bind fun t590 => (some t590))) else (none)) = some r := by first | (rw [hy583]; with_reducible first | exact H | exact bs H) | (with_reducible first | exact bs H | exact H) | (rw [hy583]; exact H) | exact H
 have Ny583 := am hy583
 clear hy583
 by_cases c2 : y583.length + l0.length < 17592186044416
 rotate_left
 ·rw [if_neg c2] at H
  exact absurd H (by simp)
 rw [if_pos c2] at H
 have LMc2 := am c2
 clear c2
 obtain ⟨y586, hy586⟩ : ∃ y_ : List Int, y_ = (y583 ++ l0) := ⟨_, rfl⟩
 replace H : ((slices_Sort_int_int.f y586).bind fun t589 => ((slices_Compact_int_int.f t589).bind fun t590 => (some t590))) = some r := by first | (rw [hy586]; with_reducible first | exact H | exact bs H) | (with_reducible first | exact bs H | exact H) | (rw [hy586]; exact H) | exact H
 have Ny586 := am hy586
 clear hy586
 replace H := ga H; obtain ⟨t589, A3, H⟩ := H
 replace H := ga H; obtain ⟨t590, A4, H⟩ := H
 obtain rfl := Option.some.inj H
 go_enter Tryz.func48, Tryz.ntmps48
 go_wp2_with (first | ((with_reducible refine gate_dst (N := 4) rfl ?_); refine Kd.R_lit (Kd.int .i64) _ 3 ?hg (N := 4) ?hd (xs := ([] : List Int)) (inner := []) (ok := fun _ => True) (okp := fun _ => True) ?hr ?hp (fun _ hk => hk) trivial (Below.refl _ _) (Nat.le_refl _) (by simp) ?_; (case hd => rfl); (case hg => rfl); (case hr => first | (go_simp; done) | (go_simp; rfl)); (case hp => exact (Reps.none _ _)); intro v584 w5 ho6 hb hg_ hnew_; clear hg_ hnew_; (first | rw [← Ny583.out] at ho6 | (simp only [Int.reduceToNat] at ho6; rw [← Ny583.out] at ho6)); have HO585 := am (Kd.R_lower ho6 (below_size bw)); replace HB := am (below_step bw hb); clear hb ho6) | ((with_reducible refine gate_builtin (b := .append) (xs := #[.tmp 4, .tmp 5]) rfl ?_); at_builtin; refine Kd.R_append_rows (Kd.int .i64) (w0 := w) w.heap.size rfl (.tmp 4) (.tmp 5) 24 3 (.int .i64 0) 8 rfl Tryz.underlying24 info3 rfl (by decide) (by omega) v584 y583 l0 _ _ _ (fun _ => True) (fun _ => False) rfl rfl ?aO ?aR (fun _ _ h => h) (fun _ h => h.elim) ?aF ?aB ?aS ?aL ?_; (case aR => exact co (Kd.C_below HR0.out HB.out)); (case aB => exact bw); (case aF => exact (fun _ _ => trivial)); (case aO => exact (ro HO585.out)); (case aS => exact (below_size bw)); (case aL => have := LMc2.out; omega); intro v587 w7 ho hb hg hat; rw [← Ny586.out] at ho; replace HB := am (hb); have HO588 := am (ho); clear HO585 ho hb hg hat; obtain ⟨Ao8, co8, eo8⟩ := Kd.R_slice HO588.out; subst eo8) | ((with_reducible refine gate_callee (f := 102) rfl ?_); refine goesL_ (some 8) rfl rfl Tryz.func102 (by kernel_rfl) rfl #[.slice Ao8 y586.length co8] rfl (by (try simp only [List.map_toArray, List.map_cons, List.map_nil]); first | done | rfl | (simp only [List.length_drop, List.length_take]; rfl)) ?_; (with_reducible refine (slices_Sort_int_int.calls (fun k_ => some k_ = (.slice Ao8 y586.length co8 : Value).ownBlock) (.slice Ao8 y586.length co8) y586 t589 w _ ?side1 ?side2 A3.out).mono ?_); (case side1 => exact bw); (case side2 => exact Kd.R_tight rfl HO588.out); rintro e w9 ⟨rfl, hy0, hb, hkp⟩; refine ⟨_, rfl, ?_⟩; replace HO588 := am (Kd.R_reok rfl hy0 (fun k_ e_ => HO588.out.1 k_ e_)); replace HB := am (hb); clear hb hkp hy0) | ((with_reducible refine gate_callee (f := 103) rfl ?_); refine goesL_ (some 10) rfl rfl Tryz.func103 (by kernel_rfl) rfl #[.slice Ao8 y586.length co8] rfl (by (try simp only [List.map_toArray, List.map_cons, List.map_nil]); first | done | rfl | (simp only [List.length_drop, List.length_take]; rfl)) ?_; (with_reducible refine (slices_Compact_int_int.calls (fun k_ => some k_ = (.slice Ao8 y586.length co8 : Value).ownBlock) (.slice Ao8 y586.length co8) t589 t590 w _ ?side1 ?side2 A4.out).mono ?_); (case side1 => exact bw); (case side2 => exact Kd.R_tight rfl HO588.out); rintro e w10 ⟨v591, rfl, ho0, hb, hkp⟩; refine ⟨_, rfl, ?_⟩; have HO592 := am (Kd.R_mono (ok' := fun k_ => True) ho0 (fun k_ hk_ => trivial)); replace HB := am (hb); clear HO588 hb hkp ho0))
 go_ret
 exact ⟨_, re, ro HO592.out, bw⟩


/-! ### impl_extreme: function 100 -/
mutual
def impl_extreme.j0 : Nat → List Int → (Int → Int → Option Bool) → Bool → Option (List Int)
 | 0, _, _, _ => none
 | k + 1, x1, x2, x21 => if x21 = true then (some ([] : List Int)) else ((impl_SortList.f x1).bind fun t596 => (impl_extreme.l0 k x2 t596 (([] : List Int)) t596 (t596.length : Int) 0))
def impl_extreme.l0 : Nat → (Int → Int → Option Bool) → List Int → List Int → List Int → Int → Int → Option (List Int)
 | 0, _, _, _, _, _, _ => none
 | k + 1, x2, x7, x8, x25, x26, x27 => if x27 < x26 then (if 0 ≤ x27 then (if x27 < (x25.length : Int) then (impl_extreme.l1 k x2 x7 x8 (rd x25 x27) true x25 x26 x27 x7 (x7.length : Int) 0) else (none)) else (none)) else (some x8)
def impl_extreme.l1 : Nat → (Int → Int → Option Bool) → List Int → List Int → Int → Bool → List Int → Int → Int → List Int → Int → Int → Option (List Int)
 | 0, _, _, _, _, _, _, _, _, _, _, _ => none
 | k + 1, x2, x7, x8, x10, x11, x25, x26, x27, x31, x32, x33 => if x33 < x32 then (if 0 ≤ x33 then (if x33 < (x31.length : Int) then (if x11 = true then (if x10 = (rd x31 x33) then (impl_extreme.l1 k x2 x7 x8 x10 true x25 x26 x27 x31 x32 (wrap64 (x33 + 1))) else ((apF2.f x2 x10 (rd x31 x33)).bind fun t604 => (impl_extreme.l1 k x2 x7 x8 x10 (!t604) x25 x26 x27 x31 x32 (wrap64 (x33 + 1))))) else (impl_extreme.l1 k x2 x7 x8 x10 false x25 x26 x27 x31 x32 (wrap64 (x33 + 1)))) else (none)) else (none)) else (if x11 = true then (if x8.length < 17592186044416 then (impl_extreme.l0 k x2 x7 (x8 ++ [x10]) x25 x26 (wrap64 (x27 + 1))) else (none)) else (impl_extreme.l0 k x2 x7 x8 x25 x26 (wrap64 (x27 + 1))))
end
def impl_extreme.f (k : Nat) (l0_0 : List Int) (l1 : List Int) (a2 : (Int → Int → Option Bool)) : Option (List Int) := (impl_IsSemigroup.f k l0_0).bind fun t594 => (if t594 = true then ((impl_allWithin.f k l1 (-1000000) 1000000).bind fun t595 => (impl_extreme.j0 k l1 a2 (!t595))) else (impl_extreme.j0 k l1 a2 true))
set_option maxHeartbeats 8000000 in
set_option maxRecDepth 100000 in
theorem impl_extreme.calls (k : Nat) (A0_0 : Option Addr) (c0_0 : Nat) (l0_0 : List Int) (A1 : Option Addr) (c1 : Nat) (l1 : List Int) (a2 : (Int → Int → Option Bool)) (F_a2 : Value) (r : List Int) (w : World) (hr0_0 : Kd.C (Kd.int .i64) w A0_0 l0_0.length l0_0) (hc0_0 : l0_0.length ≤ c0_0) (hr1 : Kd.C (Kd.int .i64) w A1 l1.length l1) (hc1 : l1.length ≤ c1) (hF_a2 : FnR2 Tryz.prog w F_a2 a2) (h : impl_extreme.f k l0_0 l1 a2 = some r) :
  Calls Tryz.prog 100 #[.agg #[.slice A0_0 l0_0.length c0_0], .slice A1 l1.length c1, F_a2] w fun e w' => ∃ v0_ : Value, e = .returned (v0_) ∧ Kd.R (Kd.int .i64) 3 w' w.heap.size (fun _ => True) v0_ r ∧ Below w.heap.size w w' := by
 have hu26 := Tryz.underlying26
 have HR0_0 := am hr0_0
 have HC0_0 := am hc0_0
 clear hr0_0 hc0_0
 have HR1 := am hr1
 have HC1 := am hc1
 clear hr1 hc1
 have HB := am (Below.refl w.heap.size w)
 obtain ⟨gF_a2, lF_a2, rfl, eF_a2, hF_a2⟩ := hF_a2
 have H : ((impl_IsSemigroup.f k l0_0).bind fun t594 => (if t594 = true then ((impl_allWithin.f k l1 (-1000000) 1000000).bind fun t595 => (impl_extreme.j0 k l1 a2 (!t595))) else (impl_extreme.j0 k l1 a2 true))) = some r := h
 clear h
 have HC4 := am H
 clear H
 go_enter Tryz.func100, Tryz.ntmps100
 go_upto_region 1 with (first | ((with_reducible refine gate_dst (N := 3) rfl ?_); refine bx 3 #[.slice A0_0 l0_0.length c0_0] 26 ?_; intro gb593 hg w5 hbox hb; have BK593 := am (hbox); have GW593 := am (gs hg : w.heap.size ≤ gb593); have GE593 := GW593; replace HB := am (below_step bw hb); clear hb hbox hg))
 (try simp only [Act.put, List.setIfInBounds_toArray, List.set_cons_zero, List.set_cons_succ])
 go_cut [21] (fun v21 wc => ∃ (kq : Nat) (x21_3 : Bool), v21 = .bool x21_3 ∧ Aside0 (impl_extreme.j0 kq l1 a2 x21_3 = some r) ∧ Aside0 (kq ≤ k) ∧ Aside0 (wc.heap[gb593]? = some (.cells #[(.slice A0_0 l0_0.length c0_0)] 26 (0, 0))) ∧ Aside0 (Below w.heap.size w wc))
 case first =>
  have H := HC4.out
  clear HC4
  replace H := ga H; obtain ⟨t594, A6, H⟩ := H
  replace H := gb H; obtain ⟨rfl, H⟩ | ⟨rfl, H⟩ := H
  ·replace H := ga H; obtain ⟨t595, A8, H⟩ := H
   have H' := am H
   clear H
   have hcz9_0 := bc BK593 0 (.slice A0_0 l0_0.length c0_0)
   have hfz9_0 := blk_frozen BK593.out 0
   go_wp2_with (first | ((with_reducible refine gate_callee (f := 43) rfl ?_); refine goesL_ (some 15) rfl rfl Tryz.func43 (by kernel_rfl) rfl #[.agg #[.slice A0_0 l0_0.length c0_0]] rfl (by (try simp only [List.map_toArray, List.map_cons, List.map_nil]); first | done | rfl | (simp only [List.length_drop, List.length_take]; rfl)) ?_; (with_reducible refine (impl_IsSemigroup.calls k _ _ l0_0 true _ ?side1 ?side2 A6.out).mono ?_); (case side1 => exact co (Kd.C_below HR0_0.out HB.out)); (case side2 => exact HC0_0.out); rintro e w10 ⟨rfl, hb⟩; refine ⟨_, rfl, ?_⟩; replace BK593 := kb BK593 hb; replace HB := am (below_step bw hb); clear hb) | (go_at_call 92; (with_reducible refine (impl_allWithin.calls k _ _ l1 (-1000000) 1000000 t595 _ ?side1 ?side2 A8.out).mono ?_); (case side1 => exact co (Kd.C_below HR1.out HB.out)); (case side2 => exact HC1.out); rintro e w' ⟨rfl, ⟨nd, rfl⟩⟩))
   go_meet
   case rel => exact ⟨_, (!t595), rr, H', ⟨om⟩, ⟨bo BK593.out⟩, ⟨bw⟩⟩
  have H' := am H
  clear H
  have hcz11_0 := bc BK593 0 (.slice A0_0 l0_0.length c0_0)
  have hfz11_0 := blk_frozen BK593.out 0
  go_wp2_with (first | ((with_reducible refine gate_callee (f := 43) rfl ?_); refine goesL_ (some 15) rfl rfl Tryz.func43 (by kernel_rfl) rfl #[.agg #[.slice A0_0 l0_0.length c0_0]] rfl (by (try simp only [List.map_toArray, List.map_cons, List.map_nil]); first | done | rfl | (simp only [List.length_drop, List.length_take]; rfl)) ?_; (with_reducible refine (impl_IsSemigroup.calls k _ _ l0_0 false _ ?side1 ?side2 A6.out).mono ?_); (case side1 => exact co (Kd.C_below HR0_0.out HB.out)); (case side2 => exact HC0_0.out); rintro e w12 ⟨rfl, hb⟩; refine ⟨_, rfl, ?_⟩; replace BK593 := kb BK593 hb; replace HB := am (below_step bw hb); clear hb))
  go_meet
  case rel => exact ⟨_, (true), rr, H', ⟨om⟩, ⟨bo BK593.out⟩, ⟨bw⟩⟩
 case rest =>
  clear HC4
  try clear c1; try clear hcz11_0; try clear hcz9_0; try clear hfz11_0; try clear hfz9_0
  obtain ⟨kq, x21_3, rfl, HA, HJ3, BK593, HB⟩ := hcut
  cases kq with
  | zero => exact absurd HA.out (by simp [impl_extreme.j0])
  | succ kj3 =>
   have H := HA.out
   clear HA
   simp only [impl_extreme.j0] at H
   replace H := gb H; obtain ⟨rfl, H⟩ | ⟨rfl, H⟩ := H
   ·obtain rfl := Option.some.inj H
    go_wp2
    go_ret
    exact ⟨_, re, by first | exact Kd.R_nil _ _ _ _ _ | exact Kd.N_nil _ _ _ _ _ | exact Kd.V_nil _ _ _ _ _ | exact Kd.Q_nil _ _ _ _ _ | exact Kd.S_nil _ _ _ _ _, bw⟩
   replace H := ga H; obtain ⟨t596, A14, H⟩ := H
   obtain ⟨y599, hy599⟩ : ∃ y_ : List Int, y_ = (([] : List Int)) := ⟨_, rfl⟩
   replace H : (impl_extreme.l0 kj3 a2 t596 y599 t596 (t596.length : Int) 0) = some r := by first | (rw [hy599]; with_reducible first | exact H | exact bs H) | (with_reducible first | exact bs H | exact H) | (rw [hy599]; exact H) | exact H
   have Ny599 := am hy599
   clear hy599
   have H' := am H
   clear H
   go_wp2_with (first | ((with_reducible refine gate_callee (f := 48) rfl ?_); refine goesL_ (some 23) rfl rfl Tryz.func48 (by kernel_rfl) rfl #[.slice A1 l1.length c1] rfl (by (try simp only [List.map_toArray, List.map_cons, List.map_nil]); first | done | rfl | (simp only [List.length_drop, List.length_take]; rfl)) ?_; (with_reducible refine (impl_SortList.calls _ _ l1 t596 _ ?side1 ?side2 A14.out).mono ?_); (case side1 => exact co (Kd.C_below HR1.out HB.out)); (case side2 => exact HC1.out); rintro e w15 ⟨v597, rfl, ho0, hb⟩; refine ⟨_, rfl, ?_⟩; have HO598 := am (Kd.R_lower ho0 (below_size bw)); replace BK593 := kb BK593 hb; replace HB := am (below_step bw hb); clear hb ho0) | ((with_reducible refine gate_dst (N := 24) rfl ?_); refine Kd.R_lit (Kd.int .i64) _ 3 ?hg (N := 24) ?hd (xs := ([] : List Int)) (inner := []) (ok := fun _ => True) (okp := fun _ => True) ?hr ?hp (fun _ hk => hk) trivial (Below.refl _ _) (Nat.le_refl _) (by simp) ?_; (case hd => rfl); (case hg => rfl); (case hr => first | (go_simp; done) | (go_simp; rfl)); (case hp => exact (Reps.none _ _)); intro v600 w16 ho17 hb hg_ hnew_; clear hg_ hnew_; (first | rw [← Ny599.out] at ho17 | (simp only [Int.reduceToNat] at ho17; rw [← Ny599.out] at ho17)); have HO601 := am (Kd.R_lower (Kd.R_new' ho17 (Kd.R_lt (ro HO598.out))) (below_size bw)); replace HO598 := am (Kd.R_elder' (ro HO598.out) (Kd.R_base ho17) hb); replace BK593 := kb BK593 hb; replace HB := am (below_step bw hb); clear hb ho17; obtain ⟨Ao18, co18, eo18⟩ := Kd.R_slice HO598.out; subst eo18))
   go_loopg [8, 27] kj3 (fun kq v8 v27 w' => ∃ (x8_2 : List Int) (x27_2 : Int), v27 = .int .i64 x27_2 ∧ Aside0 (impl_extreme.l0 kq a2 t596 x8_2 t596 (t596.length : Int) x27_2 = some r) ∧ Aside0 (kq ≤ kj3) ∧ Aside0 (Kd.R (Kd.int .i64) 3 w' w.heap.size (fun k_ => some k_ ≠ (v8 : Value).ownBlock) (.slice Ao18 t596.length co18) t596) ∧ Aside0 (Kd.R (Kd.int .i64) 3 w' w.heap.size (fun k_ => nb k_ Ao18 t596 co18 ∧ nb k_ Ao18 t596 co18) v8 x8_2) ∧ Aside0 (Kd.R (Kd.int .i64) 3 w' w.heap.size (fun k_ => some k_ ≠ (v8 : Value).ownBlock) (.slice Ao18 t596.length co18) t596) ∧ Aside0 (w'.heap[gb593]? = some (.cells #[(.slice A0_0 l0_0.length c0_0)] 26 (0, 0))) ∧ Aside0 (Below w.heap.size w w'))
   case atStart => exact ⟨(y599), (0), rr, H', ⟨Nat.le_refl _⟩, ⟨by (with_reducible repeat (first | apply Kd.R_alloc | apply Kd.R_drewN | apply Kd.R_drew)); exact Kd.R_mono HO598.out (fun _ hk => hk.2)⟩, ⟨by (with_reducible repeat (first | apply Kd.R_alloc | apply Kd.R_drewN | apply Kd.R_drew)); exact Kd.R_mono HO601.out (fun _ hk => by first | exact ⟨hk.2, hk.2⟩ | simp_all)⟩, ⟨by (with_reducible repeat (first | apply Kd.R_alloc | apply Kd.R_drewN | apply Kd.R_drew)); exact Kd.R_mono HO598.out (fun _ hk => hk.2)⟩, ⟨bo BK593.out⟩, ⟨bw⟩⟩
   case round =>
    clear H'
    try clear c1; try clear hcz11_0; try clear hcz9_0; try clear hfz11_0; try clear hfz9_0
    obtain ⟨x8_2, x27_2, rfl, HA, HK2, HO_7, HO_8, HO_25, BK593, HB⟩ := hrel
    cases gk with
    | zero => exact absurd HA.out (by simp [impl_extreme.l0])
    | succ k2 =>
     have H := HA.out
     clear HA
     simp only [impl_extreme.l0] at H
     replace H := gi H; obtain ⟨c19b0, H⟩ | ⟨c19b0, H⟩ := H
     ·replace H := gd H; obtain ⟨c20b0, H⟩ := H
      replace H := gd H; obtain ⟨c21b0, H⟩ := H
      have H' := am H
      clear H
      obtain ⟨⟨ad602, e602, hx602_0⟩, p602, q602⟩ := pq (Kd.at_int (Kd.R_reads' HO_25.out).2.2 x27_2)
      cases e602
      go_wp2
      go_loopg [11, 33] k2 (fun kq v11 v33 w' => ∃ (x11_3 : Bool) (x33_3 : Int), v11 = .bool x11_3 ∧ v33 = .int .i64 x33_3 ∧ Aside0 (impl_extreme.l1 kq a2 t596 x8_2 (rd t596 x27_2) x11_3 t596 (t596.length : Int) x27_2 t596 (t596.length : Int) x33_3 = some r) ∧ Aside0 (kq ≤ k2) ∧ Aside0 (Kd.R (Kd.int .i64) 3 w' w.heap.size (fun k_ => some k_ ≠ (u8 : Value).ownBlock) (.slice (some ad602) t596.length co18) t596) ∧ Aside0 (Kd.R (Kd.int .i64) 3 w' w.heap.size (fun k_ => some k_ ≠ ((.slice (some ad602) t596.length co18) : Value).ownBlock ∧ some k_ ≠ ((.slice (some ad602) t596.length co18) : Value).ownBlock ∧ some k_ ≠ ((.slice (some ad602) t596.length co18) : Value).ownBlock) u8 x8_2) ∧ Aside0 (Kd.R (Kd.int .i64) 3 w' w.heap.size (fun k_ => some k_ ≠ (u8 : Value).ownBlock) (.slice (some ad602) t596.length co18) t596) ∧ Aside0 (Kd.R (Kd.int .i64) 3 w' w.heap.size (fun k_ => some k_ ≠ (u8 : Value).ownBlock) (.slice (some ad602) t596.length co18) t596) ∧ Aside0 (w'.heap[gb593]? = some (.cells #[(.slice A0_0 l0_0.length c0_0)] 26 (0, 0))) ∧ Aside0 (Below w.heap.size w w'))
      case atStart => exact ⟨(true), (0), rr, rr, H', ⟨Nat.le_refl _⟩, ⟨ro HO_7.out⟩, ⟨by (with_reducible repeat (first | apply Kd.R_alloc | apply Kd.R_drewN | apply Kd.R_drew)); exact Kd.R_mono HO_8.out (fun _ hk => ⟨hk.1, ⟨hk.2, hk.1⟩⟩)⟩, ⟨ro HO_25.out⟩, ⟨ro HO_7.out⟩, ⟨bo BK593.out⟩, ⟨bw⟩⟩
      case round =>
       clear H'
       try clear c1; try clear c19b0; try clear c20b0; try clear c21b0; try clear hcz11_0; try clear hcz9_0; try clear hfz11_0; try clear hfz9_0; try clear hx602_0; try clear p602; try clear q602
       obtain ⟨x11_3, x33_3, rfl, rfl, HA, HK3, HO_7, HO_8, HO_25, HO_31, BK593, HB⟩ := hrel
       cases gk with
       | zero => exact absurd HA.out (by simp [impl_extreme.l1])
       | succ k3 =>
        have H := HA.out
        clear HA
        simp only [impl_extreme.l1] at H
        replace H := gi H; obtain ⟨c22b0, H⟩ | ⟨c22b0, H⟩ := H
        ·replace H := gd H; obtain ⟨c23b0, H⟩ := H
         replace H := gd H; obtain ⟨c24b0, H⟩ := H
         replace H := gb H; obtain ⟨rfl, H⟩ | ⟨rfl, H⟩ := H
         ·by_cases c26 : (rd t596 x27_2) = (rd t596 x33_3)
          ·rw [if_pos c26] at H
           have c26b0 : ((rd t596 x27_2) == (rd t596 x33_3)) = true := beq_iff_eq.mpr c26
           have c26b1 : ((rd t596 x27_2) != (rd t596 x33_3)) = false := bne_eq_false_iff_eq.mpr c26
           clear c26
           have H' := am H
           clear H
           obtain ⟨⟨ad603, e603, hx603_0⟩, p603, q603⟩ := pq (Kd.at_int (Kd.R_reads' HO_31.out).2.2 x33_3)
           obtain rfl : ad602 = ad603 := (by injection e603)
           go_wp2
           go_roundg k3
           case measure => have := HJ3.out; have := HK2.out; have := HK3.out; omega
           case rel => exact ⟨(true), (wrap64 (x33_3 + 1)), rr, rr, H', ⟨by have := HJ3.out; have := HK2.out; have := HK3.out; omega⟩, ⟨ro HO_7.out⟩, ⟨ro HO_8.out⟩, ⟨ro HO_25.out⟩, ⟨ro HO_31.out⟩, ⟨bo BK593.out⟩, ⟨bw⟩⟩
          rw [if_neg c26] at H
          have c26b0 : ((rd t596 x27_2) == (rd t596 x33_3)) = false := beq_eq_false_iff_ne.mpr c26
          have c26b1 : ((rd t596 x27_2) != (rd t596 x33_3)) = true := bne_iff_ne.mpr c26
          replace H := ga H; obtain ⟨t604, A27, H⟩ := H
          have H' := am H
          clear H
          obtain ⟨⟨ad603, e603, hx603_0⟩, p603, q603⟩ := pq (Kd.at_int (Kd.R_reads' HO_31.out).2.2 x33_3)
          obtain rfl : ad602 = ad603 := (by injection e603)
          go_wp2_with (first | (go_at_fn gF_a2; (with_reducible refine (hF_a2 _ bw (rd t596 x27_2) (rd t596 x33_3) t604 A27.out).mono ?_); rintro e w' ⟨rfl, ⟨nd, rfl⟩⟩))
          go_roundg k3
          case measure => have := HJ3.out; have := HK2.out; have := HK3.out; omega
          case rel => exact ⟨(!t604), (wrap64 (x33_3 + 1)), rr, rr, H', ⟨by have := HJ3.out; have := HK2.out; have := HK3.out; omega⟩, ⟨ro HO_7.out⟩, ⟨ro HO_8.out⟩, ⟨ro HO_25.out⟩, ⟨ro HO_31.out⟩, ⟨bo BK593.out⟩, ⟨bw⟩⟩
         have H' := am H
         clear H
         obtain ⟨⟨ad603, e603, hx603_0⟩, p603, q603⟩ := pq (Kd.at_int (Kd.R_reads' HO_31.out).2.2 x33_3)
         obtain rfl : ad602 = ad603 := (by injection e603)
         go_wp2
         go_roundg k3
         case measure => have := HJ3.out; have := HK2.out; have := HK3.out; omega
         case rel => exact ⟨(false), (wrap64 (x33_3 + 1)), rr, rr, H', ⟨by have := HJ3.out; have := HK2.out; have := HK3.out; omega⟩, ⟨ro HO_7.out⟩, ⟨ro HO_8.out⟩, ⟨ro HO_25.out⟩, ⟨ro HO_31.out⟩, ⟨bo BK593.out⟩, ⟨bw⟩⟩
        replace H := gb H; obtain ⟨rfl, H⟩ | ⟨rfl, H⟩ := H
        ·by_cases c29 : x8_2.length < 17592186044416
         rotate_left
         ·rw [if_neg c29] at H
          exact absurd H (by simp)
         rw [if_pos c29] at H
         have LMc29 := am c29
         clear c29
         obtain ⟨y605, hy605⟩ : ∃ y_ : List Int, y_ = (x8_2 ++ [(rd t596 x27_2)]) := ⟨_, rfl⟩
         replace H : (impl_extreme.l0 k3 a2 t596 y605 t596 (t596.length : Int) (wrap64 (x27_2 + 1))) = some r := by first | (rw [hy605]; with_reducible first | exact H | exact bs H) | (with_reducible first | exact bs H | exact H) | (rw [hy605]; exact H) | exact H
         have Ny605 := am hy605
         clear hy605
         have H' := am H
         clear H
         go_wp2_with (first | ((with_reducible refine gate_builtin (b := .append) (xs := #[.tmp 52, .tmp 54]) rfl ?_); at_builtin; refine Kd.R_append (Kd.int .i64) (w0 := w) w.heap.size rfl (.tmp 52) (.tmp 54) 24 3 (.int .i64 0) 8 rfl Tryz.underlying24 info3 rfl (by decide) (by omega) u8 x8_2 (rd t596 x27_2) [.int .i64 (rd t596 x27_2)] (fun k_ => some k_ ≠ (.slice (some ad602) t596.length co18 : Value).ownBlock ∧ some k_ ≠ (.slice (some ad602) t596.length co18 : Value).ownBlock ∧ some k_ ≠ (.slice (some ad602) t596.length co18 : Value).ownBlock) (fun _ => False) rfl rfl ?aP (fun _ hk => hk.elim) ?aF ?aO ?aB ?aS ?aL ?_; (case aP => exact rfl); (case aB => exact bw); (case aF => exact (fun k_ hk => ⟨Kd.fresh' (Kd.R_lt (ro HO_7.out)) k_ hk, Kd.fresh' (Kd.R_lt (ro HO_25.out)) k_ hk, Kd.fresh' (Kd.R_lt (ro HO_31.out)) k_ hk⟩)); (case aO => exact (ro HO_8.out)); (case aS => exact (below_size bw)); (case aL => have := LMc29.out; omega); intro v606 w30 ho hb hg hat; rw [← Ny605.out] at ho; replace HO_7 := am (Kd.R_after (ok := (fun _ => True)) (by (with_reducible repeat (first | apply Kd.R_alloc | apply Kd.R_drewN | apply Kd.R_drew)); exact Kd.R_mono HO_7.out (fun _ hk => ⟨trivial, by first | exact hk | exact (by intro a n m c x h; cases a <;> exact h : ∀ (a : Option Addr) (n m c x : Nat), some x ≠ (Value.slice a n c).ownBlock → some x ≠ (Value.slice a m c).ownBlock) _ _ _ _ _ hk⟩)) hg hat); replace HO_25 := am (Kd.R_after (ok := (fun _ => True)) (by (with_reducible repeat (first | apply Kd.R_alloc | apply Kd.R_drewN | apply Kd.R_drew)); exact Kd.R_mono HO_25.out (fun _ hk => ⟨trivial, by first | exact hk | exact (by intro a n m c x h; cases a <;> exact h : ∀ (a : Option Addr) (n m c x : Nat), some x ≠ (Value.slice a n c).ownBlock → some x ≠ (Value.slice a m c).ownBlock) _ _ _ _ _ hk⟩)) hg hat); replace HO_31 := am (Kd.R_after (ok := (fun _ => True)) (by (with_reducible repeat (first | apply Kd.R_alloc | apply Kd.R_drewN | apply Kd.R_drew)); exact Kd.R_mono HO_31.out (fun _ hk => ⟨trivial, by first | exact hk | exact (by intro a n m c x h; cases a <;> exact h : ∀ (a : Option Addr) (n m c x : Nat), some x ≠ (Value.slice a n c).ownBlock → some x ≠ (Value.slice a m c).ownBlock) _ _ _ _ _ hk⟩)) hg hat); replace BK593 := am (blk_grown (g := gb593) (o := .cells #[.slice A0_0 l0_0.length c0_0] 26 (0, 0)) (bo BK593.out) hg (Kd.R_ne HO_8.out BK593.out (by decide))); replace HB := am (hb); have HO607 := am (ho); clear HO_8 ho hb hg hat))
         go_roundg k3
         case measure => have := HJ3.out; have := HK2.out; have := HK3.out; omega
         case rel => exact ⟨(y605), (wrap64 (x27_2 + 1)), rr, H', ⟨by have := HJ3.out; have := HK2.out; have := HK3.out; omega⟩, ⟨by (with_reducible repeat (first | apply Kd.R_alloc | apply Kd.R_drewN | apply Kd.R_drew)); exact Kd.R_mono HO_7.out (fun _ hk => hk.2)⟩, ⟨by (with_reducible repeat (first | apply Kd.R_alloc | apply Kd.R_drewN | apply Kd.R_drew)); exact Kd.R_mono HO607.out (fun _ hk => by first | exact ⟨hk.1, hk.2.1⟩ | simp_all)⟩, ⟨by (with_reducible repeat (first | apply Kd.R_alloc | apply Kd.R_drewN | apply Kd.R_drew)); exact Kd.R_mono HO_25.out (fun _ hk => hk.2)⟩, ⟨bo BK593.out⟩, ⟨bw⟩⟩
        have H' := am H
        clear H
        go_wp2
        go_roundg k3
        case measure => have := HJ3.out; have := HK2.out; have := HK3.out; omega
        case rel => exact ⟨(x8_2), (wrap64 (x27_2 + 1)), rr, H', ⟨by have := HJ3.out; have := HK2.out; have := HK3.out; omega⟩, ⟨ro HO_7.out⟩, ⟨by (with_reducible repeat (first | apply Kd.R_alloc | apply Kd.R_drewN | apply Kd.R_drew)); exact Kd.R_mono HO_8.out (fun _ hk => by first | exact ⟨hk.1, hk.2.1⟩ | simp_all)⟩, ⟨ro HO_25.out⟩, ⟨bo BK593.out⟩, ⟨bw⟩⟩
     obtain rfl := Option.some.inj H
     go_wp2
     go_ret
     exact ⟨_, re, by (with_reducible repeat (first | apply Kd.R_alloc | apply Kd.R_drewN | apply Kd.R_drew)); exact Kd.R_mono HO_8.out (fun _ hk => trivial), bw⟩


/-! ### impl_MinimalIn: function 47 -/
def impl_MinimalIn.p (p : Int → Option Bool) (x y : Int) : Option Bool := p (wrap64 (x - y))
def impl_MinimalIn.f (k : Nat) (l0_0 l1 : List Int) : Option (List Int) := (impl_reach.f k l0_0).bind fun p => impl_extreme.f k l0_0 l1 (impl_MinimalIn.p p)
set_option maxHeartbeats 8000000 in
theorem impl_MinimalIn.c1 (w : World) (g : Nat) (F : Value) (p : Int → Option Bool) (hbox : w.heap[g]? = some (.cells #[F] 59 (0, 0))) (hF : FnR1 Tryz.prog w F p) : FnR2 Tryz.prog w (.func (.func 101) #[] #[.pointer (some ⟨g, 0, none⟩)]) (impl_MinimalIn.p p) :=
 ⟨101, _, rfl, (fun args w => enters_ Tryz.func101 (by kernel_rfl) rfl args w), fun W hb x y b h => by
  obtain ⟨gF, lF, rfl, eF, hF⟩ := hF
  have hcz : W.cell? ⟨g, 0, none⟩ = some (.func (.func gF) #[] lF) := (blk_cell (blk_below hbox hb) 0).trans rfl
  have HB := Aside0.mk hb
  have h : p (wrap64 (x - y)) = some b := h
  clear hbox hb
  show Calls Tryz.prog 101 #[.int .i64 x, .int .i64 y, .pointer (some ⟨g, 0, none⟩)] W _
  go_enter Tryz.func101, Tryz.ntmps101
  go_wp2_with (first | (go_at_fn gF; (with_reducible refine (hF _ bw (wrap64 (x - y)) b h).mono ?_); rintro e w' ⟨rfl, ⟨nd, rfl⟩⟩))
  go_ret
  exact ⟨re, dw⟩⟩
set_option maxHeartbeats 8000000 in
set_option maxRecDepth 100000 in
theorem impl_MinimalIn.calls (k : Nat) (A0_0 : Option Addr) (c0_0 : Nat) (l0_0 : List Int) (A1 : Option Addr) (c1 : Nat) (l1 : List Int) (r : List Int) (w : World) (hr0_0 : Kd.C (Kd.int .i64) w A0_0 l0_0.length l0_0) (hc0_0 : l0_0.length ≤ c0_0) (hr1 : Kd.C (Kd.int .i64) w A1 l1.length l1) (hc1 : l1.length ≤ c1) (h : impl_MinimalIn.f k l0_0 l1 = some r) :
  Calls Tryz.prog 47 #[.agg #[.slice A0_0 l0_0.length c0_0], .slice A1 l1.length c1] w fun e w' => ∃ v0_ : Value, e = .returned v0_ ∧ Kd.R (Kd.int .i64) 3 w' w.heap.size (fun _ => True) v0_ r ∧ Below w.heap.size w w' := by
 have hu27 := Tryz.underlying26
 have HR0_0 := Aside0.mk hr0_0
 have HC0_0 := Aside0.mk hc0_0
 have HR1 := Aside0.mk hr1
 have HC1 := Aside0.mk hc1
 clear hr0_0 hc0_0 hr1 hc1
 have HB := Aside0.mk (Below.refl w.heap.size w)
 have H : ((impl_reach.f k l0_0).bind fun p => impl_extreme.f k l0_0 l1 (impl_MinimalIn.p p)) = some r := h
 clear h
 replace H := ga H; obtain ⟨t1, A1_, H⟩ := H
 have A2_ := Aside0.mk H
 clear H
 go_enter Tryz.func47, Tryz.ntmps47
 go_wp2_with (first | ((with_reducible refine gate_dst (N := 2) rfl ?_); refine bx 2 #[.slice A0_0 l0_0.length c0_0] 26 ?_; intro gb1 hg w1 hbox hb; have BK1 := Aside0.mk hbox; replace HB := Aside0.mk (below_step bw hb); clear hb hbox hg; have hcz1 := bc BK1 0 (.slice A0_0 l0_0.length c0_0); have hfz1 := blk_frozen BK1.out 0) | ((with_reducible refine gate_callee (f := 46) rfl ?_); refine gl (some 7) Tryz.func46 #[.agg #[.slice A0_0 l0_0.length c0_0]] ?_; (with_reducible refine (impl_reach.calls k _ _ l0_0 t1 _ ?side1 ?side2 A1_.out).mono ?_); (case side1 => exact co (Kd.C_below HR0_0.out HB.out)); (case side2 => exact HC0_0.out); rintro e w2 ⟨F_t1, rfl, hF_t1, hb⟩; refine ⟨_, rfl, ?_⟩; clear hcz1 hfz1; replace BK1 := Aside0.mk (blk_below (g := gb1) (o := .cells #[.slice A0_0 l0_0.length c0_0] 26 (0, 0)) (bo BK1.out) hb); have HW_ := Aside0.mk (below_step bw hb : Below w.heap.size w w2); replace HR0_0 := Aside0.mk (Kd.C_below HR0_0.out HW_.out); replace HR1 := Aside0.mk (Kd.C_below HR1.out HW_.out); clear HB hb; have HB := Aside0.mk (Below.refl w2.heap.size w2); obtain ⟨gF, lF, eF_⟩ : ∃ g lb, F_t1 = .func (.func g) #[] lb := (by obtain ⟨g, lb, h, _⟩ := hF_t1; exact ⟨g, lb, h⟩); subst eF_; have HF_ := Aside0.mk hF_t1; clear hF_t1; obtain ⟨w, rfl⟩ : ∃ x_, x_ = w2 := ⟨_, rfl⟩; have hcz1 := bc BK1 0 (.slice A0_0 l0_0.length c0_0); have hfz1 := blk_frozen BK1.out 0) | ((with_reducible refine gate_dst (N := 5) rfl ?_); refine bx 5 #[.nilFunc] 59 ?_; intro gb2 hg w3 hbox hb; have GE2 := Aside0.mk (gs hg : w.heap.size ≤ gb2); have NB12 := Aside0.mk ((by rw [hg]; exact Nat.ne_of_lt (blk_lt (g := gb1) (o := .cells #[.slice A0_0 l0_0.length c0_0] 26 (0, 0)) (bo BK1.out)) : gb1 ≠ gb2)); clear hcz1 hfz1; replace BK1 := Aside0.mk (blk_below (g := gb1) (o := .cells #[.slice A0_0 l0_0.length c0_0] 26 (0, 0)) (bo BK1.out) hb); have BK2 := Aside0.mk hbox; replace HB := Aside0.mk (below_step bw hb); clear hb hbox hg; have hnb1 := NB12.out; have hnc1 := NB12.out.symm; have hcz1 := bc BK1 0 (.slice A0_0 l0_0.length c0_0); have hfz1 := blk_frozen BK1.out 0; have hcz2 := bc BK2 0 .nilFunc; have hfz2 := blk_frozen BK2.out 0) | ((with_reducible refine gate_callee (f := 100) rfl ?_); refine gl (some 11) Tryz.func100 #[.agg #[.slice A0_0 l0_0.length c0_0], .slice A1 l1.length c1, .func (.func 101) #[] #[.pointer (some ⟨gb2, 0, none⟩)]] ?_; (with_reducible refine (impl_extreme.calls k _ _ l0_0 _ _ l1 (impl_MinimalIn.p t1) (.func (.func 101) #[] #[.pointer (some ⟨gb2, 0, none⟩)]) r _ ?side1 ?side2 ?side3 ?side4 ?side5 A2_.out).mono ?_); (case side1 => exact Kd.C_below HR0_0.out bw); (case side2 => exact HC0_0.out); (case side3 => exact Kd.C_below HR1.out bw); (case side4 => exact HC1.out); (case side5 => exact impl_MinimalIn.c1 _ gb2 (.func (.func gF) #[] lF) t1 (by (with_reducible repeat (first | refine blk_drewN ?_ _ | refine blk_drew ?_ | refine blk_alloc ?_ _)); exact blk_put (cs := #[.nilFunc]) (bo BK2.out) 0 _ rfl) (FnR1.below HF_.out bw)); rintro e w4 ⟨v, rfl, ho0, hb⟩; refine ⟨_, rfl, ?_⟩; have HO := Aside0.mk (Kd.R_lower ho0 (below_size bw)); replace HB := Aside0.mk (below_step bw hb); clear hb ho0))
 go_ret
 exact ⟨_, rfl, Kd.R_lower (ro HO.out) (below_size HW_.out), below_step HW_.out bw⟩


/-! ### impl_IdealGens: function 8 -/
def impl_IdealGens.f (k : Nat) (l0_0 : List Int) (l1 : List Int) : Option (List Int) := (impl_IsSemigroup.f k l0_0).bind fun t609 => (if t609 = true then ((impl_idealList.f k l1).bind fun t610 => (if t610 = true then ((impl_MinimalIn.f k l0_0 l1).bind fun t611 => (some t611)) else (some ([] : List Int)))) else (some ([] : List Int)))
set_option maxHeartbeats 8000000 in
set_option maxRecDepth 100000 in
theorem impl_IdealGens.calls (k : Nat) (A0_0 : Option Addr) (c0_0 : Nat) (l0_0 : List Int) (A1 : Option Addr) (c1 : Nat) (l1 : List Int) (r : List Int) (w : World) (hr0_0 : Kd.C (Kd.int .i64) w A0_0 l0_0.length l0_0) (hc0_0 : l0_0.length ≤ c0_0) (hr1 : Kd.C (Kd.int .i64) w A1 l1.length l1) (hc1 : l1.length ≤ c1) (h : impl_IdealGens.f k l0_0 l1 = some r) :
  Calls Tryz.prog 8 #[.agg #[.slice A0_0 l0_0.length c0_0], .slice A1 l1.length c1] w fun e w' => ∃ v0_ : Value, e = .returned (v0_) ∧ Kd.R (Kd.int .i64) 3 w' w.heap.size (fun _ => True) v0_ r ∧ Below w.heap.size w w' := by
 have hu26 := Tryz.underlying26
 have HR0_0 := am hr0_0
 have HC0_0 := am hc0_0
 clear hr0_0 hc0_0
 have HR1 := am hr1
 have HC1 := am hc1
 clear hr1 hc1
 have HB := am (Below.refl w.heap.size w)
 have H : ((impl_IsSemigroup.f k l0_0).bind fun t609 => (if t609 = true then ((impl_idealList.f k l1).bind fun t610 => (if t610 = true then ((impl_MinimalIn.f k l0_0 l1).bind fun t611 => (some t611)) else (some ([] : List Int)))) else (some ([] : List Int)))) = some r := h
 clear h
 replace H := ga H; obtain ⟨t609, A3, H⟩ := H
 replace H := gb H; obtain ⟨rfl, H⟩ | ⟨rfl, H⟩ := H
 ·replace H := ga H; obtain ⟨t610, A5, H⟩ := H
  replace H := gb H; obtain ⟨rfl, H⟩ | ⟨rfl, H⟩ := H
  ·replace H := ga H; obtain ⟨t611, A7, H⟩ := H
   obtain rfl := Option.some.inj H
   go_enter Tryz.func8, Tryz.ntmps8
   go_wp2_with (first | ((with_reducible refine gate_dst (N := 2) rfl ?_); refine bx 2 #[.slice A0_0 l0_0.length c0_0] 26 ?_; intro gb608 hg w8 hbox hb; have BK608 := am (hbox); have GW608 := am (gs hg : w.heap.size ≤ gb608); have GE608 := GW608; replace HB := am (below_step bw hb); clear hb hbox hg; have hcz9_0 := bc BK608 0 (.slice A0_0 l0_0.length c0_0); have hfz9_0 := blk_frozen BK608.out 0) | ((with_reducible refine gate_callee (f := 43) rfl ?_); refine goesL_ (some 6) rfl rfl Tryz.func43 (by kernel_rfl) rfl #[.agg #[.slice A0_0 l0_0.length c0_0]] rfl (by (try simp only [List.map_toArray, List.map_cons, List.map_nil]); first | done | rfl | (simp only [List.length_drop, List.length_take]; rfl)) ?_; (with_reducible refine (impl_IsSemigroup.calls k _ _ l0_0 true _ ?side1 ?side2 A3.out).mono ?_); (case side1 => exact co (Kd.C_below HR0_0.out HB.out)); (case side2 => exact HC0_0.out); rintro e w10 ⟨rfl, hb⟩; refine ⟨_, rfl, ?_⟩; replace BK608 := kb BK608 hb; replace HB := am (below_step bw hb); clear hb) | (go_at_call 44; (with_reducible refine (impl_idealList.calls k _ _ l1 true _ ?side1 ?side2 A5.out).mono ?_); (case side1 => exact co (Kd.C_below HR1.out HB.out)); (case side2 => exact HC1.out); rintro e w' ⟨rfl, ⟨nd, rfl⟩⟩; have hcz11_0 := bc BK608 0 (.slice A0_0 l0_0.length c0_0); have hfz11_0 := blk_frozen BK608.out 0) | ((with_reducible refine gate_callee (f := 47) rfl ?_); refine goesL_ (some 15) rfl rfl Tryz.func47 (by kernel_rfl) rfl #[.agg #[.slice A0_0 l0_0.length c0_0], .slice A1 l1.length c1] rfl (by (try simp only [List.map_toArray, List.map_cons, List.map_nil]); first | done | rfl | (simp only [List.length_drop, List.length_take]; rfl)) ?_; (with_reducible refine (impl_MinimalIn.calls k _ _ l0_0 _ _ l1 t611 _ ?side1 ?side2 ?side3 ?side4 A7.out).mono ?_); (case side1 => exact co (Kd.C_below HR0_0.out bw)); (case side2 => exact HC0_0.out); (case side3 => exact co (Kd.C_below HR1.out bw)); (case side4 => exact HC1.out); rintro e w12 ⟨v612, rfl, ho0, hb⟩; refine ⟨_, rfl, ?_⟩; have HO613 := am (Kd.R_lower ho0 (below_size bw)); replace BK608 := kb BK608 hb; replace HB := am (below_step bw hb); clear hb ho0))
   go_ret
   exact ⟨_, re, ro HO613.out, bw⟩
  obtain rfl := Option.some.inj H
  go_enter Tryz.func8, Tryz.ntmps8
  go_wp2_with (first | ((with_reducible refine gate_dst (N := 2) rfl ?_); refine bx 2 #[.slice A0_0 l0_0.length c0_0] 26 ?_; intro gb608 hg w13 hbox hb; have BK608 := am (hbox); have GW608 := am (gs hg : w.heap.size ≤ gb608); have GE608 := GW608; replace HB := am (below_step bw hb); clear hb hbox hg; have hcz14_0 := bc BK608 0 (.slice A0_0 l0_0.length c0_0); have hfz14_0 := blk_frozen BK608.out 0) | ((with_reducible refine gate_callee (f := 43) rfl ?_); refine goesL_ (some 6) rfl rfl Tryz.func43 (by kernel_rfl) rfl #[.agg #[.slice A0_0 l0_0.length c0_0]] rfl (by (try simp only [List.map_toArray, List.map_cons, List.map_nil]); first | done | rfl | (simp only [List.length_drop, List.length_take]; rfl)) ?_; (with_reducible refine (impl_IsSemigroup.calls k _ _ l0_0 true _ ?side1 ?side2 A3.out).mono ?_); (case side1 => exact co (Kd.C_below HR0_0.out HB.out)); (case side2 => exact HC0_0.out); rintro e w15 ⟨rfl, hb⟩; refine ⟨_, rfl, ?_⟩; replace BK608 := kb BK608 hb; replace HB := am (below_step bw hb); clear hb) | (go_at_call 44; (with_reducible refine (impl_idealList.calls k _ _ l1 false _ ?side1 ?side2 A5.out).mono ?_); (case side1 => exact co (Kd.C_below HR1.out HB.out)); (case side2 => exact HC1.out); rintro e w' ⟨rfl, ⟨nd, rfl⟩⟩))
  go_ret
  exact ⟨_, re, by first | exact Kd.R_nil _ _ _ _ _ | exact Kd.N_nil _ _ _ _ _ | exact Kd.V_nil _ _ _ _ _ | exact Kd.Q_nil _ _ _ _ _ | exact Kd.S_nil _ _ _ _ _, bw⟩
 obtain rfl := Option.some.inj H
 go_enter Tryz.func8, Tryz.ntmps8
 go_wp2_with (first | ((with_reducible refine gate_dst (N := 2) rfl ?_); refine bx 2 #[.slice A0_0 l0_0.length c0_0] 26 ?_; intro gb608 hg w16 hbox hb; have BK608 := am (hbox); have GW608 := am (gs hg : w.heap.size ≤ gb608); have GE608 := GW608; replace HB := am (below_step bw hb); clear hb hbox hg; have hcz17_0 := bc BK608 0 (.slice A0_0 l0_0.length c0_0); have hfz17_0 := blk_frozen BK608.out 0) | ((with_reducible refine gate_callee (f := 43) rfl ?_); refine goesL_ (some 6) rfl rfl Tryz.func43 (by kernel_rfl) rfl #[.agg #[.slice A0_0 l0_0.length c0_0]] rfl (by (try simp only [List.map_toArray, List.map_cons, List.map_nil]); first | done | rfl | (simp only [List.length_drop, List.length_take]; rfl)) ?_; (with_reducible refine (impl_IsSemigroup.calls k _ _ l0_0 false _ ?side1 ?side2 A3.out).mono ?_); (case side1 => exact co (Kd.C_below HR0_0.out HB.out)); (case side2 => exact HC0_0.out); rintro e w18 ⟨rfl, hb⟩; refine ⟨_, rfl, ?_⟩; replace BK608 := kb BK608 hb; replace HB := am (below_step bw hb); clear hb))
 go_ret
 exact ⟨_, re, by first | exact Kd.R_nil _ _ _ _ _ | exact Kd.N_nil _ _ _ _ _ | exact Kd.V_nil _ _ _ _ _ | exact Kd.Q_nil _ _ _ _ _ | exact Kd.S_nil _ _ _ _ _, bw⟩


/-! ### spec_DrawIdealSum: function 9 -/
def spec_DrawIdealSum.f (k : Nat) (l0 : List Int) : Option (List Int × List Int × List Int) := (spec_l1New.f k l0).bind fun bt615 => ((spec_l3Bent.f k bt615.1 bt615.2.1 bt615.2.2).bind fun bt619 => ((spec_l16Draw.f k bt615.1 bt619.2.1 bt619.2.2).bind fun bt625 => ((spec_l16Draw.f k bt615.1 bt625.2.1 bt625.2.2).bind fun bt630 => (some (bt619.1, bt625.1, bt630.1)))))
set_option maxHeartbeats 8000000 in
set_option maxRecDepth 100000 in
theorem spec_DrawIdealSum.calls (k : Nat) (A0 : Option Addr) (c0 : Nat) (l0 : List Int) (r1 : List Int) (r2 : List Int) (r3 : List Int) (w : World) (hr0 : Kd.C (Kd.int .u8) w A0 l0.length l0) (hc0 : l0.length ≤ c0) (h : spec_DrawIdealSum.f k l0 = some (r1, r2, r3)) :
  Calls Tryz.prog 9 #[.slice A0 l0.length c0] w fun e w' => ∃ v0_ v1_ v2_ : Value, e = .returned (.tuple #[.agg #[v0_], v1_, v2_]) ∧ Kd.Q (Kd.int .i64) 3 w' w.heap.size (fun k_ => some k_ ≠ (v1_ : Value).ownBlock ∧ some k_ ≠ (v2_ : Value).ownBlock) v0_ r1 ∧ Kd.R (Kd.int .i64) 3 w' w.heap.size (fun k_ => some k_ ≠ (v0_ : Value).ownBlock ∧ some k_ ≠ (v2_ : Value).ownBlock) v1_ r2 ∧ Kd.R (Kd.int .i64) 3 w' w.heap.size (fun k_ => some k_ ≠ (v0_ : Value).ownBlock ∧ some k_ ≠ (v1_ : Value).ownBlock) v2_ r3 ∧ Below w.heap.size w w' := by
 have hu26 := Tryz.underlying26
 have HR0 := am hr0
 have HC0 := am hc0
 clear hr0 hc0
 have HB := am (Below.refl w.heap.size w)
 have H : ((spec_l1New.f k l0).bind fun bt615 => ((spec_l3Bent.f k bt615.1 bt615.2.1 bt615.2.2).bind fun bt619 => ((spec_l16Draw.f k bt615.1 bt619.2.1 bt619.2.2).bind fun bt625 => ((spec_l16Draw.f k bt615.1 bt625.2.1 bt625.2.2).bind fun bt630 => (some (bt619.1, bt625.1, bt630.1)))))) = some (r1, r2, r3) := h
 clear h
 replace H := ga H; obtain ⟨⟨t615, t616, t617⟩, A2, H⟩ := H
 replace H : ((spec_l3Bent.f k t615 t616 t617).bind fun bt619 => ((spec_l16Draw.f k t615 bt619.2.1 bt619.2.2).bind fun bt625 => ((spec_l16Draw.f k t615 bt625.2.1 bt625.2.2).bind fun bt630 => (some (bt619.1, bt625.1, bt630.1))))) = some (r1, r2, r3) := H
 replace H := ga H; obtain ⟨⟨t619, t622, t623⟩, A3, H⟩ := H
 replace H : ((spec_l16Draw.f k t615 t622 t623).bind fun bt625 => ((spec_l16Draw.f k t615 bt625.2.1 bt625.2.2).bind fun bt630 => (some (t619, bt625.1, bt630.1)))) = some (r1, r2, r3) := H
 replace H := ga H; obtain ⟨⟨t625, t628, t629⟩, A4, H⟩ := H
 replace H : ((spec_l16Draw.f k t615 t628 t629).bind fun bt630 => (some (t619, t625, bt630.1))) = some (r1, r2, r3) := H
 replace H := ga H; obtain ⟨⟨t630, t633, t634⟩, A5, H⟩ := H
 replace H : (some (t619, t625, t630)) = some (r1, r2, r3) := H
 simp only [Option.some.injEq, Prod.mk.injEq] at H
 obtain ⟨rfl, rfl, rfl⟩ := H
 go_enter Tryz.func9, Tryz.ntmps9
 try go_wp2_with (first | ((with_reducible refine gate_dst (N := 2) rfl ?_); refine bx 2 #[.slice none 0 0] 26 ?_; intro gb614 hg w6 hbox hb; have BK614 := am (hbox); have GW614 := am (gs hg : w.heap.size ≤ gb614); have GE614 := GW614; replace HB := am (below_step bw hb); clear hb hbox hg) | ((with_reducible refine gate_callee (f := 38) rfl ?_); refine goesL_ (some 9) rfl rfl Tryz.func38 (by kernel_rfl) rfl #[.slice A0 l0.length c0] rfl (by (try simp only [List.map_toArray, List.map_cons, List.map_nil]); first | done | rfl | (simp only [List.length_drop, List.length_take]; rfl)) ?_; (with_reducible refine (spec_l1New.calls k _ _ l0 t615 t616 t617 w _ ?side1 ?side2 ?side3 A2.out).mono ?_); (case side1 => exact bw); (case side2 => exact HR0.out); (case side3 => exact HC0.out); rintro e w7 ⟨g618, rfl, hi, hb, hb2⟩; refine ⟨_, rfl, ?_⟩; replace HB := am (hb); have HI618 := am (hi); have NB618_614 := am (IsS74.ne_blk hi (blk_below (g := gb614) (o := .cells #[.slice none 0 0] 26 (0, 0)) (bo BK614.out) hb2) (by decide)); have NB614_618 := ns NB618_614; replace BK614 := kb BK614 hb2; clear hb hb2 hi) | ((with_reducible refine gate_callee (f := 39) rfl ?_); refine goesL_ (some 11) rfl rfl Tryz.func39 (by kernel_rfl) rfl #[.pointer (some ⟨g618, 0, none⟩)] rfl (by (try simp only [List.map_toArray, List.map_cons, List.map_nil]); first | done | rfl | (simp only [List.length_drop, List.length_take]; rfl)) ?_; (with_reducible refine (spec_l3Bent.calls k g618 t615 t616 t617 t619 t622 t623 w _ ?side1 ?side2 A3.out).mono ?_); (case side1 => exact iw HI618.out); (case side2 => exact bv); rintro e w8 ⟨v620, rfl, ho0, hi, hb, hk⟩; refine ⟨_, rfl, ?_⟩; replace BK614 := kk hk BK614 NB614_618; have HO621 := am (Kd.Q_lower ho0 (below_size bv)); replace HB := am (hb); replace HI618 := am (hi); clear hb hk hi ho0) | ((with_reducible refine gate_dst (N := 6) rfl ?_); refine bx 6 #[.slice none 0 0] 26 ?_; intro gb624 hg w9 hbox hb; replace HO621 := qK HO621 hb; have BK624 := am (hbox); have GW624 := am ((by rw [hg]; exact (below_size bv) : w.heap.size ≤ gb624)); have GE624 := GW624; replace HB := am (below_step bv hb); have NB614_624 := nl hg BK614; have NB624_614 := ns NB614_624; replace BK614 := kb BK614 hb; have NB618_624 := am ((by rw [hg]; exact Nat.ne_of_lt (IsS74.lt (show IsS74 w _ g618 t615 t622 t623 from (iw HI618.out))) : g618 ≠ gb624)); have NB624_618 := ns NB618_624; replace HI618 := am (IsS74.below (iw HI618.out) hb); clear hb hbox hg; obtain ⟨Ao10, co10, eo10, _⟩ := Kd.Q_slice HO621.out; subst eo10; have hnb11 := NB624_614.out; have hnc11 := NB614_624.out; have hnb12 := NB624_618.out; have hnc12 := NB618_624.out; have hcz13_0 := bc BK624 0 (.slice none 0 0); have hfz13_0 := blk_frozen BK624.out 0) | ((with_reducible refine gate_callee (f := 40) rfl ?_); refine goesL_ (some 13) rfl rfl Tryz.func40 (by kernel_rfl) rfl #[.pointer (some ⟨g618, 0, none⟩)] rfl (by (try simp only [List.map_toArray, List.map_cons, List.map_nil]); first | done | rfl | (simp only [List.length_drop, List.length_take]; rfl)) ?_; (with_reducible refine (spec_l16Draw.calls k g618 t615 t622 t623 t625 t628 t629 w _ ?side1 ?side2 A4.out).mono ?_); (case side1 => exact iw HI618.out); (case side2 => exact bv); rintro e w14 ⟨v626, rfl, ho0, hi, hb, hk⟩; refine ⟨_, rfl, ?_⟩; replace BK614 := kk hk BK614 NB614_618; have HO627 := am (Kd.R_lower (Kd.R_new' ho0 (Kd.Q_lt (qF HO621 BK624 (.slice Ao10 t619.length co10)))) (below_size bv)); replace HO621 := am (Kd.Q_mono (Kd.Q_told (Kd.Q_oldK (IsS74.apartQ (show IsS74 w _ g618 t615 t622 t623 from (iw HI618.out)) (qF HO621 BK624 (.slice Ao10 t619.length co10)) (by decide)) hk) (Kd.R_base ho0)) (fun _ h_ => h_.1)); replace BK624 := am (KeepBut.blk hk (g' := gb624) (o := .cells #[.slice Ao10 t619.length co10] 26 (0, 0)) (by (with_reducible repeat (first | refine blk_drewN ?_ _ | refine blk_drew ?_ | refine blk_alloc ?_ _)); refine blk_put (cs := #[.slice none 0 0]) ?_ 0 _ rfl; (with_reducible repeat (first | refine blk_drewN ?_ _ | refine blk_drew ?_ | refine blk_alloc ?_ _)); exact BK624.out) NB624_618.out (by simp)); replace HB := am (hb); replace HI618 := am (hi); clear hb hk hi ho0))
 replace HO621 := am (Kd.Q_drew HO621.out)
 replace HO627 := am (Kd.R_drew HO627.out)
 replace BK614 := bd BK614
 replace BK624 := bd BK624
 replace HI618 := am (IsS74.drew HI618.out)
 replace HB := am (below_drew1 HB.out)
 refine start_ (n := 7) (S := fun w' => w'.cell? ⟨gb624, 0, none⟩ = some (.slice Ao10 t619.length co10)) (ds := []) (yz 7 0) (by kernel_rfl) rfl rfl (bc BK624 0 _) (fun hHeld => ?_)
 generalize w14.drew = w15 at HO621 HO627 BK614 BK624 HI618 HB hHeld ⊢
 refine pure_ (i := 1) (N := some 15) (v := ?_) (a' := ?_) (yz 7 2) rfl rfl (by kernel_rfl) (fun _ _ _ h => h) (Or.inl ⟨by rfl, ?_⟩) ?_ ?_
 rotate_left
 ·intro w'
  go_simp
  with_reducible rfl
 rotate_left
 ·simp only [Act.put, qa, qb, qc, i64_w, i32_w]
  rfl
 refine pure_ (i := 2) (N := some 16) (v := ?_) (a' := ?_) (yz 7 6) rfl rfl (by kernel_rfl) (fun _ _ _ h => h) (Or.inl ⟨by rfl, ?_⟩) ?_ ?_
 rotate_left
 ·intro w'
  go_simp
  with_reducible rfl
 rotate_left
 ·simp only [Act.put, qa, qb, qc, i64_w, i32_w]
  rfl
 refine tQ 0 (some 14) (yz 7 7) hHeld ?_
 refine one_ (i := 3) (N := some 17) (yz 7 15) rfl rfl (by kernel_rfl) (by decide) (fun K hK => ?_)
 refine goes_ Tryz.func40 (by kernel_rfl) rfl #[.pointer (some ⟨g618, 0, none⟩)] (by rfl) rfl rfl (by (try simp only [List.map_toArray, List.map_cons, List.map_nil]); first | done | rfl | (simp only [List.length_drop, List.length_take]; rfl)) ?_
 with_reducible refine (spec_l16Draw.calls k g618 t615 t628 t629 t630 t633 t634 w _ ?side1 ?side2 A5.out).mono ?_
 (case side1 => exact iw HI618.out)
 (case side2 => exact bv)
 rintro e w16 ⟨v631, rfl, ho0, hi, hb, hk⟩
 refine ⟨_, rfl, ?_⟩
 replace BK614 := kk hk BK614 NB614_618
 replace BK624 := kk hk BK624 NB624_618
 have HO632 := am (Kd.R_lower (Kd.R_new' (Kd.R_new' ho0 (Kd.Q_lt (qo HO621.out))) (Kd.R_lt (ro HO627.out))) (below_size bv))
 replace HO621 := am (Kd.Q_mono (Kd.Q_told (Kd.Q_oldK (IsS74.apartQ (show IsS74 w _ g618 t615 t628 t629 from (iw HI618.out)) (qo HO621.out) (by decide)) hk) (Kd.R_base ho0)) (fun _ h_ => h_.1))
 replace HO627 := am (Kd.R_mono (Kd.R_told (Kd.R_oldK (IsS74.apart (show IsS74 w _ g618 t615 t628 t629 from (iw HI618.out)) (ro HO627.out) (by decide)) hk) (Kd.R_base ho0)) (fun _ h_ => h_.1))
 replace HB := am (hb)
 replace HI618 := am (hi)
 clear hb hk hi ho0
 refine hK.out _ _ (bc BK624 0 _) (fun hHeld => ?_)
 clear hK K
 refine nm (some 17) ?_
 refine one_ (i := 4) (N := none) (yz 7 31) rfl rfl (by kernel_rfl) (by decide) (fun K hK => ?_)
 have hs17 := bc BK614 0 (.slice none 0 0)
 have hfs17 := blk_frozen BK614.out 0
 have hns17_1 := NB624_614.out
 have hms17_1 := NB614_624.out
 refine skip_ (w1 := ?_) (by rfl) rfl ?_ ?_
 rotate_left
 ·go_simp
  rfl
 refine hK.out _ _ (((cell_far (p := ⟨gb614, _, none⟩) NB624_614.out _).trans (hHeld))) (fun hHeld => ?_)
 clear hK K
 refine pure_ (i := 5) (N := some 3) (v := ?_) (a' := ?_) (yz 7 63) rfl rfl (by kernel_rfl) (fun _ _ _ h => h) (Or.inl ⟨by rfl, ?_⟩) ?_ ?_
 rotate_left
 ·intro w'
  go_simp
  with_reducible rfl
 rotate_left
 ·simp only [Act.put, qa, qb, qc, i64_w, i32_w]
  rfl
 refine pure_ (i := 6) (N := some 4) (v := ?_) (a' := ?_) (yz 7 127) rfl rfl (by kernel_rfl) (fun _ _ _ h => h) (Or.inl ⟨by rfl, ?_⟩) ?_ ?_
 rotate_left
 ·intro w'
  go_simp
  with_reducible rfl
 rotate_left
 ·simp only [Act.put, qa, qb, qc, i64_w, i32_w]
  rfl
 refine done_ (by kernel_rfl) ?_
 try go_wp2
 refine bodyPost_ret (results_ctt rfl _ _ gb614 26 #[.slice Ao10 t619.length co10] (0, 0) _ rfl (by (with_reducible repeat (first | refine blk_drewN ?_ _ | refine blk_drew ?_ | refine blk_alloc ?_ _)); refine blk_put (cs := #[.slice none 0 0]) ?_ 0 _ rfl; (with_reducible repeat (first | refine blk_drewN ?_ _ | refine blk_drew ?_ | refine blk_alloc ?_ _)); exact BK614.out) Tryz.underlying26 rfl (by kernel_rfl)) rfl ?_
 exact ⟨_, _, _, re, by (with_reducible repeat (first | apply Kd.Q_alloc | apply Kd.Q_drewN | apply Kd.Q_drew)); exact Kd.Q_mono (Kd.Q_far (p := ⟨gb614, 0, none⟩) (Kd.Q_types HO621.out BK614.out (by decide)) (fun _ hk => hk.2) (.slice Ao10 t619.length co10)) (fun _ hk => by first | exact ⟨hk.1.1.2, hk.1.2⟩ | simp_all), by (with_reducible repeat (first | apply Kd.R_alloc | apply Kd.R_drewN | apply Kd.R_drew)); exact Kd.R_mono (Kd.R_far (p := ⟨gb614, 0, none⟩) (Kd.R_types HO627.out BK614.out (by decide)) (fun _ hk => hk.2) (.slice Ao10 t619.length co10)) (fun _ hk => by first | exact ⟨hk.1.1.2, hk.1.2⟩ | simp_all), by (with_reducible repeat (first | apply Kd.R_alloc | apply Kd.R_drewN | apply Kd.R_drew)); exact Kd.R_mono (Kd.R_far (p := ⟨gb614, 0, none⟩) (Kd.R_types HO632.out BK614.out (by decide)) (fun _ hk => hk.2) (.slice Ao10 t619.length co10)) (fun _ hk => by first | exact ⟨hk.1.1.2, hk.1.2⟩ | simp_all), bv⟩


/-! ### spec_DrawDualGens: function 10 -/
def spec_DrawDualGens.f (k : Nat) (l0 : List Int) : Option (List Int × List Int) := (spec_DrawInIdeal.f k l0).bind fun bt636 => (some (bt636.1, bt636.2.1))
set_option maxHeartbeats 8000000 in
set_option maxRecDepth 100000 in
theorem spec_DrawDualGens.calls (k : Nat) (A0 : Option Addr) (c0 : Nat) (l0 : List Int) (r1 : List Int) (r2 : List Int) (w : World) (hr0 : Kd.C (Kd.int .u8) w A0 l0.length l0) (hc0 : l0.length ≤ c0) (h : spec_DrawDualGens.f k l0 = some (r1, r2)) :
  Calls Tryz.prog 10 #[.slice A0 l0.length c0] w fun e w' => ∃ v0_ v1_ : Value, e = .returned (.tuple #[.agg #[v0_], v1_]) ∧ Kd.Q (Kd.int .i64) 3 w' w.heap.size (fun k_ => some k_ ≠ (v1_ : Value).ownBlock) v0_ r1 ∧ Kd.R (Kd.int .i64) 3 w' w.heap.size (fun k_ => some k_ ≠ (v0_ : Value).ownBlock) v1_ r2 ∧ Below w.heap.size w w' := by
 have hu26 := Tryz.underlying26
 have HR0 := am hr0
 have HC0 := am hc0
 clear hr0 hc0
 have HB := am (Below.refl w.heap.size w)
 have H : ((spec_DrawInIdeal.f k l0).bind fun bt636 => (some (bt636.1, bt636.2.1))) = some (r1, r2) := h
 clear h
 replace H := ga H; obtain ⟨⟨t636, t639, t642⟩, A2, H⟩ := H
 replace H : (some (t636, t639)) = some (r1, r2) := H
 simp only [Option.some.injEq, Prod.mk.injEq] at H
 obtain ⟨rfl, rfl⟩ := H
 go_enter Tryz.func10, Tryz.ntmps10
 go_wp2_with (first | ((with_reducible refine gate_dst (N := 2) rfl ?_); refine bx 2 #[.slice none 0 0] 26 ?_; intro gb635 hg w3 hbox hb; have BK635 := am (hbox); have GW635 := am (gs hg : w.heap.size ≤ gb635); have GE635 := GW635; replace HB := am (below_step bw hb); clear hb hbox hg) | ((with_reducible refine gate_callee (f := 6) rfl ?_); refine goesL_ (some 9) rfl rfl Tryz.func6 (by kernel_rfl) rfl #[.slice A0 l0.length c0] rfl (by (try simp only [List.map_toArray, List.map_cons, List.map_nil]); first | done | rfl | (simp only [List.length_drop, List.length_take]; rfl)) ?_; (with_reducible refine (spec_DrawInIdeal.calls k _ _ l0 t636 t639 t642 _ ?side1 ?side2 A2.out).mono ?_); (case side1 => exact co (Kd.C_below HR0.out HB.out)); (case side2 => exact HC0.out); rintro e w4 ⟨v637, v640, rfl, ho0, ho1, hb⟩; refine ⟨_, rfl, ?_⟩; have HO638 := am (Kd.Q_lower ho0 (below_size bw)); have HO641 := am (Kd.R_lower ho1 (below_size bw)); replace BK635 := kb BK635 hb; replace HB := am (below_step bw hb); clear hb ho0 ho1) | ((with_reducible refine gate_dst (N := 4) rfl ?_); refine bx 4 #[.slice none 0 0] 26 ?_; intro gb643 hg w5 hbox hb; replace HO638 := qK HO638 hb; replace HO641 := rK HO641 hb; have BK643 := am (hbox); have GW643 := am (gs hg : w.heap.size ≤ gb643); have GE643 := GW643; replace HB := am (below_step bw hb); have NB635_643 := nl hg BK635; have NB643_635 := ns NB635_643; replace BK635 := kb BK635 hb; clear hb hbox hg; obtain ⟨Ao6, co6, eo6, _⟩ := Kd.Q_slice HO638.out; subst eo6; have hnb7 := NB643_635.out; have hnc7 := NB635_643.out; have hcz8_0 := bc BK643 0 (.slice none 0 0); have hfz8_0 := blk_frozen BK643.out 0; have hcz9_0 := bc BK635 0 (.slice none 0 0); have hfz9_0 := blk_frozen BK635.out 0))
 refine bodyPost_ret (results_ct rfl _ _ gb635 26 #[.slice Ao6 t636.length co6] (0, 0) _ rfl (by (with_reducible repeat (first | refine blk_drewN ?_ _ | refine blk_drew ?_ | refine blk_alloc ?_ _)); refine blk_put (cs := #[.slice none 0 0]) ?_ 0 _ rfl; (with_reducible repeat (first | refine blk_drewN ?_ _ | refine blk_drew ?_ | refine blk_alloc ?_ _)); refine blk_far ?_ NB635_643.out _; (with_reducible repeat (first | refine blk_drewN ?_ _ | refine blk_drew ?_ | refine blk_alloc ?_ _)); exact BK635.out) Tryz.underlying26 rfl (by kernel_rfl)) rfl ?_
 exact ⟨_, _, re, by (with_reducible repeat (first | apply Kd.Q_alloc | apply Kd.Q_drewN | apply Kd.Q_drew)); exact Kd.Q_mono (Kd.Q_far (p := ⟨gb635, 0, none⟩) (Kd.Q_far (p := ⟨gb643, 0, none⟩) (Kd.Q_types (Kd.Q_types HO638.out BK643.out (by decide)) BK635.out (by decide)) (fun _ hk => by first | exact hk.1.2 | simp_all) (.slice Ao6 t636.length co6)) (fun _ hk => hk.2) (.slice Ao6 t636.length co6)) (fun _ hk => by first | exact hk.1.1 | simp_all), by (with_reducible repeat (first | apply Kd.R_alloc | apply Kd.R_drewN | apply Kd.R_drew)); exact Kd.R_mono (Kd.R_far (p := ⟨gb635, 0, none⟩) (Kd.R_far (p := ⟨gb643, 0, none⟩) (Kd.R_types (Kd.R_types HO641.out BK643.out (by decide)) BK635.out (by decide)) (fun _ hk => by first | exact hk.1.2 | simp_all) (.slice Ao6 t636.length co6)) (fun _ hk => hk.2) (.slice Ao6 t636.length co6)) (fun _ hk => by first | exact hk.1.1 | simp_all), bw⟩


/-! ### impl_sifted: function 49 -/
def impl_sifted.l0 : Nat → Int → (Int → Option Bool) → List Int → Int → List Int → Option (List Int)
 | 0, _, _, _, _, _ => none
 | k + 1, x2, x3, x9, x10, x645000 => if x10 ≤ x2 then ((apF1.f x3 x10).bind fun t648 => (if t648 = true then (if x9.length < 17592186044416 then (impl_sifted.l0 k x2 x3 (x9 ++ [x10]) (wrap64 (x10 + 1)) x645000) else (none)) else (impl_sifted.l0 k x2 x3 x9 (wrap64 (x10 + 1)) x645000))) else ((impl_MinimalIn.f k x645000 x9).bind fun t652 => (some t652))
def impl_sifted.f (k : Nat) (l0_0 : List Int) (a1 : Int) (a2 : Int) (a3 : (Int → Option Bool)) : Option (List Int) := impl_sifted.l0 k a2 a3 (([] : List Int)) a1 l0_0
set_option maxHeartbeats 8000000 in
set_option maxRecDepth 100000 in
theorem impl_sifted.calls (k : Nat) (A0_0 : Option Addr) (c0_0 : Nat) (l0_0 : List Int) (a1 : Int) (a2 : Int) (a3 : (Int → Option Bool)) (F_a3 : Value) (r : List Int) (w : World) (hr0_0 : Kd.C (Kd.int .i64) w A0_0 l0_0.length l0_0) (hc0_0 : l0_0.length ≤ c0_0) (hF_a3 : FnR1 Tryz.prog w F_a3 a3) (h : impl_sifted.f k l0_0 a1 a2 a3 = some r) :
  Calls Tryz.prog 49 #[.agg #[.slice A0_0 l0_0.length c0_0], .int .i64 a1, .int .i64 a2, F_a3] w fun e w' => ∃ v0_ : Value, e = .returned (v0_) ∧ Kd.R (Kd.int .i64) 3 w' w.heap.size (fun _ => True) v0_ r ∧ Below w.heap.size w w' := by
 have hu26 := Tryz.underlying26
 have HR0_0 := am hr0_0
 have HC0_0 := am hc0_0
 clear hr0_0 hc0_0
 have HB := am (Below.refl w.heap.size w)
 obtain ⟨gF_a3, lF_a3, rfl, eF_a3, hF_a3⟩ := hF_a3
 have H : (impl_sifted.l0 k a2 a3 (([] : List Int)) a1 l0_0) = some r := h
 clear h
 obtain ⟨y645, hy645⟩ : ∃ y_ : List Int, y_ = (([] : List Int)) := ⟨_, rfl⟩
 replace H : (impl_sifted.l0 k a2 a3 y645 a1 l0_0) = some r := by first | (rw [hy645]; with_reducible first | exact H | exact bs H) | (with_reducible first | exact bs H | exact H) | (rw [hy645]; exact H) | exact H
 have Ny645 := am hy645
 clear hy645
 have H' := am H
 clear H
 go_enter Tryz.func49, Tryz.ntmps49
 go_wp2_with (first | ((with_reducible refine gate_dst (N := 4) rfl ?_); refine bx 4 #[.slice A0_0 l0_0.length c0_0] 26 ?_; intro gb644 hg w5 hbox hb; have BK644 := am (hbox); have GW644 := am (gs hg : w.heap.size ≤ gb644); have GE644 := GW644; replace HB := am (below_step bw hb); clear hb hbox hg) | ((with_reducible refine gate_dst (N := 11) rfl ?_); refine Kd.R_lit (Kd.int .i64) _ 3 ?hg (N := 11) ?hd (xs := ([] : List Int)) (inner := []) (ok := fun _ => True) (okp := fun _ => True) ?hr ?hp (fun _ hk => hk) trivial (Below.refl _ _) (Nat.le_refl _) (by simp) ?_; (case hd => rfl); (case hg => rfl); (case hr => first | (go_simp; done) | (go_simp; rfl)); (case hp => exact (Reps.none _ _)); intro v646 w6 ho7 hb hg_ hnew_; clear hg_ hnew_; (first | rw [← Ny645.out] at ho7 | (simp only [Int.reduceToNat] at ho7; rw [← Ny645.out] at ho7)); have HO647 := am (Kd.R_lower ho7 (below_size bw)); replace BK644 := kb BK644 hb; replace HB := am (below_step bw hb); clear hb ho7))
 go_loopg [9, 10] k (fun kq v9 v10 w' => ∃ (x9_1 : List Int) (x10_1 : Int), v10 = .int .i64 x10_1 ∧ Aside0 (impl_sifted.l0 kq a2 a3 x9_1 x10_1 l0_0 = some r) ∧ Aside0 (kq ≤ k) ∧ Aside0 (Kd.R (Kd.int .i64) 3 w' w.heap.size (fun _ => True) v9 x9_1) ∧ Aside0 (w'.heap[gb644]? = some (.cells #[(.slice A0_0 l0_0.length c0_0)] 26 (0, 0))) ∧ Aside0 (Below w.heap.size w w'))
 case atStart => exact ⟨(y645), (a1), rr, H', ⟨Nat.le_refl _⟩, ⟨ro HO647.out⟩, ⟨bo BK644.out⟩, ⟨bw⟩⟩
 case round =>
  clear H'
  obtain ⟨x9_1, x10_1, rfl, HA, HK1, HO_9, BK644, HB⟩ := hrel
  cases gk with
  | zero => exact absurd HA.out (by simp [impl_sifted.l0])
  | succ k1 =>
   have H := HA.out
   clear HA
   simp only [impl_sifted.l0] at H
   replace H := gi H; obtain ⟨c8b0, H⟩ | ⟨c8b0, H⟩ := H
   ·replace H := ga H; obtain ⟨t648, A9, H⟩ := H
    replace H := gb H; obtain ⟨rfl, H⟩ | ⟨rfl, H⟩ := H
    ·by_cases c11 : x9_1.length < 17592186044416
     rotate_left
     ·rw [if_neg c11] at H
      exact absurd H (by simp)
     rw [if_pos c11] at H
     have LMc11 := am c11
     clear c11
     obtain ⟨y649, hy649⟩ : ∃ y_ : List Int, y_ = (x9_1 ++ [x10_1]) := ⟨_, rfl⟩
     replace H : (impl_sifted.l0 k1 a2 a3 y649 (wrap64 (x10_1 + 1)) l0_0) = some r := by first | (rw [hy649]; with_reducible first | exact H | exact bs H) | (with_reducible first | exact bs H | exact H) | (rw [hy649]; exact H) | exact H
     have Ny649 := am hy649
     clear hy649
     have H' := am H
     clear H
     go_wp2_with (first | (go_at_fn gF_a3; (with_reducible refine (hF_a3 _ bw x10_1 true A9.out).mono ?_); rintro e w' ⟨rfl, ⟨nd, rfl⟩⟩) | ((with_reducible refine gate_builtin (b := .append) (xs := #[.tmp 21, .tmp 23]) rfl ?_); at_builtin; refine Kd.R_append (Kd.int .i64) (w0 := w) w.heap.size rfl (.tmp 21) (.tmp 23) 24 3 (.int .i64 0) 8 rfl Tryz.underlying24 info3 rfl (by decide) (by omega) u9 x9_1 x10_1 [.int .i64 x10_1] (fun _ => True) (fun _ => False) rfl rfl ?aP (fun _ hk => hk.elim) ?aF ?aO ?aB ?aS ?aL ?_; (case aP => exact rfl); (case aB => exact bw); (case aF => exact (fun _ _ => trivial)); (case aO => exact (ro HO_9.out)); (case aS => exact (below_size bw)); (case aL => have := LMc11.out; omega); intro v650 w12 ho hb hg hat; rw [← Ny649.out] at ho; replace BK644 := am (blk_grown (g := gb644) (o := .cells #[.slice A0_0 l0_0.length c0_0] 26 (0, 0)) (bo BK644.out) hg (Kd.R_ne HO_9.out BK644.out (by decide))); replace HB := am (hb); have HO651 := am (ho); clear HO_9 ho hb hg hat))
     go_roundg k1
     case measure => have := HK1.out; omega
     case rel => exact ⟨(y649), (wrap64 (x10_1 + 1)), rr, H', ⟨by have := HK1.out; omega⟩, ⟨ro HO651.out⟩, ⟨bo BK644.out⟩, ⟨bw⟩⟩
    have H' := am H
    clear H
    go_wp2_with (first | (go_at_fn gF_a3; (with_reducible refine (hF_a3 _ bw x10_1 false A9.out).mono ?_); rintro e w' ⟨rfl, ⟨nd, rfl⟩⟩))
    go_roundg k1
    case measure => have := HK1.out; omega
    case rel => exact ⟨(x9_1), (wrap64 (x10_1 + 1)), rr, H', ⟨by have := HK1.out; omega⟩, ⟨ro HO_9.out⟩, ⟨bo BK644.out⟩, ⟨bw⟩⟩
   replace H := ga H; obtain ⟨t652, A13, H⟩ := H
   obtain rfl := Option.some.inj H
   have hcz14_0 := bc BK644 0 (.slice A0_0 l0_0.length c0_0)
   have hfz14_0 := blk_frozen BK644.out 0
   obtain ⟨Ao15, co15, eo15⟩ := Kd.R_slice HO_9.out
   subst eo15
   go_wp2_with (first | ((with_reducible refine gate_callee (f := 47) rfl ?_); refine goesL_ (some 27) rfl rfl Tryz.func47 (by kernel_rfl) rfl #[.agg #[.slice A0_0 l0_0.length c0_0], .slice Ao15 x9_1.length co15] rfl (by (try simp only [List.map_toArray, List.map_cons, List.map_nil]); first | done | rfl | (simp only [List.length_drop, List.length_take]; rfl)) ?_; (with_reducible refine (impl_MinimalIn.calls k1 _ _ l0_0 _ _ x9_1 t652 _ ?side1 ?side2 ?side3 ?side4 A13.out).mono ?_); (case side1 => exact co (Kd.C_below HR0_0.out HB.out)); (case side2 => exact HC0_0.out); (case side3 => exact co (Kd.R_reads' HO_9.out).2.2); (case side4 => exact (Kd.R_reads' HO_9.out).2.1); rintro e w16 ⟨v653, rfl, ho0, hb⟩; refine ⟨_, rfl, ?_⟩; have HO654 := am (Kd.R_lower (Kd.R_new' ho0 (Kd.R_lt (ro HO_9.out))) (below_size bw)); replace HO_9 := am (Kd.R_elder' (ro HO_9.out) (Kd.R_base ho0) hb); replace BK644 := kb BK644 hb; replace HB := am (below_step bw hb); clear hb ho0))
   go_ret
   exact ⟨_, re, by (with_reducible repeat (first | apply Kd.R_alloc | apply Kd.R_drewN | apply Kd.R_drew)); exact Kd.R_mono HO654.out (fun _ hk => trivial), bw⟩

end Go.Proofs.YtkfplkdchkmgbaaGreat.C
