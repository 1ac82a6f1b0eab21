/- Contracts of functions of the program: impl_ScaledElements, spec_ScaledElements. -/
import Derived.Test.YtkfplkdchkmgbaaC0
import Derived.Test.YtkfplkdchkmgbaaC1
import Derived.Test.YtkfplkdchkmgbaaC3
import Derived.Test.YtkfplkdchkmgbaaC7
import Derived.Test.YtkfplkdchkmgbaaC9
import Derived.Test.YtkfplkdchkmgbaaC11
import Derived.Test.YtkfplkdchkmgbaaC20
namespace Go.Proofs.Ytkfplkdchkmgbaa.C
open Go.RowKit Go.Proofs.YtkfplkdchkmgbaaW.PrintWords Go.Proofs.YtkfplkdchkmgbaaW.PrintLast Go.Proofs.YtkfplkdchkmgbaaW.PrintMore
attribute [local go_sem] max2_int min2_int max_two min_two max_three min_three max_four min_four
set_option linter.unusedVariables false
set_option linter.unusedSimpArgs false

/-! ### impl_ScaledElements: function 30 -/
mutual
def impl_ScaledElements.j0 : Nat → Int → Int → Bool → List Int → Option (List Int)
 | 0, _, _, _, _ => none
 | k + 1, x1, x2, x22, x570000 => if x22 = true then (some ([] : List Int)) else ((impl_table.f k x570000 x2).bind fun t576 => (impl_ScaledElements.l0 k x1 (([] : List Int)) t576 (t576.length : Int) 0))
def impl_ScaledElements.l0 : Nat → Int → List Int → List Bool → Int → Int → Option (List Int)
 | 0, _, _, _, _, _ => none
 | k + 1, x1, x7, x26, x27, x28 => if x28 < x27 then (if 0 ≤ x28 then (if x28 < (x26.length : Int) then (if rdOf false x26 x28 = true then (if x7.length < 17592186044416 then (impl_ScaledElements.l0 k x1 (x7 ++ [wrap64 (x28 * x1)]) x26 x27 (wrap64 (x28 + 1))) else (none)) else (impl_ScaledElements.l0 k x1 x7 x26 x27 (wrap64 (x28 + 1)))) else (none)) else (none)) else (some x7)
end
def impl_ScaledElements.f (k : Nat) (l0_0 : List Int) (a1 : Int) (a2 : Int) : Option (List Int) := (impl_IsSemigroup.f k l0_0).bind fun t570 => (if t570 = true then ((impl_within.f a1 1 20).bind fun t571 => (if t571 = true then ((impl_within.f a2 0 200).bind fun t572 => (impl_ScaledElements.j0 k a1 a2 (!t572) l0_0)) else (impl_ScaledElements.j0 k a1 a2 true l0_0))) else (impl_ScaledElements.j0 k a1 a2 true l0_0))
set_option maxHeartbeats 8000000 in
set_option maxRecDepth 100000 in
theorem impl_ScaledElements.calls (k : Nat) (A0_0 : Option Addr) (c0_0 : Nat) (l0_0 : List Int) (a1 : Int) (a2 : Int) (r : List Int) (w : World) (hr0_0 : Kd.C (Kd.int .i64) w A0_0 l0_0.length l0_0) (hc0_0 : l0_0.length ≤ c0_0) (h : impl_ScaledElements.f k l0_0 a1 a2 = some r) :
  Calls Try.prog 30 #[.agg #[.slice A0_0 l0_0.length c0_0], .int .i64 a1, .int .i64 a2] w fun e w' => ∃ v0_ : Value, e = .returned (v0_) ∧ Kd.R (Kd.int .i64) 3 w' w.heap.size (fun _ => True) v0_ r ∧ Below w.heap.size w w' := by
 have hu26 := Try.underlying26
 have HR0_0 := Aside0.mk hr0_0
 have HC0_0 := Aside0.mk hc0_0
 clear hr0_0 hc0_0
 have HB := Aside0.mk (Below.refl w.heap.size w)
 have H : ((impl_IsSemigroup.f k l0_0).bind fun t570 => (if t570 = true then ((impl_within.f a1 1 20).bind fun t571 => (if t571 = true then ((impl_within.f a2 0 200).bind fun t572 => (impl_ScaledElements.j0 k a1 a2 (!t572) l0_0)) else (impl_ScaledElements.j0 k a1 a2 true l0_0))) else (impl_ScaledElements.j0 k a1 a2 true l0_0))) = some r := h
 clear h
 have HC4 := Aside0.mk H
 clear H
 go_enter Try.func30, Try.ntmps30
 go_upto_region 1 with (first | ((with_reducible refine gate_dst (N := 3) rfl ?_); refine bx 3 #[.slice A0_0 l0_0.length c0_0] 26 ?_; intro gb569 hg w5 hbox hb; have BK569 := Aside0.mk (hbox); have GW569 := Aside0.mk (gs hg : w.heap.size ≤ gb569); have GE569 := Aside0.mk (gs hg : w.heap.size ≤ gb569); replace HB := Aside0.mk (below_step bw hb); clear hb hbox hg))
 (try simp only [Act.put, List.setIfInBounds_toArray, List.set_cons_zero, List.set_cons_succ])
 go_cut [22] (fun v22 wc => ∃ (kq : Nat) (x22_3 : Bool), v22 = .bool x22_3 ∧ Aside0 (impl_ScaledElements.j0 kq a1 a2 x22_3 l0_0 = some r) ∧ Aside0 (kq ≤ k) ∧ Aside0 (wc.heap[gb569]? = some (.cells #[(.slice A0_0 l0_0.length c0_0)] 26 (0, 0))) ∧ Aside0 (Below w.heap.size w wc))
 case first =>
  have H := HC4.out
  clear HC4
  replace H := ga H; obtain ⟨t570, A6, H⟩ := H
  replace H := gb H; obtain ⟨rfl, H⟩ | ⟨rfl, H⟩ := H
  ·replace H := ga H; obtain ⟨t571, A8, H⟩ := H
   replace H := gb H; obtain ⟨rfl, H⟩ | ⟨rfl, H⟩ := H
   ·replace H := ga H; obtain ⟨t572, A10, H⟩ := H
    have H' := Aside0.mk H
    clear H
    have hcz11_0 := bc BK569 0 (.slice A0_0 l0_0.length c0_0)
    have hfz11_0 := blk_frozen BK569.out 0
    go_wp2_with (first | ((with_reducible refine gate_callee (f := 151) rfl ?_); refine gl (some 11) Try.func151 #[.agg #[.slice A0_0 l0_0.length c0_0]] ?_; (with_reducible refine (impl_IsSemigroup.calls k _ _ l0_0 true _ ?side1 ?side2 A6.out).mono ?_); (case side1 => exact co (Kd.C_below HR0_0.out HB.out)); (case side2 => exact HC0_0.out); rintro e w12 ⟨rfl, hb⟩; refine ⟨_, rfl, ?_⟩; replace BK569 := Aside0.mk (blk_below (g := gb569) (o := .cells #[.slice A0_0 l0_0.length c0_0] 26 (0, 0)) (bo BK569.out) hb); replace HB := Aside0.mk (below_step bw hb); clear hb) | (go_at_call 139; (with_reducible refine (impl_within.calls a1 1 20 true _ A8.out).mono ?_); rintro e w' ⟨rfl, ⟨nd, rfl⟩⟩) | (go_at_call 139; (with_reducible refine (impl_within.calls a2 0 200 t572 _ A10.out).mono ?_); rintro e w' ⟨rfl, ⟨nd, rfl⟩⟩))
    go_meet
    case rel => exact ⟨_, (!t572), rr, H', ⟨om⟩, ⟨bo BK569.out⟩, ⟨bw⟩⟩
   ·have H' := Aside0.mk H
    clear H
    have hcz13_0 := bc BK569 0 (.slice A0_0 l0_0.length c0_0)
    have hfz13_0 := blk_frozen BK569.out 0
    go_wp2_with (first | ((with_reducible refine gate_callee (f := 151) rfl ?_); refine gl (some 11) Try.func151 #[.agg #[.slice A0_0 l0_0.length c0_0]] ?_; (with_reducible refine (impl_IsSemigroup.calls k _ _ l0_0 true _ ?side1 ?side2 A6.out).mono ?_); (case side1 => exact co (Kd.C_below HR0_0.out HB.out)); (case side2 => exact HC0_0.out); rintro e w14 ⟨rfl, hb⟩; refine ⟨_, rfl, ?_⟩; replace BK569 := Aside0.mk (blk_below (g := gb569) (o := .cells #[.slice A0_0 l0_0.length c0_0] 26 (0, 0)) (bo BK569.out) hb); replace HB := Aside0.mk (below_step bw hb); clear hb) | (go_at_call 139; (with_reducible refine (impl_within.calls a1 1 20 false _ A8.out).mono ?_); rintro e w' ⟨rfl, ⟨nd, rfl⟩⟩))
    go_meet
    case rel => exact ⟨_, (true), rr, H', ⟨om⟩, ⟨bo BK569.out⟩, ⟨bw⟩⟩
  ·have H' := Aside0.mk H
   clear H
   have hcz15_0 := bc BK569 0 (.slice A0_0 l0_0.length c0_0)
   have hfz15_0 := blk_frozen BK569.out 0
   go_wp2_with (first | ((with_reducible refine gate_callee (f := 151) rfl ?_); refine gl (some 11) Try.func151 #[.agg #[.slice A0_0 l0_0.length c0_0]] ?_; (with_reducible refine (impl_IsSemigroup.calls k _ _ l0_0 false _ ?side1 ?side2 A6.out).mono ?_); (case side1 => exact co (Kd.C_below HR0_0.out HB.out)); (case side2 => exact HC0_0.out); rintro e w16 ⟨rfl, hb⟩; refine ⟨_, rfl, ?_⟩; replace BK569 := Aside0.mk (blk_below (g := gb569) (o := .cells #[.slice A0_0 l0_0.length c0_0] 26 (0, 0)) (bo BK569.out) hb); replace HB := Aside0.mk (below_step bw hb); clear hb))
   go_meet
   case rel => exact ⟨_, (true), rr, H', ⟨om⟩, ⟨bo BK569.out⟩, ⟨bw⟩⟩
 case rest =>
  clear HC4
  try clear hcz11_0; try clear hcz13_0; try clear hcz15_0; try clear hfz11_0; try clear hfz13_0; try clear hfz15_0
  obtain ⟨kq, x22_3, rfl, HA, HJ3, BK569, HB⟩ := hcut
  cases kq with
  | zero => exact absurd HA.out (by simp [impl_ScaledElements.j0])
  | succ kj3 =>
   have H := HA.out
   clear HA
   simp only [impl_ScaledElements.j0] at H
   replace H := gb H; obtain ⟨rfl, H⟩ | ⟨rfl, H⟩ := H
   ·obtain rfl := Option.some.inj H
    go_wp2
    go_ret
    exact ⟨_, re, by first | exact Kd.R_nil _ _ _ _ _ | exact Kd.N_nil _ _ _ _ _ | exact Kd.V_nil _ _ _ _ _ | exact Kd.Q_nil _ _ _ _ _ | exact Kd.S_nil _ _ _ _ _, bw⟩
   ·obtain ⟨y573, hy573⟩ : ∃ y_ : List Int, y_ = (([] : List Int)) := ⟨_, rfl⟩
    replace H : ((impl_table.f kj3 l0_0 a2).bind fun t576 => (impl_ScaledElements.l0 kj3 a1 y573 t576 (t576.length : Int) 0)) = some r := by first | (rw [hy573]; with_reducible exact H) | (have H2_ := (Option.bind_some _ _).symm.trans H; rw [hy573]; with_reducible exact H2_) | (have H2_ := (Option.bind_some _ _).symm.trans H; with_reducible exact H2_) | with_reducible exact H | (rw [hy573]; exact H) | exact H
    have Ny573 := Aside0.mk hy573
    clear hy573
    replace H := ga H; obtain ⟨t576, A18, H⟩ := H
    have H' := Aside0.mk H
    clear H
    go_wp2_with (first | ((with_reducible refine gate_dst (N := 23) rfl ?_); refine Kd.R_lit (Kd.int .i64) _ 3 ?hg (N := 23) ?hd (xs := ([] : List Int)) (inner := []) (ok := fun _ => True) (okp := fun _ => True) ?hr ?hp (fun _ hk => hk) trivial (Below.refl _ _) (Nat.le_refl _) (by simp) ?_; (case hd => rfl); (case hg => rfl); (case hr => first | (go_simp; done) | (go_simp; rfl)); (case hp => exact (Reps.none _ _)); intro v574 w19 ho20 hb hg_ hnew_; clear hg_ hnew_; (first | rw [← Ny573.out] at ho20 | (simp only [Int.reduceToNat] at ho20; rw [← Ny573.out] at ho20)); have HO575 := Aside0.mk (Kd.R_lower ho20 (below_size bw)); replace BK569 := Aside0.mk (blk_below (g := gb569) (o := .cells #[.slice A0_0 l0_0.length c0_0] 26 (0, 0)) (bo BK569.out) hb); replace HB := Aside0.mk (below_step bw hb); clear hb ho20; have hcz21_0 := bc BK569 0 (.slice A0_0 l0_0.length c0_0); have hfz21_0 := blk_frozen BK569.out 0) | ((with_reducible refine gate_callee (f := 157) rfl ?_); refine gl (some 26) Try.func157 #[.agg #[.slice A0_0 l0_0.length c0_0], .int .i64 a2] ?_; (with_reducible refine (impl_table.calls kj3 _ _ l0_0 a2 t576 _ ?side1 ?side2 A18.out).mono ?_); (case side1 => exact co (Kd.C_below HR0_0.out HB.out)); (case side2 => exact HC0_0.out); rintro e w22 ⟨v577, rfl, ho0, hb⟩; refine ⟨_, rfl, ?_⟩; replace HO575 := Aside0.mk (Kd.R_below (ro HO575.out) hb); have HO578 := Aside0.mk (Kd.R_lower ho0 (below_size bw)); replace BK569 := Aside0.mk (blk_below (g := gb569) (o := .cells #[.slice A0_0 l0_0.length c0_0] 26 (0, 0)) (bo BK569.out) hb); replace HB := Aside0.mk (below_step bw hb); clear hb ho0; obtain ⟨Ao23, co23, eo23⟩ := Kd.R_slice HO578.out; subst eo23))
    go_loopg [7, 28] kj3 (fun kq v7 v28 w' => ∃ (x7_2 : List Int) (x28_2 : Int), v28 = .int .i64 x28_2 ∧ Aside0 (impl_ScaledElements.l0 kq a1 x7_2 t576 (t576.length : Int) x28_2 = some r) ∧ Aside0 (kq ≤ kj3) ∧ Aside0 (Kd.R (Kd.int .i64) 3 w' w.heap.size (fun _ => True) v7 x7_2) ∧ Aside0 (Kd.R Kd.bool 4 w' w.heap.size (fun _ => True) (.slice Ao23 t576.length co23) t576) ∧ Aside0 (w'.heap[gb569]? = some (.cells #[(.slice A0_0 l0_0.length c0_0)] 26 (0, 0))) ∧ Aside0 (Below w.heap.size w w'))
    case atStart => exact ⟨(y573), (0), rr, H', ⟨Nat.le_refl _⟩, ⟨ro HO575.out⟩, ⟨ro HO578.out⟩, ⟨bo BK569.out⟩, ⟨bw⟩⟩
    case round =>
     clear H'
     try clear hcz11_0; try clear hcz13_0; try clear hcz15_0; try clear hcz21_0; try clear hfz11_0; try clear hfz13_0; try clear hfz15_0; try clear hfz21_0
     obtain ⟨x7_2, x28_2, rfl, HA, HK2, HO_7, HO_26, BK569, HB⟩ := hrel
     cases gk with
     | zero => exact absurd HA.out (by simp [impl_ScaledElements.l0])
     | succ k2 =>
      have H := HA.out
      clear HA
      simp only [impl_ScaledElements.l0] at H
      replace H := gi H; obtain ⟨c24b0, H⟩ | ⟨c24b0, H⟩ := H
      ·replace H := gd H; obtain ⟨c25b0, H⟩ := H
       replace H := gd H; obtain ⟨c26b0, H⟩ := H
       obtain ⟨bq27, hbq27⟩ : ∃ b_ : Bool, b_ = (rdOf false t576 x28_2) := ⟨_, rfl⟩
       replace H : (if bq27 = true then (if x7_2.length < 17592186044416 then (impl_ScaledElements.l0 k2 a1 (x7_2 ++ [wrap64 (x28_2 * a1)]) t576 (t576.length : Int) (wrap64 (x28_2 + 1))) else (none)) else (impl_ScaledElements.l0 k2 a1 x7_2 t576 (t576.length : Int) (wrap64 (x28_2 + 1)))) = some r := by rw [← hbq27] at H; exact H
       have Nbq27 := Aside0.mk hbq27
       clear hbq27
       replace H := gb H; obtain ⟨rfl, H⟩ | ⟨rfl, H⟩ := H
       ·by_cases c29 : x7_2.length < 17592186044416
        rotate_left
        ·rw [if_neg c29] at H
         exact absurd H (by simp)
        rw [if_pos c29] at H
        have LMc29 := Aside0.mk c29
        clear c29
        obtain ⟨y580, hy580⟩ : ∃ y_ : List Int, y_ = (x7_2 ++ [wrap64 (x28_2 * a1)]) := ⟨_, rfl⟩
        replace H : (impl_ScaledElements.l0 k2 a1 y580 t576 (t576.length : Int) (wrap64 (x28_2 + 1))) = some r := by first | (rw [hy580]; with_reducible exact H) | (have H2_ := (Option.bind_some _ _).symm.trans H; rw [hy580]; with_reducible exact H2_) | (have H2_ := (Option.bind_some _ _).symm.trans H; with_reducible exact H2_) | with_reducible exact H | (rw [hy580]; exact H) | exact H
        have Ny580 := Aside0.mk hy580
        clear hy580
        have H' := Aside0.mk H
        clear H
        obtain ⟨⟨ad579, e579, hx579_0⟩, p579, q579⟩ := pq (Kd.at_bool (Kd.R_reads' HO_26.out).2.2 x28_2)
        (try rw [← Nbq27.out] at hx579_0)
        cases e579
        go_wp2_with (first | ((with_reducible refine gate_builtin (b := .append) (xs := #[.tmp 34, .tmp 38]) rfl ?_); at_builtin; refine Kd.R_append (Kd.int .i64) (w0 := w) w.heap.size rfl (.tmp 34) (.tmp 38) 24 3 (.int .i64 0) 8 rfl Try.underlying24 info3 rfl (by decide) (by omega) u7 x7_2 (wrap64 (x28_2 * a1)) [.int .i64 (wrap64 (x28_2 * a1))] (fun _ => True) (fun _ => False) rfl rfl ?aP (fun _ hk => hk.elim) ?aF ?aO ?aB ?aS ?aL ?_; (case aP => exact rfl); (case aB => exact bw); (case aF => exact (fun _ _ => trivial)); (case aO => exact (ro HO_7.out)); (case aS => exact (below_size bw)); (case aL => have := LMc29.out; omega); intro v581 w30 ho hb hg hat; rw [← Ny580.out] at ho; replace HO_26 := Aside0.mk (Kd.R_over' (ro HO_26.out) (Kd.R_typed (ro HO_7.out)) (by decide) hg); replace BK569 := Aside0.mk (blk_grown (g := gb569) (o := .cells #[.slice A0_0 l0_0.length c0_0] 26 (0, 0)) (bo BK569.out) hg (Kd.R_ne HO_7.out BK569.out (by decide))); replace HB := Aside0.mk (hb); have HO582 := Aside0.mk (ho); clear HO_7 ho hb hg hat))
        go_roundg k2
        case measure => have := HJ3.out; have := HK2.out; omega
        case rel => exact ⟨(y580), (wrap64 (x28_2 + 1)), rr, H', ⟨by have := HJ3.out; have := HK2.out; omega⟩, ⟨ro HO582.out⟩, ⟨ro HO_26.out⟩, ⟨bo BK569.out⟩, ⟨bw⟩⟩
       ·have H' := Aside0.mk H
        clear H
        obtain ⟨⟨ad579, e579, hx579_0⟩, p579, q579⟩ := pq (Kd.at_bool (Kd.R_reads' HO_26.out).2.2 x28_2)
        (try rw [← Nbq27.out] at hx579_0)
        cases e579
        go_wp2
        go_roundg k2
        case measure => have := HJ3.out; have := HK2.out; omega
        case rel => exact ⟨(x7_2), (wrap64 (x28_2 + 1)), rr, H', ⟨by have := HJ3.out; have := HK2.out; omega⟩, ⟨ro HO_7.out⟩, ⟨ro HO_26.out⟩, ⟨bo BK569.out⟩, ⟨bw⟩⟩
      ·obtain rfl := Option.some.inj H
       go_wp2
       go_ret
       exact ⟨_, re, ro HO_7.out, bw⟩


/-! ### spec_ScaledElements: function 31 -/
mutual
def spec_ScaledElements.j0 : Nat → Int → Int → List Int → Bool → List Int → Option (List Int)
 | 0, _, _, _, _, _ => none
 | k + 1, x1, x2, x7, x23, x595000 => if x23 = true then (some x7) else ((spec_l4Small.f k x595000 (wrap64 (x2 + 1))).bind fun t601 => (spec_ScaledElements.l0 k x1 x7 t601 0))
def spec_ScaledElements.l0 : Nat → Int → List Int → List Int → Int → Option (List Int)
 | 0, _, _, _, _ => none
 | k + 1, x1, x7, x8, x9 => if x9 < (x8.length : Int) then (if 0 ≤ x9 then (if x7.length < 17592186044416 then (spec_ScaledElements.l0 k x1 (x7 ++ [wrap64 ((rd x8 x9) * x1)]) x8 (wrap64 (x9 + 1))) else (none)) else (none)) else (some x7)
end
def spec_ScaledElements.f (k : Nat) (l0_0 : List Int) (a1 : Int) (a2 : Int) : Option (List Int) := (some (([] : List Int) : List Int)).bind fun y595 => ((spec_IsSemigroup.f k l0_0).bind fun t598 => (if t598 = true then ((spec_l1In.f a1 1 20).bind fun t599 => (if t599 = true then ((spec_l1In.f a2 0 200).bind fun t600 => (spec_ScaledElements.j0 k a1 a2 y595 (!t600) l0_0)) else (spec_ScaledElements.j0 k a1 a2 y595 true l0_0))) else (spec_ScaledElements.j0 k a1 a2 y595 true l0_0)))
set_option maxHeartbeats 8000000 in
set_option maxRecDepth 100000 in
theorem spec_ScaledElements.calls (k : Nat) (A0_0 : Option Addr) (c0_0 : Nat) (l0_0 : List Int) (a1 : Int) (a2 : Int) (r : List Int) (w : World) (hr0_0 : Kd.C (Kd.int .i64) w A0_0 l0_0.length l0_0) (hc0_0 : l0_0.length ≤ c0_0) (h : spec_ScaledElements.f k l0_0 a1 a2 = some r) :
  Calls Try.prog 31 #[.agg #[.slice A0_0 l0_0.length c0_0], .int .i64 a1, .int .i64 a2] w fun e w' => ∃ v0_ : Value, e = .returned (v0_) ∧ Kd.R (Kd.int .i64) 3 w' w.heap.size (fun _ => True) v0_ r ∧ Below w.heap.size w w' := by
 have hu26 := Try.underlying26
 have HR0_0 := Aside0.mk hr0_0
 have HC0_0 := Aside0.mk hc0_0
 clear hr0_0 hc0_0
 have HB := Aside0.mk (Below.refl w.heap.size w)
 have H : ((some (([] : List Int) : List Int)).bind fun y595 => ((spec_IsSemigroup.f k l0_0).bind fun t598 => (if t598 = true then ((spec_l1In.f a1 1 20).bind fun t599 => (if t599 = true then ((spec_l1In.f a2 0 200).bind fun t600 => (spec_ScaledElements.j0 k a1 a2 y595 (!t600) l0_0)) else (spec_ScaledElements.j0 k a1 a2 y595 true l0_0))) else (spec_ScaledElements.j0 k a1 a2 y595 true l0_0)))) = some r := h
 clear h
 obtain ⟨y595, hy595⟩ : ∃ y_ : List Int, y_ = (([] : List Int)) := ⟨_, rfl⟩
 replace H : ((spec_IsSemigroup.f k l0_0).bind fun t598 => (if t598 = true then ((spec_l1In.f a1 1 20).bind fun t599 => (if t599 = true then ((spec_l1In.f a2 0 200).bind fun t600 => (spec_ScaledElements.j0 k a1 a2 y595 (!t600) l0_0)) else (spec_ScaledElements.j0 k a1 a2 y595 true l0_0))) else (spec_ScaledElements.j0 k a1 a2 y595 true l0_0))) = some r := by first | (rw [hy595]; with_reducible exact H) | (have H2_ := (Option.bind_some _ _).symm.trans H; rw [hy595]; with_reducible exact H2_) | (have H2_ := (Option.bind_some _ _).symm.trans H; with_reducible exact H2_) | with_reducible exact H | (rw [hy595]; exact H) | exact H
 have Ny595 := Aside0.mk hy595
 clear hy595
 have HC4 := Aside0.mk H
 clear H
 go_enter Try.func31, Try.ntmps31
 go_upto_region 2 with (first | ((with_reducible refine gate_dst (N := 3) rfl ?_); refine bx 3 #[.slice A0_0 l0_0.length c0_0] 26 ?_; intro gb594 hg w5 hbox hb; have BK594 := Aside0.mk (hbox); have GW594 := Aside0.mk (gs hg : w.heap.size ≤ gb594); have GE594 := Aside0.mk (gs hg : w.heap.size ≤ gb594); replace HB := Aside0.mk (below_step bw hb); clear hb hbox hg) | ((with_reducible refine gate_dst (N := 10) rfl ?_); refine Kd.R_lit (Kd.int .i64) _ 3 ?hg (N := 10) ?hd (xs := ([] : List Int)) (inner := []) (ok := fun _ => True) (okp := fun _ => True) ?hr ?hp (fun _ hk => hk) trivial (Below.refl _ _) (Nat.le_refl _) (by simp) ?_; (case hd => rfl); (case hg => rfl); (case hr => first | (go_simp; done) | (go_simp; rfl)); (case hp => exact (Reps.none _ _)); intro v596 w6 ho7 hb hg_ hnew_; clear hg_ hnew_; (first | rw [← Ny595.out] at ho7 | (simp only [Int.reduceToNat] at ho7; rw [← Ny595.out] at ho7)); have HO597 := Aside0.mk (Kd.R_lower ho7 (below_size bw)); replace BK594 := Aside0.mk (blk_below (g := gb594) (o := .cells #[.slice A0_0 l0_0.length c0_0] 26 (0, 0)) (bo BK594.out) hb); replace HB := Aside0.mk (below_step bw hb); clear hb ho7))
 (try simp only [Act.put, List.setIfInBounds_toArray, List.set_cons_zero, List.set_cons_succ])
 go_cut [23] (fun v23 wc => ∃ (kq : Nat) (x23_3 : Bool), v23 = .bool x23_3 ∧ Aside0 (spec_ScaledElements.j0 kq a1 a2 y595 x23_3 l0_0 = some r) ∧ Aside0 (kq ≤ k) ∧ Aside0 (Kd.R (Kd.int .i64) 3 wc w.heap.size (fun _ => True) v596 y595) ∧ Aside0 (wc.heap[gb594]? = some (.cells #[(.slice A0_0 l0_0.length c0_0)] 26 (0, 0))) ∧ Aside0 (Below w.heap.size w wc))
 case first =>
  have H := HC4.out
  clear HC4
  replace H := ga H; obtain ⟨t598, A8, H⟩ := H
  replace H := gb H; obtain ⟨rfl, H⟩ | ⟨rfl, H⟩ := H
  ·replace H := ga H; obtain ⟨t599, A10, H⟩ := H
   replace H := gb H; obtain ⟨rfl, H⟩ | ⟨rfl, H⟩ := H
   ·replace H := ga H; obtain ⟨t600, A12, H⟩ := H
    have H' := Aside0.mk H
    clear H
    have hcz13_0 := bc BK594 0 (.slice A0_0 l0_0.length c0_0)
    have hfz13_0 := blk_frozen BK594.out 0
    go_wp2_with (first | ((with_reducible refine gate_callee (f := 23) rfl ?_); refine gl (some 12) Try.func23 #[.agg #[.slice A0_0 l0_0.length c0_0]] ?_; (with_reducible refine (spec_IsSemigroup.calls k _ _ l0_0 true _ ?side1 ?side2 A8.out).mono ?_); (case side1 => exact co (Kd.C_below HR0_0.out HB.out)); (case side2 => exact HC0_0.out); rintro e w14 ⟨rfl, hb⟩; refine ⟨_, rfl, ?_⟩; replace HO597 := Aside0.mk (Kd.R_below (ro HO597.out) hb); replace BK594 := Aside0.mk (blk_below (g := gb594) (o := .cells #[.slice A0_0 l0_0.length c0_0] 26 (0, 0)) (bo BK594.out) hb); replace HB := Aside0.mk (below_step bw hb); clear hb) | (go_at_call 140; (with_reducible refine (spec_l1In.calls a1 1 20 true _ A10.out).mono ?_); rintro e w' ⟨rfl, ⟨nd, rfl⟩⟩) | (go_at_call 140; (with_reducible refine (spec_l1In.calls a2 0 200 t600 _ A12.out).mono ?_); rintro e w' ⟨rfl, ⟨nd, rfl⟩⟩))
    go_meet
    case rel => exact ⟨_, (!t600), rr, H', ⟨om⟩, ⟨ro HO597.out⟩, ⟨bo BK594.out⟩, ⟨bw⟩⟩
   ·have H' := Aside0.mk H
    clear H
    have hcz15_0 := bc BK594 0 (.slice A0_0 l0_0.length c0_0)
    have hfz15_0 := blk_frozen BK594.out 0
    go_wp2_with (first | ((with_reducible refine gate_callee (f := 23) rfl ?_); refine gl (some 12) Try.func23 #[.agg #[.slice A0_0 l0_0.length c0_0]] ?_; (with_reducible refine (spec_IsSemigroup.calls k _ _ l0_0 true _ ?side1 ?side2 A8.out).mono ?_); (case side1 => exact co (Kd.C_below HR0_0.out HB.out)); (case side2 => exact HC0_0.out); rintro e w16 ⟨rfl, hb⟩; refine ⟨_, rfl, ?_⟩; replace HO597 := Aside0.mk (Kd.R_below (ro HO597.out) hb); replace BK594 := Aside0.mk (blk_below (g := gb594) (o := .cells #[.slice A0_0 l0_0.length c0_0] 26 (0, 0)) (bo BK594.out) hb); replace HB := Aside0.mk (below_step bw hb); clear hb) | (go_at_call 140; (with_reducible refine (spec_l1In.calls a1 1 20 false _ A10.out).mono ?_); rintro e w' ⟨rfl, ⟨nd, rfl⟩⟩))
    go_meet
    case rel => exact ⟨_, (true), rr, H', ⟨om⟩, ⟨ro HO597.out⟩, ⟨bo BK594.out⟩, ⟨bw⟩⟩
  ·have H' := Aside0.mk H
   clear H
   have hcz17_0 := bc BK594 0 (.slice A0_0 l0_0.length c0_0)
   have hfz17_0 := blk_frozen BK594.out 0
   go_wp2_with (first | ((with_reducible refine gate_callee (f := 23) rfl ?_); refine gl (some 12) Try.func23 #[.agg #[.slice A0_0 l0_0.length c0_0]] ?_; (with_reducible refine (spec_IsSemigroup.calls k _ _ l0_0 false _ ?side1 ?side2 A8.out).mono ?_); (case side1 => exact co (Kd.C_below HR0_0.out HB.out)); (case side2 => exact HC0_0.out); rintro e w18 ⟨rfl, hb⟩; refine ⟨_, rfl, ?_⟩; replace HO597 := Aside0.mk (Kd.R_below (ro HO597.out) hb); replace BK594 := Aside0.mk (blk_below (g := gb594) (o := .cells #[.slice A0_0 l0_0.length c0_0] 26 (0, 0)) (bo BK594.out) hb); replace HB := Aside0.mk (below_step bw hb); clear hb))
   go_meet
   case rel => exact ⟨_, (true), rr, H', ⟨om⟩, ⟨ro HO597.out⟩, ⟨bo BK594.out⟩, ⟨bw⟩⟩
 case rest =>
  clear HC4
  try clear hcz13_0; try clear hcz15_0; try clear hcz17_0; try clear hfz13_0; try clear hfz15_0; try clear hfz17_0
  obtain ⟨kq, x23_3, rfl, HA, HJ3, HO_7, BK594, HB⟩ := hcut
  cases kq with
  | zero => exact absurd HA.out (by simp [spec_ScaledElements.j0])
  | succ kj3 =>
   have H := HA.out
   clear HA
   simp only [spec_ScaledElements.j0] at H
   replace H := gb H; obtain ⟨rfl, H⟩ | ⟨rfl, H⟩ := H
   ·obtain rfl := Option.some.inj H
    go_wp2
    go_ret
    exact ⟨_, re, ro HO_7.out, bw⟩
   ·replace H := ga H; obtain ⟨t601, A20, H⟩ := H
    have H' := Aside0.mk H
    clear H
    have hcz21_0 := bc BK594 0 (.slice A0_0 l0_0.length c0_0)
    have hfz21_0 := blk_frozen BK594.out 0
    go_wp2_with (first | ((with_reducible refine gate_callee (f := 158) rfl ?_); refine gl (some 28) Try.func158 #[.agg #[.slice A0_0 l0_0.length c0_0], .int .i64 (wrap64 (a2 + 1))] ?_; (with_reducible refine (spec_l4Small.calls kj3 _ _ l0_0 (wrap64 (a2 + 1)) t601 _ ?side1 ?side2 A20.out).mono ?_); (case side1 => exact co (Kd.C_below HR0_0.out HB.out)); (case side2 => exact HC0_0.out); rintro e w22 ⟨v602, rfl, ho0, hb⟩; refine ⟨_, rfl, ?_⟩; have HO603 := Aside0.mk (Kd.R_lower (Kd.R_new' ho0 (Kd.R_lt (ro HO_7.out))) (below_size bw)); replace HO_7 := Aside0.mk (Kd.R_elder' (ro HO_7.out) (Kd.R_base ho0) hb); replace BK594 := Aside0.mk (blk_below (g := gb594) (o := .cells #[.slice A0_0 l0_0.length c0_0] 26 (0, 0)) (bo BK594.out) hb); replace HB := Aside0.mk (below_step bw hb); clear hb ho0))
    go_loopg [7, 9] kj3 (fun kq v7 v9 w' => ∃ (x7_2 : List Int) (x9_2 : Int), v9 = .int .i64 x9_2 ∧ Aside0 (spec_ScaledElements.l0 kq a1 x7_2 t601 x9_2 = some r) ∧ Aside0 (kq ≤ kj3) ∧ Aside0 (Kd.R (Kd.int .i64) 3 w' w.heap.size (fun k_ => some k_ ≠ (v602 : Value).ownBlock) v7 x7_2) ∧ Aside0 (Kd.R (Kd.int .i64) 3 w' w.heap.size (fun k_ => some k_ ≠ (v7 : Value).ownBlock) v602 t601) ∧ Aside0 (w'.heap[gb594]? = some (.cells #[(.slice A0_0 l0_0.length c0_0)] 26 (0, 0))) ∧ Aside0 (Below w.heap.size w w'))
    case atStart => exact ⟨(y595), (0), rr, H', ⟨Nat.le_refl _⟩, ⟨by (with_reducible repeat (first | apply Kd.R_alloc | apply Kd.R_drewN | apply Kd.R_drew)); exact Kd.R_mono HO_7.out (fun _ hk => hk.2)⟩, ⟨by (with_reducible repeat (first | apply Kd.R_alloc | apply Kd.R_drewN | apply Kd.R_drew)); exact Kd.R_mono HO603.out (fun _ hk => hk.2)⟩, ⟨bo BK594.out⟩, ⟨bw⟩⟩
    case round =>
     clear H'
     try clear hcz13_0; try clear hcz15_0; try clear hcz17_0; try clear hcz21_0; try clear hfz13_0; try clear hfz15_0; try clear hfz17_0; try clear hfz21_0
     obtain ⟨x7_2, x9_2, rfl, HA, HK2, HO_7, HO_8, BK594, HB⟩ := hrel
     cases gk with
     | zero => exact absurd HA.out (by simp [spec_ScaledElements.l0])
     | succ k2 =>
      have H := HA.out
      clear HA
      simp only [spec_ScaledElements.l0] at H
      replace H := gi H; obtain ⟨c23b0, H⟩ | ⟨c23b0, H⟩ := H
      ·replace H := gd H; obtain ⟨c24b0, H⟩ := H
       by_cases c25 : x7_2.length < 17592186044416
       rotate_left
       ·rw [if_neg c25] at H
        exact absurd H (by simp)
       rw [if_pos c25] at H
       have LMc25 := Aside0.mk c25
       clear c25
       obtain ⟨y605, hy605⟩ : ∃ y_ : List Int, y_ = (x7_2 ++ [wrap64 ((rd t601 x9_2) * a1)]) := ⟨_, rfl⟩
       replace H : (spec_ScaledElements.l0 k2 a1 y605 t601 (wrap64 (x9_2 + 1))) = some r := by first | (rw [hy605]; with_reducible exact H) | (have H2_ := (Option.bind_some _ _).symm.trans H; rw [hy605]; with_reducible exact H2_) | (have H2_ := (Option.bind_some _ _).symm.trans H; with_reducible exact H2_) | with_reducible exact H | (rw [hy605]; exact H) | exact H
       have Ny605 := Aside0.mk hy605
       clear hy605
       have H' := Aside0.mk H
       clear H
       obtain ⟨Ao26, co26, eo26⟩ := Kd.R_slice HO_8.out
       subst eo26
       obtain ⟨⟨ad604, e604, hx604_0⟩, p604, q604⟩ := pq (Kd.at_int (Kd.R_reads' HO_8.out).2.2 x9_2)
       cases e604
       go_wp2_with (first | ((with_reducible refine gate_builtin (b := .append) (xs := #[.tmp 35, .tmp 42]) rfl ?_); at_builtin; refine Kd.R_append (Kd.int .i64) (w0 := w) w.heap.size rfl (.tmp 35) (.tmp 42) 24 3 (.int .i64 0) 8 rfl Try.underlying24 info3 rfl (by decide) (by omega) u7 x7_2 (wrap64 ((rd t601 x9_2) * a1)) [.int .i64 (wrap64 ((rd t601 x9_2) * a1))] (fun k_ => some k_ ≠ (.slice (some ad604) t601.length co26 : Value).ownBlock) (fun _ => False) rfl rfl ?aP (fun _ hk => hk.elim) ?aF ?aO ?aB ?aS ?aL ?_; (case aP => exact rfl); (case aB => exact bw); (case aF => exact (fun k_ hk => Kd.fresh' (Kd.R_lt (ro HO_8.out)) k_ hk)); (case aO => exact (ro HO_7.out)); (case aS => exact (below_size bw)); (case aL => have := LMc25.out; omega); intro v606 w27 ho hb hg hat; rw [← Ny605.out] at ho; replace HO_8 := Aside0.mk (Kd.R_after (ok := (fun _ => True)) (by (with_reducible repeat (first | apply Kd.R_alloc | apply Kd.R_drewN | apply Kd.R_drew)); exact Kd.R_mono HO_8.out (fun _ hk => ⟨trivial, by first | exact hk | exact (by intro a n m c x h; cases a <;> exact h : ∀ (a : Option Addr) (n m c x : Nat), some x ≠ (Value.slice a n c).ownBlock → some x ≠ (Value.slice a m c).ownBlock) _ _ _ _ _ hk⟩)) hg hat); replace BK594 := Aside0.mk (blk_grown (g := gb594) (o := .cells #[.slice A0_0 l0_0.length c0_0] 26 (0, 0)) (bo BK594.out) hg (Kd.R_ne HO_7.out BK594.out (by decide))); replace HB := Aside0.mk (hb); have HO607 := Aside0.mk (ho); clear HO_7 ho hb hg hat))
       go_roundg k2
       case measure => have := HJ3.out; have := HK2.out; omega
       case rel => exact ⟨(y605), (wrap64 (x9_2 + 1)), rr, H', ⟨by have := HJ3.out; have := HK2.out; omega⟩, ⟨ro HO607.out⟩, ⟨by (with_reducible repeat (first | apply Kd.R_alloc | apply Kd.R_drewN | apply Kd.R_drew)); exact Kd.R_mono HO_8.out (fun _ hk => hk.2)⟩, ⟨bo BK594.out⟩, ⟨bw⟩⟩
      ·obtain rfl := Option.some.inj H
       obtain ⟨Ao28, co28, eo28⟩ := Kd.R_slice HO_8.out
       subst eo28
       go_wp2
       go_ret
       exact ⟨_, re, by (with_reducible repeat (first | apply Kd.R_alloc | apply Kd.R_drewN | apply Kd.R_drew)); exact Kd.R_mono HO_7.out (fun _ hk => trivial), bw⟩

end Go.Proofs.Ytkfplkdchkmgbaa.C
