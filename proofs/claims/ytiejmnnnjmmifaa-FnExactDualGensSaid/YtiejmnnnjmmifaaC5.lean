/- Contracts of functions of the program: spec_l10Top, spec_MinimalIn, spec_l16Valid, spec_l4Gaps, spec_Gaps, spec_FrobeniusOf, spec_ConductorOf, spec_l15Has, spec_l16Dual. -/
import Derived.Test.YtiejmnnnjmmifaaC0
import Derived.Test.YtiejmnnnjmmifaaC2
import Derived.Test.YtiejmnnnjmmifaaC3
import Derived.Test.YtiejmnnnjmmifaaC4
namespace Go.Proofs.Ytiejmnnnjmmifaa.C
open Go.RowKit Go.Proofs.YtiejmnnnjmmifaaW.PrintWords Go.Proofs.YtiejmnnnjmmifaaW.PrintLast Go.Proofs.YtiejmnnnjmmifaaW.PrintMore
attribute [local go_sem] max2_int min2_int max_two min_two max_three min_three max_four min_four
set_option linter.unusedVariables false
set_option linter.unusedSimpArgs false

/-! ### spec_l10Top: function 49 -/
mutual
def spec_l10Top.j0 : Nat → List Int → Bool → List Int → Bool → List Int → Option (List Int)
 | 0, _, _, _, _, _ => none
 | k + 1, x1, x2, x7, x21, x239000 => if x21 = true then (some x7) else (spec_l10Top.l0 k x1 x2 x7 0 x239000)
def spec_l10Top.l0 : Nat → List Int → Bool → List Int → Int → List Int → Option (List Int)
 | 0, _, _, _, _, _ => none
 | k + 1, x1, x2, x7, x8, x239000 => if x8 < (x1.length : Int) then (spec_l10Top.l1 k x1 x2 x7 x8 true 0 x239000) else ((spec_SortList.f k x7).bind fun t244 => (some t244))
def spec_l10Top.l1 : Nat → List Int → Bool → List Int → Int → Bool → Int → List Int → Option (List Int)
 | 0, _, _, _, _, _, _, _ => none
 | k + 1, x1, x2, x7, x8, x9, x10, x239000 => if x10 < (x1.length : Int) then (if 0 ≤ x8 then (if x8 < (x1.length : Int) then (if 0 ≤ x10 then (if x9 = true then (if (rd x1 x8) = (rd x1 x10) then (spec_l10Top.l1 k x1 x2 x7 x8 true (wrap64 (x10 + 1)) x239000) else (if x2 = true then ((spec_l3Has.f k x239000 (wrap64 ((rd x1 x8) - (rd x1 x10)))).bind fun t249 => (spec_l10Top.l1 k x1 x2 x7 x8 (!t249) (wrap64 (x10 + 1)) x239000)) else ((spec_l3Has.f k x239000 (wrap64 ((rd x1 x10) - (rd x1 x8)))).bind fun t250 => (if t250 = true then (spec_l10Top.l1 k x1 x2 x7 x8 false (wrap64 (x10 + 1)) x239000) else (spec_l10Top.l1 k x1 x2 x7 x8 true (wrap64 (x10 + 1)) x239000))))) else (spec_l10Top.l1 k x1 x2 x7 x8 false (wrap64 (x10 + 1)) x239000)) else (none)) else (none)) else (none)) else (if x9 = true then (if 0 ≤ x8 then (if x8 < (x1.length : Int) then (if x7.length < 17592186044416 then (spec_l10Top.l0 k x1 x2 (x7 ++ [rd x1 x8]) (wrap64 (x8 + 1)) x239000) else (none)) else (none)) else (none)) else (spec_l10Top.l0 k x1 x2 x7 (wrap64 (x8 + 1)) x239000))
end
def spec_l10Top.f (k : Nat) (l0_0 : List Int) (l1 : List Int) (a2 : Bool) : Option (List Int) := (some (([] : List Int) : List Int)).bind fun y239 => ((spec_IsSemigroup.f k l0_0).bind fun t242 => (if t242 = true then ((spec_l10All.f k l1).bind fun t243 => (spec_l10Top.j0 k l1 a2 y239 (!t243) l0_0)) else (spec_l10Top.j0 k l1 a2 y239 true l0_0)))
set_option maxHeartbeats 8000000 in
set_option maxRecDepth 100000 in
theorem spec_l10Top.calls (k : Nat) (A0_0 : Option Addr) (c0_0 : Nat) (l0_0 : List Int) (A1 : Option Addr) (c1 : Nat) (l1 : List Int) (a2 : Bool) (r : List Int) (w : World) (hr0_0 : Kd.C (Kd.int .i64) w A0_0 l0_0.length l0_0) (hc0_0 : l0_0.length ≤ c0_0) (hr1 : Kd.C (Kd.int .i64) w A1 l1.length l1) (hc1 : l1.length ≤ c1) (h : spec_l10Top.f k l0_0 l1 a2 = some r) :
  Calls Try.prog 49 #[.agg #[.slice A0_0 l0_0.length c0_0], .slice A1 l1.length c1, .bool a2] w fun e w' => ∃ v0_ : Value, e = .returned (v0_) ∧ Kd.R (Kd.int .i64) 3 w' w.heap.size (fun _ => True) v0_ r ∧ Below w.heap.size w w' := by
 have hu27 := Try.underlying27
 have HR0_0 := Aside0.mk hr0_0
 have HC0_0 := Aside0.mk hc0_0
 clear hr0_0 hc0_0
 have HR1 := Aside0.mk hr1
 have HC1 := Aside0.mk hc1
 clear hr1 hc1
 have HB := Aside0.mk (Below.refl w.heap.size w)
 have H : ((some (([] : List Int) : List Int)).bind fun y239 => ((spec_IsSemigroup.f k l0_0).bind fun t242 => (if t242 = true then ((spec_l10All.f k l1).bind fun t243 => (spec_l10Top.j0 k l1 a2 y239 (!t243) l0_0)) else (spec_l10Top.j0 k l1 a2 y239 true l0_0)))) = some r := h
 clear h
 obtain ⟨y239, hy239⟩ : ∃ y_ : List Int, y_ = (([] : List Int)) := ⟨_, rfl⟩
 replace H : ((spec_IsSemigroup.f k l0_0).bind fun t242 => (if t242 = true then ((spec_l10All.f k l1).bind fun t243 => (spec_l10Top.j0 k l1 a2 y239 (!t243) l0_0)) else (spec_l10Top.j0 k l1 a2 y239 true l0_0))) = some r := by first | (rw [hy239]; with_reducible exact H) | (have H2_ := (Option.bind_some _ _).symm.trans H; rw [hy239]; with_reducible exact H2_) | (have H2_ := (Option.bind_some _ _).symm.trans H; with_reducible exact H2_) | with_reducible exact H | (rw [hy239]; exact H) | exact H
 have Ny239 := Aside0.mk hy239
 clear hy239
 have HC4 := Aside0.mk H
 clear H
 go_enter Try.func49, Try.ntmps49
 go_upto_region 2 with (first | ((with_reducible refine gate_dst (N := 3) rfl ?_); refine bx 3 #[.slice A0_0 l0_0.length c0_0] 27 ?_; intro gb238 hg w5 hbox hb; have BK238 := Aside0.mk (hbox); have GW238 := Aside0.mk (gs hg : w.heap.size ≤ gb238); have GE238 := Aside0.mk (gs hg : w.heap.size ≤ gb238); replace HB := Aside0.mk (below_step bw hb); clear hb hbox hg) | ((with_reducible refine gate_dst (N := 13) rfl ?_); refine Kd.R_lit (Kd.int .i64) _ 3 ?hg (N := 13) ?hd (xs := ([] : List Int)) (inner := []) (ok := fun _ => True) (okp := fun _ => True) ?hr ?hp (fun _ hk => hk) trivial (Below.refl _ _) (Nat.le_refl _) (by simp) ?_; (case hd => rfl); (case hg => rfl); (case hr => first | (go_simp; done) | (go_simp; rfl)); (case hp => exact (Reps.none _ _)); intro v240 w6 ho7 hb hg_ hnew_; clear hg_ hnew_; (first | rw [← Ny239.out] at ho7 | (simp only [Int.reduceToNat] at ho7; rw [← Ny239.out] at ho7)); have HO241 := Aside0.mk (Kd.R_lower ho7 (below_size bw)); replace BK238 := Aside0.mk (blk_below (g := gb238) (o := .cells #[.slice A0_0 l0_0.length c0_0] 27 (0, 0)) (bo BK238.out) hb); replace HB := Aside0.mk (below_step bw hb); clear hb ho7))
 (try simp only [Act.put, List.setIfInBounds_toArray, List.set_cons_zero, List.set_cons_succ])
 go_cut [21] (fun v21 wc => ∃ (kq : Nat) (x21_3 : Bool), v21 = .bool x21_3 ∧ Aside0 (spec_l10Top.j0 kq l1 a2 y239 x21_3 l0_0 = some r) ∧ Aside0 (kq ≤ k) ∧ Aside0 (Kd.R (Kd.int .i64) 3 wc w.heap.size (fun _ => True) v240 y239) ∧ Aside0 (wc.heap[gb238]? = some (.cells #[(.slice A0_0 l0_0.length c0_0)] 27 (0, 0))) ∧ Aside0 (Below w.heap.size w wc))
 case first =>
  have H := HC4.out
  clear HC4
  replace H := ga H; obtain ⟨t242, A8, H⟩ := H
  replace H := gb H; obtain ⟨rfl, H⟩ | ⟨rfl, H⟩ := H
  ·replace H := ga H; obtain ⟨t243, A10, H⟩ := H
   have H' := Aside0.mk H
   clear H
   have hcz11_0 := bc BK238 0 (.slice A0_0 l0_0.length c0_0)
   have hfz11_0 := blk_frozen BK238.out 0
   go_wp2_with (first | ((with_reducible refine gate_callee (f := 71) rfl ?_); refine gl (some 15) Try.func71 #[.agg #[.slice A0_0 l0_0.length c0_0]] ?_; (with_reducible refine (spec_IsSemigroup.calls k _ _ l0_0 true _ ?side1 ?side2 A8.out).mono ?_); (case side1 => exact co (Kd.C_below HR0_0.out HB.out)); (case side2 => exact HC0_0.out); rintro e w12 ⟨rfl, hb⟩; refine ⟨_, rfl, ?_⟩; replace HO241 := Aside0.mk (Kd.R_below (ro HO241.out) hb); replace BK238 := Aside0.mk (blk_below (g := gb238) (o := .cells #[.slice A0_0 l0_0.length c0_0] 27 (0, 0)) (bo BK238.out) hb); replace HB := Aside0.mk (below_step bw hb); clear hb) | (go_at_call 85; (with_reducible refine (spec_l10All.calls k _ _ l1 t243 _ ?side1 ?side2 A10.out).mono ?_); (case side1 => exact co (Kd.C_below HR1.out HB.out)); (case side2 => exact HC1.out); rintro e w' ⟨rfl, ⟨nd, rfl⟩⟩))
   go_meet
   case rel => exact ⟨_, (!t243), rr, H', ⟨om⟩, ⟨ro HO241.out⟩, ⟨bo BK238.out⟩, ⟨bw⟩⟩
  ·have H' := Aside0.mk H
   clear H
   have hcz13_0 := bc BK238 0 (.slice A0_0 l0_0.length c0_0)
   have hfz13_0 := blk_frozen BK238.out 0
   go_wp2_with (first | ((with_reducible refine gate_callee (f := 71) rfl ?_); refine gl (some 15) Try.func71 #[.agg #[.slice A0_0 l0_0.length c0_0]] ?_; (with_reducible refine (spec_IsSemigroup.calls k _ _ l0_0 false _ ?side1 ?side2 A8.out).mono ?_); (case side1 => exact co (Kd.C_below HR0_0.out HB.out)); (case side2 => exact HC0_0.out); rintro e w14 ⟨rfl, hb⟩; refine ⟨_, rfl, ?_⟩; replace HO241 := Aside0.mk (Kd.R_below (ro HO241.out) hb); replace BK238 := Aside0.mk (blk_below (g := gb238) (o := .cells #[.slice A0_0 l0_0.length c0_0] 27 (0, 0)) (bo BK238.out) hb); replace HB := Aside0.mk (below_step bw hb); clear hb))
   go_meet
   case rel => exact ⟨_, (true), rr, H', ⟨om⟩, ⟨ro HO241.out⟩, ⟨bo BK238.out⟩, ⟨bw⟩⟩
 case rest =>
  clear HC4
  try clear c1; try clear hcz11_0; try clear hcz13_0; try clear hfz11_0; try clear hfz13_0
  obtain ⟨kq, x21_3, rfl, HA, HJ3, HO_7, BK238, HB⟩ := hcut
  cases kq with
  | zero => exact absurd HA.out (by simp [spec_l10Top.j0])
  | succ kj3 =>
   have H := HA.out
   clear HA
   simp only [spec_l10Top.j0] at H
   replace H := gb H; obtain ⟨rfl, H⟩ | ⟨rfl, H⟩ := H
   ·obtain rfl := Option.some.inj H
    go_wp2
    go_ret
    exact ⟨_, re, ro HO_7.out, bw⟩
   ·have H' := Aside0.mk H
    clear H
    go_wp2
    go_loopg [7, 8] kj3 (fun kq v7 v8 w' => ∃ (x7_2 : List Int) (x8_2 : Int), v8 = .int .i64 x8_2 ∧ Aside0 (spec_l10Top.l0 kq l1 a2 x7_2 x8_2 l0_0 = some r) ∧ Aside0 (kq ≤ kj3) ∧ Aside0 (Kd.R (Kd.int .i64) 3 w' w.heap.size (fun _ => True) v7 x7_2) ∧ Aside0 (w'.heap[gb238]? = some (.cells #[(.slice A0_0 l0_0.length c0_0)] 27 (0, 0))) ∧ Aside0 (Below w.heap.size w w'))
    case atStart => exact ⟨(y239), (0), rr, H', ⟨Nat.le_refl _⟩, ⟨ro HO_7.out⟩, ⟨bo BK238.out⟩, ⟨bw⟩⟩
    case round =>
     clear H'
     try clear c1; try clear hcz11_0; try clear hcz13_0; try clear hfz11_0; try clear hfz13_0
     obtain ⟨x7_2, x8_2, rfl, HA, HK2, HO_7, BK238, HB⟩ := hrel
     cases gk with
     | zero => exact absurd HA.out (by simp [spec_l10Top.l0])
     | succ k2 =>
      have H := HA.out
      clear HA
      simp only [spec_l10Top.l0] at H
      replace H := gi H; obtain ⟨c16b0, H⟩ | ⟨c16b0, H⟩ := H
      ·have H' := Aside0.mk H
       clear H
       go_wp2
       go_loopg [9, 10] k2 (fun kq v9 v10 w' => ∃ (x9_3 : Bool) (x10_3 : Int), v9 = .bool x9_3 ∧ v10 = .int .i64 x10_3 ∧ Aside0 (spec_l10Top.l1 kq l1 a2 x7_2 x8_2 x9_3 x10_3 l0_0 = some r) ∧ Aside0 (kq ≤ k2) ∧ Aside0 (Kd.R (Kd.int .i64) 3 w' w.heap.size (fun _ => True) u7 x7_2) ∧ Aside0 (w'.heap[gb238]? = some (.cells #[(.slice A0_0 l0_0.length c0_0)] 27 (0, 0))) ∧ Aside0 (Below w.heap.size w w'))
       case atStart => exact ⟨(true), (0), rr, rr, H', ⟨Nat.le_refl _⟩, ⟨ro HO_7.out⟩, ⟨bo BK238.out⟩, ⟨bw⟩⟩
       case round =>
        clear H'
        try clear c1; try clear c16b0; try clear hcz11_0; try clear hcz13_0; try clear hfz11_0; try clear hfz13_0
        obtain ⟨x9_3, x10_3, rfl, rfl, HA, HK3, HO_7, BK238, HB⟩ := hrel
        cases gk with
        | zero => exact absurd HA.out (by simp [spec_l10Top.l1])
        | succ k3 =>
         have H := HA.out
         clear HA
         simp only [spec_l10Top.l1] at H
         replace H := gi H; obtain ⟨c17b0, H⟩ | ⟨c17b0, H⟩ := H
         ·replace H := gd H; obtain ⟨c18b0, H⟩ := H
          replace H := gd H; obtain ⟨c19b0, H⟩ := H
          replace H := gd H; obtain ⟨c20b0, H⟩ := H
          replace H := gb H; obtain ⟨rfl, H⟩ | ⟨rfl, H⟩ := H
          ·by_cases c22 : (rd l1 x8_2) = (rd l1 x10_3)
           ·rw [if_pos c22] at H
            have c22b0 : ((rd l1 x8_2) == (rd l1 x10_3)) = true := beq_iff_eq.mpr c22
            have c22b1 : ((rd l1 x8_2) != (rd l1 x10_3)) = false := bne_eq_false_iff_eq.mpr c22
            clear c22
            have H' := Aside0.mk H
            clear H
            obtain ⟨⟨ad247, e247, hx247_0⟩, p247, q247⟩ := pq (Kd.at_int HR1.out x8_2)
            cases e247
            replace hx247_0 := (HB.out.cell (World.block_lt_of_cell? w _ hx247_0)).trans hx247_0
            obtain ⟨⟨ad248, e248, hx248_0⟩, p248, q248⟩ := pq (Kd.at_int HR1.out x10_3)
            obtain rfl : ad247 = ad248 := (by injection e248)
            replace hx248_0 := (HB.out.cell (World.block_lt_of_cell? w _ hx248_0)).trans hx248_0
            go_wp2
            go_roundg k3
            case measure => have := HJ3.out; have := HK2.out; have := HK3.out; omega
            case rel => exact ⟨(true), (wrap64 (x10_3 + 1)), rr, rr, H', ⟨by have := HJ3.out; have := HK2.out; have := HK3.out; omega⟩, ⟨ro HO_7.out⟩, ⟨bo BK238.out⟩, ⟨bw⟩⟩
           ·rw [if_neg c22] at H
            have c22b0 : ((rd l1 x8_2) == (rd l1 x10_3)) = false := beq_eq_false_iff_ne.mpr c22
            have c22b1 : ((rd l1 x8_2) != (rd l1 x10_3)) = true := bne_iff_ne.mpr c22
            replace H := gb H; obtain ⟨rfl, H⟩ | ⟨rfl, H⟩ := H
            ·replace H := ga H; obtain ⟨t249, A24, H⟩ := H
             have H' := Aside0.mk H
             clear H
             obtain ⟨⟨ad247, e247, hx247_0⟩, p247, q247⟩ := pq (Kd.at_int HR1.out x8_2)
             cases e247
             replace hx247_0 := (HB.out.cell (World.block_lt_of_cell? w _ hx247_0)).trans hx247_0
             obtain ⟨⟨ad248, e248, hx248_0⟩, p248, q248⟩ := pq (Kd.at_int HR1.out x10_3)
             obtain rfl : ad247 = ad248 := (by injection e248)
             replace hx248_0 := (HB.out.cell (World.block_lt_of_cell? w _ hx248_0)).trans hx248_0
             have hcz25_0 := bc BK238 0 (.slice A0_0 l0_0.length c0_0)
             have hfz25_0 := blk_frozen BK238.out 0
             go_wp2_with (first | (go_at_call 86; (with_reducible refine (spec_l3Has.calls k3 _ _ l0_0 (wrap64 ((rd l1 x8_2) - (rd l1 x10_3))) t249 _ ?side1 ?side2 A24.out).mono ?_); (case side1 => exact co (Kd.C_below HR0_0.out HB.out)); (case side2 => exact HC0_0.out); rintro e w26 ⟨rfl, hb⟩; replace HO_7 := Aside0.mk (Kd.R_below (ro HO_7.out) hb); replace BK238 := Aside0.mk (blk_below (g := gb238) (o := .cells #[.slice A0_0 l0_0.length c0_0] 27 (0, 0)) (bo BK238.out) hb); replace HB := Aside0.mk (below_step bw hb); clear hb))
             go_roundg k3
             case measure => have := HJ3.out; have := HK2.out; have := HK3.out; omega
             case rel => exact ⟨(!t249), (wrap64 (x10_3 + 1)), rr, rr, H', ⟨by have := HJ3.out; have := HK2.out; have := HK3.out; omega⟩, ⟨ro HO_7.out⟩, ⟨bo BK238.out⟩, ⟨bw⟩⟩
            ·replace H := ga H; obtain ⟨t250, A27, H⟩ := H
             replace H := gb H; obtain ⟨rfl, H⟩ | ⟨rfl, H⟩ := H
             ·have H' := Aside0.mk H
              clear H
              obtain ⟨⟨ad247, e247, hx247_0⟩, p247, q247⟩ := pq (Kd.at_int HR1.out x8_2)
              cases e247
              replace hx247_0 := (HB.out.cell (World.block_lt_of_cell? w _ hx247_0)).trans hx247_0
              obtain ⟨⟨ad248, e248, hx248_0⟩, p248, q248⟩ := pq (Kd.at_int HR1.out x10_3)
              obtain rfl : ad247 = ad248 := (by injection e248)
              replace hx248_0 := (HB.out.cell (World.block_lt_of_cell? w _ hx248_0)).trans hx248_0
              have hcz29_0 := bc BK238 0 (.slice A0_0 l0_0.length c0_0)
              have hfz29_0 := blk_frozen BK238.out 0
              go_wp2_with (first | (go_at_call 86; (with_reducible refine (spec_l3Has.calls k3 _ _ l0_0 (wrap64 ((rd l1 x10_3) - (rd l1 x8_2))) true _ ?side1 ?side2 A27.out).mono ?_); (case side1 => exact co (Kd.C_below HR0_0.out HB.out)); (case side2 => exact HC0_0.out); rintro e w30 ⟨rfl, hb⟩; replace HO_7 := Aside0.mk (Kd.R_below (ro HO_7.out) hb); replace BK238 := Aside0.mk (blk_below (g := gb238) (o := .cells #[.slice A0_0 l0_0.length c0_0] 27 (0, 0)) (bo BK238.out) hb); replace HB := Aside0.mk (below_step bw hb); clear hb))
              go_roundg k3
              case measure => have := HJ3.out; have := HK2.out; have := HK3.out; omega
              case rel => exact ⟨(false), (wrap64 (x10_3 + 1)), rr, rr, H', ⟨by have := HJ3.out; have := HK2.out; have := HK3.out; omega⟩, ⟨ro HO_7.out⟩, ⟨bo BK238.out⟩, ⟨bw⟩⟩
             ·have H' := Aside0.mk H
              clear H
              obtain ⟨⟨ad247, e247, hx247_0⟩, p247, q247⟩ := pq (Kd.at_int HR1.out x8_2)
              cases e247
              replace hx247_0 := (HB.out.cell (World.block_lt_of_cell? w _ hx247_0)).trans hx247_0
              obtain ⟨⟨ad248, e248, hx248_0⟩, p248, q248⟩ := pq (Kd.at_int HR1.out x10_3)
              obtain rfl : ad247 = ad248 := (by injection e248)
              replace hx248_0 := (HB.out.cell (World.block_lt_of_cell? w _ hx248_0)).trans hx248_0
              have hcz31_0 := bc BK238 0 (.slice A0_0 l0_0.length c0_0)
              have hfz31_0 := blk_frozen BK238.out 0
              go_wp2_with (first | (go_at_call 86; (with_reducible refine (spec_l3Has.calls k3 _ _ l0_0 (wrap64 ((rd l1 x10_3) - (rd l1 x8_2))) false _ ?side1 ?side2 A27.out).mono ?_); (case side1 => exact co (Kd.C_below HR0_0.out HB.out)); (case side2 => exact HC0_0.out); rintro e w32 ⟨rfl, hb⟩; replace HO_7 := Aside0.mk (Kd.R_below (ro HO_7.out) hb); replace BK238 := Aside0.mk (blk_below (g := gb238) (o := .cells #[.slice A0_0 l0_0.length c0_0] 27 (0, 0)) (bo BK238.out) hb); replace HB := Aside0.mk (below_step bw hb); clear hb))
              go_roundg k3
              case measure => have := HJ3.out; have := HK2.out; have := HK3.out; omega
              case rel => exact ⟨(true), (wrap64 (x10_3 + 1)), rr, rr, H', ⟨by have := HJ3.out; have := HK2.out; have := HK3.out; omega⟩, ⟨ro HO_7.out⟩, ⟨bo BK238.out⟩, ⟨bw⟩⟩
          ·have H' := Aside0.mk H
           clear H
           obtain ⟨⟨ad247, e247, hx247_0⟩, p247, q247⟩ := pq (Kd.at_int HR1.out x8_2)
           cases e247
           replace hx247_0 := (HB.out.cell (World.block_lt_of_cell? w _ hx247_0)).trans hx247_0
           obtain ⟨⟨ad248, e248, hx248_0⟩, p248, q248⟩ := pq (Kd.at_int HR1.out x10_3)
           obtain rfl : ad247 = ad248 := (by injection e248)
           replace hx248_0 := (HB.out.cell (World.block_lt_of_cell? w _ hx248_0)).trans hx248_0
           go_wp2
           go_roundg k3
           case measure => have := HJ3.out; have := HK2.out; have := HK3.out; omega
           case rel => exact ⟨(false), (wrap64 (x10_3 + 1)), rr, rr, H', ⟨by have := HJ3.out; have := HK2.out; have := HK3.out; omega⟩, ⟨ro HO_7.out⟩, ⟨bo BK238.out⟩, ⟨bw⟩⟩
         ·replace H := gb H; obtain ⟨rfl, H⟩ | ⟨rfl, H⟩ := H
          ·replace H := gd H; obtain ⟨c34b0, H⟩ := H
           replace H := gd H; obtain ⟨c35b0, H⟩ := H
           by_cases c36 : x7_2.length < 17592186044416
           rotate_left
           ·rw [if_neg c36] at H
            exact absurd H (by simp)
           rw [if_pos c36] at H
           have LMc36 := Aside0.mk c36
           clear c36
           obtain ⟨y252, hy252⟩ : ∃ y_ : List Int, y_ = (x7_2 ++ [rd l1 x8_2]) := ⟨_, rfl⟩
           replace H : (spec_l10Top.l0 k3 l1 a2 y252 (wrap64 (x8_2 + 1)) l0_0) = some r := by first | (rw [hy252]; with_reducible exact H) | (have H2_ := (Option.bind_some _ _).symm.trans H; rw [hy252]; with_reducible exact H2_) | (have H2_ := (Option.bind_some _ _).symm.trans H; with_reducible exact H2_) | with_reducible exact H | (rw [hy252]; exact H) | exact H
           have Ny252 := Aside0.mk hy252
           clear hy252
           have H' := Aside0.mk H
           clear H
           obtain ⟨⟨ad251, e251, hx251_0⟩, p251, q251⟩ := pq (Kd.at_int HR1.out x8_2)
           cases e251
           replace hx251_0 := (HB.out.cell (World.block_lt_of_cell? w _ hx251_0)).trans hx251_0
           go_wp2_with (first | ((with_reducible refine gate_builtin (b := .append) (xs := #[.tmp 73, .tmp 78]) rfl ?_); at_builtin; refine Kd.R_append (Kd.int .i64) (w0 := w) w.heap.size rfl (.tmp 73) (.tmp 78) 22 3 (.int .i64 0) 8 rfl Try.underlying22 info3 rfl (by decide) (by omega) u7 x7_2 (rd l1 x8_2) [.int .i64 (rd l1 x8_2)] (fun _ => True) (fun _ => False) rfl rfl ?aP (fun _ hk => hk.elim) ?aF ?aO ?aB ?aS ?aL ?_; (case aP => exact rfl); (case aB => exact bw); (case aF => exact (fun _ _ => trivial)); (case aO => exact (ro HO_7.out)); (case aS => exact (below_size bw)); (case aL => have := LMc36.out; omega); intro v253 w37 ho hb hg hat; rw [← Ny252.out] at ho; replace BK238 := Aside0.mk (blk_grown (g := gb238) (o := .cells #[.slice A0_0 l0_0.length c0_0] 27 (0, 0)) (bo BK238.out) hg (Kd.R_ne HO_7.out BK238.out (by decide))); replace HB := Aside0.mk (hb); have HO254 := Aside0.mk (ho); clear HO_7 ho hb hg hat))
           go_roundg k3
           case measure => have := HJ3.out; have := HK2.out; have := HK3.out; omega
           case rel => exact ⟨(y252), (wrap64 (x8_2 + 1)), rr, H', ⟨by have := HJ3.out; have := HK2.out; have := HK3.out; omega⟩, ⟨ro HO254.out⟩, ⟨bo BK238.out⟩, ⟨bw⟩⟩
          ·have H' := Aside0.mk H
           clear H
           go_wp2
           go_roundg k3
           case measure => have := HJ3.out; have := HK2.out; have := HK3.out; omega
           case rel => exact ⟨(x7_2), (wrap64 (x8_2 + 1)), rr, H', ⟨by have := HJ3.out; have := HK2.out; have := HK3.out; omega⟩, ⟨ro HO_7.out⟩, ⟨bo BK238.out⟩, ⟨bw⟩⟩
      ·replace H := ga H; obtain ⟨t244, A38, H⟩ := H
       obtain rfl := Option.some.inj H
       obtain ⟨Ao39, co39, eo39⟩ := Kd.R_slice HO_7.out
       subst eo39
       go_wp2_with (first | ((with_reducible refine gate_callee (f := 57) rfl ?_); refine gl (some 81) Try.func57 #[.slice Ao39 x7_2.length co39] ?_; (with_reducible refine (spec_SortList.calls k2 _ _ x7_2 t244 _ ?side1 ?side2 A38.out).mono ?_); (case side1 => exact co (Kd.R_reads' HO_7.out).2.2); (case side2 => exact (Kd.R_reads' HO_7.out).2.1); rintro e w40 ⟨v245, rfl, ho0, hb⟩; refine ⟨_, rfl, ?_⟩; have HO246 := Aside0.mk (Kd.R_lower (Kd.R_new' ho0 (Kd.R_lt (ro HO_7.out))) (below_size bw)); replace HO_7 := Aside0.mk (Kd.R_elder' (ro HO_7.out) (Kd.R_base ho0) hb); replace BK238 := Aside0.mk (blk_below (g := gb238) (o := .cells #[.slice A0_0 l0_0.length c0_0] 27 (0, 0)) (bo BK238.out) hb); replace HB := Aside0.mk (below_step bw hb); clear hb ho0))
       go_ret
       exact ⟨_, re, by (with_reducible repeat (first | apply Kd.R_alloc | apply Kd.R_drewN | apply Kd.R_drew)); exact Kd.R_mono HO246.out (fun _ hk => trivial), bw⟩


/-! ### spec_MinimalIn: function 25 -/
def spec_MinimalIn.f (k : Nat) (l0_0 : List Int) (l1 : List Int) : Option (List Int) := (spec_l10Top.f k l0_0 l1 true).bind fun t256 => (some t256)
set_option maxHeartbeats 8000000 in
set_option maxRecDepth 100000 in
theorem spec_MinimalIn.calls (k : Nat) (A0_0 : Option Addr) (c0_0 : Nat) (l0_0 : List Int) (A1 : Option Addr) (c1 : Nat) (l1 : List Int) (r : List Int) (w : World) (hr0_0 : Kd.C (Kd.int .i64) w A0_0 l0_0.length l0_0) (hc0_0 : l0_0.length ≤ c0_0) (hr1 : Kd.C (Kd.int .i64) w A1 l1.length l1) (hc1 : l1.length ≤ c1) (h : spec_MinimalIn.f k l0_0 l1 = some r) :
  Calls Try.prog 25 #[.agg #[.slice A0_0 l0_0.length c0_0], .slice A1 l1.length c1] w fun e w' => ∃ v0_ : Value, e = .returned (v0_) ∧ Kd.R (Kd.int .i64) 3 w' w.heap.size (fun _ => True) v0_ r ∧ Below w.heap.size w w' := by
 have hu27 := Try.underlying27
 have HR0_0 := Aside0.mk hr0_0
 have HC0_0 := Aside0.mk hc0_0
 clear hr0_0 hc0_0
 have HR1 := Aside0.mk hr1
 have HC1 := Aside0.mk hc1
 clear hr1 hc1
 have HB := Aside0.mk (Below.refl w.heap.size w)
 have H : ((spec_l10Top.f k l0_0 l1 true).bind fun t256 => (some t256)) = some r := h
 clear h
 replace H := ga H; obtain ⟨t256, A3, H⟩ := H
 obtain rfl := Option.some.inj H
 go_enter Try.func25, Try.ntmps25
 go_wp2_with (first | ((with_reducible refine gate_dst (N := 2) rfl ?_); refine bx 2 #[.slice A0_0 l0_0.length c0_0] 27 ?_; intro gb255 hg w4 hbox hb; have BK255 := Aside0.mk (hbox); have GW255 := Aside0.mk (gs hg : w.heap.size ≤ gb255); have GE255 := Aside0.mk (gs hg : w.heap.size ≤ gb255); replace HB := Aside0.mk (below_step bw hb); clear hb hbox hg; have hcz5_0 := bc BK255 0 (.slice A0_0 l0_0.length c0_0); have hfz5_0 := blk_frozen BK255.out 0) | ((with_reducible refine gate_callee (f := 49) rfl ?_); refine gl (some 7) Try.func49 #[.agg #[.slice A0_0 l0_0.length c0_0], .slice A1 l1.length c1, .bool true] ?_; (with_reducible refine (spec_l10Top.calls k _ _ l0_0 _ _ l1 true t256 _ ?side1 ?side2 ?side3 ?side4 A3.out).mono ?_); (case side1 => exact co (Kd.C_below HR0_0.out HB.out)); (case side2 => exact HC0_0.out); (case side3 => exact co (Kd.C_below HR1.out HB.out)); (case side4 => exact HC1.out); rintro e w6 ⟨v257, rfl, ho0, hb⟩; refine ⟨_, rfl, ?_⟩; have HO258 := Aside0.mk (Kd.R_lower ho0 (below_size bw)); replace BK255 := Aside0.mk (blk_below (g := gb255) (o := .cells #[.slice A0_0 l0_0.length c0_0] 27 (0, 0)) (bo BK255.out) hb); replace HB := Aside0.mk (below_step bw hb); clear hb ho0))
 go_ret
 exact ⟨_, re, ro HO258.out, bw⟩


/-! ### spec_l16Valid: function 63 -/
def spec_l16Valid.l0 : Nat → List Int → Int → Option (Bool)
 | 0, _, _ => none
 | k + 1, x0, x3 => if x3 < (x0.length : Int) then (if 0 ≤ x3 then ((spec_l1In.f (rd x0 x3) (-200) 200).bind fun t260 => (if t260 = true then (spec_l16Valid.l0 k x0 (wrap64 (x3 + 1))) else (some false))) else (none)) else ((spec_l1In.f (x0.length : Int) 1 20).bind fun t261 => (some t261))
def spec_l16Valid.f (k : Nat) (l0 : List Int) : Option (Bool) := spec_l16Valid.l0 k l0 0
set_option maxHeartbeats 8000000 in
set_option maxRecDepth 100000 in
theorem spec_l16Valid.calls (k : Nat) (A0 : Option Addr) (c0 : Nat) (l0 : List Int) (r : Bool) (w : World) (hr0 : Kd.C (Kd.int .i64) w A0 l0.length l0) (hc0 : l0.length ≤ c0) (h : spec_l16Valid.f k l0 = some r) :
  Calls Try.prog 63 #[.slice A0 l0.length c0] w fun e w' => e = .returned (.bool r) ∧ Drawn0 w w' := by
 have HR0 := Aside0.mk hr0
 have HC0 := Aside0.mk hc0
 clear hr0 hc0
 have H : (spec_l16Valid.l0 k l0 0) = some r := h
 clear h
 have H' := Aside0.mk H
 clear H
 go_enter Try.func63, Try.ntmps63
 go_wp2
 go_loopg [3] k (fun kq v3 w' => ∃ (x3_1 : Int), v3 = .int .i64 x3_1 ∧ Aside0 (spec_l16Valid.l0 kq l0 x3_1 = some r) ∧ Aside0 (kq ≤ k) ∧ Drawn0 w w')
 case atStart => exact ⟨(0), rr, H', ⟨Nat.le_refl _⟩, dw⟩
 case round =>
  clear H'
  obtain ⟨x3_1, rfl, HA, HK1, ⟨m1, rfl⟩⟩ := hrel
  cases gk with
  | zero => exact absurd HA.out (by simp [spec_l16Valid.l0])
  | succ k1 =>
   have H := HA.out
   clear HA
   simp only [spec_l16Valid.l0] at H
   replace H := gi H; obtain ⟨c2b0, H⟩ | ⟨c2b0, H⟩ := H
   ·replace H := gd H; obtain ⟨c3b0, H⟩ := H
    replace H := ga H; obtain ⟨t260, A4, H⟩ := H
    replace H := gb H; obtain ⟨rfl, H⟩ | ⟨rfl, H⟩ := H
    ·have H' := Aside0.mk H
     clear H
     obtain ⟨⟨ad259, e259, hx259_0⟩, p259, q259⟩ := pq (Kd.at_int HR0.out x3_1)
     cases e259
     go_wp2_with (first | ((with_reducible refine gate_callee (f := 72) rfl ?_); refine gl (some 14) Try.func72 #[.int .i64 (rd l0 x3_1), .int .i64 (-200), .int .i64 200] ?_; (with_reducible refine (spec_l1In.calls (rd l0 x3_1) (-200) 200 true _ A4.out).mono ?_); rintro e w' ⟨rfl, ⟨nd, rfl⟩⟩; refine ⟨_, rfl, ?_⟩))
     go_roundg k1
     case measure => have := HK1.out; omega
     case rel => exact ⟨(wrap64 (x3_1 + 1)), rr, H', ⟨by have := HK1.out; omega⟩, dw⟩
    ·obtain rfl := Option.some.inj H
     obtain ⟨⟨ad259, e259, hx259_0⟩, p259, q259⟩ := pq (Kd.at_int HR0.out x3_1)
     cases e259
     go_wp2_with (first | ((with_reducible refine gate_callee (f := 72) rfl ?_); refine gl (some 14) Try.func72 #[.int .i64 (rd l0 x3_1), .int .i64 (-200), .int .i64 200] ?_; (with_reducible refine (spec_l1In.calls (rd l0 x3_1) (-200) 200 false _ A4.out).mono ?_); rintro e w' ⟨rfl, ⟨nd, rfl⟩⟩; refine ⟨_, rfl, ?_⟩))
     go_ret
     exact ⟨rr, dw⟩
   ·replace H := ga H; obtain ⟨t261, A6, H⟩ := H
    obtain rfl := Option.some.inj H
    go_wp2_with (first | ((with_reducible refine gate_callee (f := 72) rfl ?_); refine gl (some 18) Try.func72 #[.int .i64 (l0.length : Int), .int .i64 1, .int .i64 20] ?_; (with_reducible refine (spec_l1In.calls (l0.length : Int) 1 20 t261 _ A6.out).mono ?_); rintro e w' ⟨rfl, ⟨nd, rfl⟩⟩; refine ⟨_, rfl, ?_⟩))
    go_ret
    exact ⟨rr, dw⟩


/-! ### spec_l4Gaps: function 82 -/
def spec_l4Gaps.l0 : Nat → List Int → List Bool → Int → Option (List Int)
 | 0, _, _, _ => none
 | k + 1, x3, x4, x5 => if x5 < 200 then (if 0 ≤ x5 then (if x5 < (x4.length : Int) then (if rdOf false x4 x5 = true then (spec_l4Gaps.l0 k x3 x4 (wrap64 (x5 + 1))) else (if x3.length < 17592186044416 then (spec_l4Gaps.l0 k (x3 ++ [x5]) x4 (wrap64 (x5 + 1))) else (none))) else (none)) else (none)) else (some x3)
def spec_l4Gaps.f (k : Nat) (l0_0 : List Int) : Option (List Int) := (spec_l3Table.f k l0_0 200).bind fun t266 => (spec_l4Gaps.l0 k (([] : List Int)) t266 1)
set_option maxHeartbeats 8000000 in
set_option maxRecDepth 100000 in
theorem spec_l4Gaps.calls (k : Nat) (A0_0 : Option Addr) (c0_0 : Nat) (l0_0 : List Int) (r : List Int) (w : World) (hr0_0 : Kd.C (Kd.int .i64) w A0_0 l0_0.length l0_0) (hc0_0 : l0_0.length ≤ c0_0) (h : spec_l4Gaps.f k l0_0 = some r) :
  Calls Try.prog 82 #[.agg #[.slice A0_0 l0_0.length c0_0]] w fun e w' => ∃ v0_ : Value, e = .returned (v0_) ∧ Kd.R (Kd.int .i64) 3 w' w.heap.size (fun _ => True) v0_ r ∧ Below w.heap.size w w' := by
 have hu27 := Try.underlying27
 have HR0_0 := Aside0.mk hr0_0
 have HC0_0 := Aside0.mk hc0_0
 clear hr0_0 hc0_0
 have HB := Aside0.mk (Below.refl w.heap.size w)
 have H : ((spec_l3Table.f k l0_0 200).bind fun t266 => (spec_l4Gaps.l0 k (([] : List Int)) t266 1)) = some r := h
 clear h
 obtain ⟨y263, hy263⟩ : ∃ y_ : List Int, y_ = (([] : List Int)) := ⟨_, rfl⟩
 replace H : ((spec_l3Table.f k l0_0 200).bind fun t266 => (spec_l4Gaps.l0 k y263 t266 1)) = some r := by first | (rw [hy263]; with_reducible exact H) | (have H2_ := (Option.bind_some _ _).symm.trans H; rw [hy263]; with_reducible exact H2_) | (have H2_ := (Option.bind_some _ _).symm.trans H; with_reducible exact H2_) | with_reducible exact H | (rw [hy263]; exact H) | exact H
 have Ny263 := Aside0.mk hy263
 clear hy263
 replace H := ga H; obtain ⟨t266, A2, H⟩ := H
 have H' := Aside0.mk H
 clear H
 go_enter Try.func82, Try.ntmps82
 go_wp2_with (first | ((with_reducible refine gate_dst (N := 1) rfl ?_); refine bx 1 #[.slice A0_0 l0_0.length c0_0] 27 ?_; intro gb262 hg w3 hbox hb; have BK262 := Aside0.mk (hbox); have GW262 := Aside0.mk (gs hg : w.heap.size ≤ gb262); have GE262 := Aside0.mk (gs hg : w.heap.size ≤ gb262); replace HB := Aside0.mk (below_step bw hb); clear hb hbox hg) | ((with_reducible refine gate_dst (N := 6) rfl ?_); refine Kd.R_lit (Kd.int .i64) _ 3 ?hg (N := 6) ?hd (xs := ([] : List Int)) (inner := []) (ok := fun _ => True) (okp := fun _ => True) ?hr ?hp (fun _ hk => hk) trivial (Below.refl _ _) (Nat.le_refl _) (by simp) ?_; (case hd => rfl); (case hg => rfl); (case hr => first | (go_simp; done) | (go_simp; rfl)); (case hp => exact (Reps.none _ _)); intro v264 w4 ho5 hb hg_ hnew_; clear hg_ hnew_; (first | rw [← Ny263.out] at ho5 | (simp only [Int.reduceToNat] at ho5; rw [← Ny263.out] at ho5)); have HO265 := Aside0.mk (Kd.R_lower ho5 (below_size bw)); replace BK262 := Aside0.mk (blk_below (g := gb262) (o := .cells #[.slice A0_0 l0_0.length c0_0] 27 (0, 0)) (bo BK262.out) hb); replace HB := Aside0.mk (below_step bw hb); clear hb ho5; have hcz6_0 := bc BK262 0 (.slice A0_0 l0_0.length c0_0); have hfz6_0 := blk_frozen BK262.out 0) | ((with_reducible refine gate_callee (f := 116) rfl ?_); refine gl (some 9) Try.func116 #[.slice A0_0 l0_0.length c0_0, .int .i64 200] ?_; (with_reducible refine (spec_l3Table.calls k _ _ l0_0 200 t266 _ ?side1 ?side2 A2.out).mono ?_); (case side1 => exact co (Kd.C_below HR0_0.out HB.out)); (case side2 => exact HC0_0.out); rintro e w7 ⟨v267, rfl, ho0, hb⟩; refine ⟨_, rfl, ?_⟩; replace HO265 := Aside0.mk (Kd.R_below (ro HO265.out) hb); have HO268 := Aside0.mk (Kd.R_lower ho0 (below_size bw)); replace BK262 := Aside0.mk (blk_below (g := gb262) (o := .cells #[.slice A0_0 l0_0.length c0_0] 27 (0, 0)) (bo BK262.out) hb); replace HB := Aside0.mk (below_step bw hb); clear hb ho0))
 go_loopg [3, 5] k (fun kq v3 v5 w' => ∃ (x3_1 : List Int) (x5_1 : Int), v5 = .int .i64 x5_1 ∧ Aside0 (spec_l4Gaps.l0 kq x3_1 t266 x5_1 = some r) ∧ Aside0 (kq ≤ k) ∧ Aside0 (Kd.R (Kd.int .i64) 3 w' w.heap.size (fun _ => True) v3 x3_1) ∧ Aside0 (Kd.R Kd.bool 4 w' w.heap.size (fun _ => True) v267 t266) ∧ Aside0 (w'.heap[gb262]? = some (.cells #[(.slice A0_0 l0_0.length c0_0)] 27 (0, 0))) ∧ Aside0 (Below w.heap.size w w'))
 case atStart => exact ⟨(y263), (1), rr, H', ⟨Nat.le_refl _⟩, ⟨ro HO265.out⟩, ⟨ro HO268.out⟩, ⟨bo BK262.out⟩, ⟨bw⟩⟩
 case round =>
  clear H'
  try clear hcz6_0; try clear hfz6_0
  obtain ⟨x3_1, x5_1, rfl, HA, HK1, HO_3, HO_4, BK262, HB⟩ := hrel
  cases gk with
  | zero => exact absurd HA.out (by simp [spec_l4Gaps.l0])
  | succ k1 =>
   have H := HA.out
   clear HA
   simp only [spec_l4Gaps.l0] at H
   replace H := gi H; obtain ⟨c8b0, H⟩ | ⟨c8b0, H⟩ := H
   ·replace H := gd H; obtain ⟨c9b0, H⟩ := H
    replace H := gd H; obtain ⟨c10b0, H⟩ := H
    obtain ⟨bq11, hbq11⟩ : ∃ b_ : Bool, b_ = (rdOf false t266 x5_1) := ⟨_, rfl⟩
    replace H : (if bq11 = true then (spec_l4Gaps.l0 k1 x3_1 t266 (wrap64 (x5_1 + 1))) else (if x3_1.length < 17592186044416 then (spec_l4Gaps.l0 k1 (x3_1 ++ [x5_1]) t266 (wrap64 (x5_1 + 1))) else (none))) = some r := by rw [← hbq11] at H; exact H
    have Nbq11 := Aside0.mk hbq11
    clear hbq11
    replace H := gb H; obtain ⟨rfl, H⟩ | ⟨rfl, H⟩ := H
    ·have H' := Aside0.mk H
     clear H
     obtain ⟨Ao13, co13, eo13⟩ := Kd.R_slice HO_4.out
     subst eo13
     obtain ⟨⟨ad269, e269, hx269_0⟩, p269, q269⟩ := pq (Kd.at_bool (Kd.R_reads' HO_4.out).2.2 x5_1)
     (try rw [← Nbq11.out] at hx269_0)
     cases e269
     go_wp2
     go_roundg k1
     case measure => have := HK1.out; omega
     case rel => exact ⟨(x3_1), (wrap64 (x5_1 + 1)), rr, H', ⟨by have := HK1.out; omega⟩, ⟨ro HO_3.out⟩, ⟨ro HO_4.out⟩, ⟨bo BK262.out⟩, ⟨bw⟩⟩
    ·by_cases c14 : x3_1.length < 17592186044416
     rotate_left
     ·rw [if_neg c14] at H
      exact absurd H (by simp)
     rw [if_pos c14] at H
     have LMc14 := Aside0.mk c14
     clear c14
     obtain ⟨y270, hy270⟩ : ∃ y_ : List Int, y_ = (x3_1 ++ [x5_1]) := ⟨_, rfl⟩
     replace H : (spec_l4Gaps.l0 k1 y270 t266 (wrap64 (x5_1 + 1))) = some r := by first | (rw [hy270]; with_reducible exact H) | (have H2_ := (Option.bind_some _ _).symm.trans H; rw [hy270]; with_reducible exact H2_) | (have H2_ := (Option.bind_some _ _).symm.trans H; with_reducible exact H2_) | with_reducible exact H | (rw [hy270]; exact H) | exact H
     have Ny270 := Aside0.mk hy270
     clear hy270
     have H' := Aside0.mk H
     clear H
     obtain ⟨Ao15, co15, eo15⟩ := Kd.R_slice HO_4.out
     subst eo15
     obtain ⟨⟨ad269, e269, hx269_0⟩, p269, q269⟩ := pq (Kd.at_bool (Kd.R_reads' HO_4.out).2.2 x5_1)
     (try rw [← Nbq11.out] at hx269_0)
     cases e269
     go_wp2_with (first | ((with_reducible refine gate_builtin (b := .append) (xs := #[.tmp 19, .tmp 21]) rfl ?_); at_builtin; refine Kd.R_append (Kd.int .i64) (w0 := w) w.heap.size rfl (.tmp 19) (.tmp 21) 22 3 (.int .i64 0) 8 rfl Try.underlying22 info3 rfl (by decide) (by omega) u3 x3_1 x5_1 [.int .i64 x5_1] (fun _ => True) (fun _ => False) rfl rfl ?aP (fun _ hk => hk.elim) ?aF ?aO ?aB ?aS ?aL ?_; (case aP => exact rfl); (case aB => exact bw); (case aF => exact (fun _ _ => trivial)); (case aO => exact (ro HO_3.out)); (case aS => exact (below_size bw)); (case aL => have := LMc14.out; omega); intro v271 w16 ho hb hg hat; rw [← Ny270.out] at ho; replace HO_4 := Aside0.mk (Kd.R_over' (ro HO_4.out) (Kd.R_typed (ro HO_3.out)) (by decide) hg); replace BK262 := Aside0.mk (blk_grown (g := gb262) (o := .cells #[.slice A0_0 l0_0.length c0_0] 27 (0, 0)) (bo BK262.out) hg (Kd.R_ne HO_3.out BK262.out (by decide))); replace HB := Aside0.mk (hb); have HO272 := Aside0.mk (ho); clear HO_3 ho hb hg hat))
     go_roundg k1
     case measure => have := HK1.out; omega
     case rel => exact ⟨(y270), (wrap64 (x5_1 + 1)), rr, H', ⟨by have := HK1.out; omega⟩, ⟨ro HO272.out⟩, ⟨ro HO_4.out⟩, ⟨bo BK262.out⟩, ⟨bw⟩⟩
   ·obtain rfl := Option.some.inj H
    go_wp2
    go_ret
    exact ⟨_, re, ro HO_3.out, bw⟩


/-! ### spec_Gaps: function 112 -/
def spec_Gaps.f (k : Nat) (l0_0 : List Int) : Option (List Int) := (spec_IsSemigroup.f k l0_0).bind fun t274 => (if t274 = true then ((spec_l4Gaps.f k l0_0).bind fun t275 => (some t275)) else (some (([] : List Int))))
set_option maxHeartbeats 8000000 in
set_option maxRecDepth 100000 in
theorem spec_Gaps.calls (k : Nat) (A0_0 : Option Addr) (c0_0 : Nat) (l0_0 : List Int) (r : List Int) (w : World) (hr0_0 : Kd.C (Kd.int .i64) w A0_0 l0_0.length l0_0) (hc0_0 : l0_0.length ≤ c0_0) (h : spec_Gaps.f k l0_0 = some r) :
  Calls Try.prog 112 #[.agg #[.slice A0_0 l0_0.length c0_0]] w fun e w' => ∃ v0_ : Value, e = .returned (v0_) ∧ Kd.R (Kd.int .i64) 3 w' w.heap.size (fun _ => True) v0_ r ∧ Below w.heap.size w w' := by
 have hu27 := Try.underlying27
 have HR0_0 := Aside0.mk hr0_0
 have HC0_0 := Aside0.mk hc0_0
 clear hr0_0 hc0_0
 have HB := Aside0.mk (Below.refl w.heap.size w)
 have H : ((spec_IsSemigroup.f k l0_0).bind fun t274 => (if t274 = true then ((spec_l4Gaps.f k l0_0).bind fun t275 => (some t275)) else (some (([] : List Int))))) = some r := h
 clear h
 replace H := ga H; obtain ⟨t274, A2, H⟩ := H
 replace H := gb H; obtain ⟨rfl, H⟩ | ⟨rfl, H⟩ := H
 ·replace H := ga H; obtain ⟨t275, A4, H⟩ := H
  obtain rfl := Option.some.inj H
  go_enter Try.func112, Try.ntmps112
  go_wp2_with (first | ((with_reducible refine gate_dst (N := 1) rfl ?_); refine bx 1 #[.slice A0_0 l0_0.length c0_0] 27 ?_; intro gb273 hg w5 hbox hb; have BK273 := Aside0.mk (hbox); have GW273 := Aside0.mk (gs hg : w.heap.size ≤ gb273); have GE273 := Aside0.mk (gs hg : w.heap.size ≤ gb273); replace HB := Aside0.mk (below_step bw hb); clear hb hbox hg; have hcz6_0 := bc BK273 0 (.slice A0_0 l0_0.length c0_0); have hfz6_0 := blk_frozen BK273.out 0) | ((with_reducible refine gate_callee (f := 71) rfl ?_); refine gl (some 4) Try.func71 #[.agg #[.slice A0_0 l0_0.length c0_0]] ?_; (with_reducible refine (spec_IsSemigroup.calls k _ _ l0_0 true _ ?side1 ?side2 A2.out).mono ?_); (case side1 => exact co (Kd.C_below HR0_0.out HB.out)); (case side2 => exact HC0_0.out); rintro e w7 ⟨rfl, hb⟩; refine ⟨_, rfl, ?_⟩; replace BK273 := Aside0.mk (blk_below (g := gb273) (o := .cells #[.slice A0_0 l0_0.length c0_0] 27 (0, 0)) (bo BK273.out) hb); replace HB := Aside0.mk (below_step bw hb); clear hb; have hcz8_0 := bc BK273 0 (.slice A0_0 l0_0.length c0_0); have hfz8_0 := blk_frozen BK273.out 0) | ((with_reducible refine gate_callee (f := 82) rfl ?_); refine gl (some 8) Try.func82 #[.agg #[.slice A0_0 l0_0.length c0_0]] ?_; (with_reducible refine (spec_l4Gaps.calls k _ _ l0_0 t275 _ ?side1 ?side2 A4.out).mono ?_); (case side1 => exact co (Kd.C_below HR0_0.out HB.out)); (case side2 => exact HC0_0.out); rintro e w9 ⟨v276, rfl, ho0, hb⟩; refine ⟨_, rfl, ?_⟩; have HO277 := Aside0.mk (Kd.R_lower ho0 (below_size bw)); replace BK273 := Aside0.mk (blk_below (g := gb273) (o := .cells #[.slice A0_0 l0_0.length c0_0] 27 (0, 0)) (bo BK273.out) hb); replace HB := Aside0.mk (below_step bw hb); clear hb ho0))
  go_ret
  exact ⟨_, re, ro HO277.out, bw⟩
 ·obtain ⟨y278, hy278⟩ : ∃ y_ : List Int, y_ = (([] : List Int)) := ⟨_, rfl⟩
  replace H : (some y278) = some r := by first | (rw [hy278]; with_reducible exact H) | (have H2_ := (Option.bind_some _ _).symm.trans H; rw [hy278]; with_reducible exact H2_) | (have H2_ := (Option.bind_some _ _).symm.trans H; with_reducible exact H2_) | with_reducible exact H | (rw [hy278]; exact H) | exact H
  have Ny278 := Aside0.mk hy278
  clear hy278
  obtain rfl := Option.some.inj H
  go_enter Try.func112, Try.ntmps112
  go_wp2_with (first | ((with_reducible refine gate_dst (N := 1) rfl ?_); refine bx 1 #[.slice A0_0 l0_0.length c0_0] 27 ?_; intro gb273 hg w10 hbox hb; have BK273 := Aside0.mk (hbox); have GW273 := Aside0.mk (gs hg : w.heap.size ≤ gb273); have GE273 := Aside0.mk (gs hg : w.heap.size ≤ gb273); replace HB := Aside0.mk (below_step bw hb); clear hb hbox hg; have hcz11_0 := bc BK273 0 (.slice A0_0 l0_0.length c0_0); have hfz11_0 := blk_frozen BK273.out 0) | ((with_reducible refine gate_callee (f := 71) rfl ?_); refine gl (some 4) Try.func71 #[.agg #[.slice A0_0 l0_0.length c0_0]] ?_; (with_reducible refine (spec_IsSemigroup.calls k _ _ l0_0 false _ ?side1 ?side2 A2.out).mono ?_); (case side1 => exact co (Kd.C_below HR0_0.out HB.out)); (case side2 => exact HC0_0.out); rintro e w12 ⟨rfl, hb⟩; refine ⟨_, rfl, ?_⟩; replace BK273 := Aside0.mk (blk_below (g := gb273) (o := .cells #[.slice A0_0 l0_0.length c0_0] 27 (0, 0)) (bo BK273.out) hb); replace HB := Aside0.mk (below_step bw hb); clear hb) | ((with_reducible refine gate_dst (N := 6) rfl ?_); refine Kd.R_lit (Kd.int .i64) _ 3 ?hg (N := 6) ?hd (xs := ([] : List Int)) (inner := []) (ok := fun _ => True) (okp := fun _ => True) ?hr ?hp (fun _ hk => hk) trivial (Below.refl _ _) (Nat.le_refl _) (by simp) ?_; (case hd => rfl); (case hg => rfl); (case hr => first | (go_simp; done) | (go_simp; rfl)); (case hp => exact (Reps.none _ _)); intro v279 w13 ho14 hb hg_ hnew_; clear hg_ hnew_; (first | rw [← Ny278.out] at ho14 | (simp only [Int.reduceToNat] at ho14; rw [← Ny278.out] at ho14)); have HO280 := Aside0.mk (Kd.R_lower ho14 (below_size bw)); replace BK273 := Aside0.mk (blk_below (g := gb273) (o := .cells #[.slice A0_0 l0_0.length c0_0] 27 (0, 0)) (bo BK273.out) hb); replace HB := Aside0.mk (below_step bw hb); clear hb ho14))
  go_ret
  exact ⟨_, re, ro HO280.out, bw⟩


/-! ### spec_FrobeniusOf: function 73 -/
def spec_FrobeniusOf.f (k : Nat) (l0_0 : List Int) : Option (Int) := (spec_Gaps.f k l0_0).bind fun t282 => (if (t282.length : Int) = 0 then (some (-1)) else (if 0 ≤ (wrap64 ((t282.length : Int) - 1)) then (if (wrap64 ((t282.length : Int) - 1)) < (t282.length : Int) then (some (rd t282 (wrap64 ((t282.length : Int) - 1)))) else (none)) else (none)))
set_option maxHeartbeats 8000000 in
set_option maxRecDepth 100000 in
theorem spec_FrobeniusOf.calls (k : Nat) (A0_0 : Option Addr) (c0_0 : Nat) (l0_0 : List Int) (r : Int) (w : World) (hr0_0 : Kd.C (Kd.int .i64) w A0_0 l0_0.length l0_0) (hc0_0 : l0_0.length ≤ c0_0) (h : spec_FrobeniusOf.f k l0_0 = some r) :
  Calls Try.prog 73 #[.agg #[.slice A0_0 l0_0.length c0_0]] w fun e w' => e = .returned (.int .i64 r) ∧ Below w.heap.size w w' := by
 have hu27 := Try.underlying27
 have HR0_0 := Aside0.mk hr0_0
 have HC0_0 := Aside0.mk hc0_0
 clear hr0_0 hc0_0
 have HB := Aside0.mk (Below.refl w.heap.size w)
 have H : ((spec_Gaps.f k l0_0).bind fun t282 => (if (t282.length : Int) = 0 then (some (-1)) else (if 0 ≤ (wrap64 ((t282.length : Int) - 1)) then (if (wrap64 ((t282.length : Int) - 1)) < (t282.length : Int) then (some (rd t282 (wrap64 ((t282.length : Int) - 1)))) else (none)) else (none)))) = some r := h
 clear h
 replace H := ga H; obtain ⟨t282, A2, H⟩ := H
 by_cases c3 : (t282.length : Int) = 0
 ·rw [if_pos c3] at H
  have c3b0 : ((t282.length : Int) == 0) = true := beq_iff_eq.mpr c3
  have c3b1 : ((t282.length : Int) != 0) = false := bne_eq_false_iff_eq.mpr c3
  clear c3
  obtain rfl := Option.some.inj H
  go_enter Try.func73, Try.ntmps73
  go_wp2_with (first | ((with_reducible refine gate_dst (N := 1) rfl ?_); refine bx 1 #[.slice A0_0 l0_0.length c0_0] 27 ?_; intro gb281 hg w4 hbox hb; have BK281 := Aside0.mk (hbox); have GW281 := Aside0.mk (gs hg : w.heap.size ≤ gb281); have GE281 := Aside0.mk (gs hg : w.heap.size ≤ gb281); replace HB := Aside0.mk (below_step bw hb); clear hb hbox hg; have hcz5_0 := bc BK281 0 (.slice A0_0 l0_0.length c0_0); have hfz5_0 := blk_frozen BK281.out 0) | ((with_reducible refine gate_callee (f := 112) rfl ?_); refine gl (some 5) Try.func112 #[.agg #[.slice A0_0 l0_0.length c0_0]] ?_; (with_reducible refine (spec_Gaps.calls k _ _ l0_0 t282 _ ?side1 ?side2 A2.out).mono ?_); (case side1 => exact co (Kd.C_below HR0_0.out HB.out)); (case side2 => exact HC0_0.out); rintro e w6 ⟨v283, rfl, ho0, hb⟩; refine ⟨_, rfl, ?_⟩; have HO284 := Aside0.mk (Kd.R_lower ho0 (below_size bw)); replace BK281 := Aside0.mk (blk_below (g := gb281) (o := .cells #[.slice A0_0 l0_0.length c0_0] 27 (0, 0)) (bo BK281.out) hb); replace HB := Aside0.mk (below_step bw hb); clear hb ho0; obtain ⟨Ao7, co7, eo7⟩ := Kd.R_slice HO284.out; subst eo7))
  go_ret
  exact ⟨re, bw⟩
 ·rw [if_neg c3] at H
  have c3b0 : ((t282.length : Int) == 0) = false := beq_eq_false_iff_ne.mpr c3
  have c3b1 : ((t282.length : Int) != 0) = true := bne_iff_ne.mpr c3
  have c3b2 : ¬ (t282 = []) := fun h_ => c3 (by rw [h_]; rfl)
  obtain ⟨ji8, hji8⟩ : ∃ j_ : Int, (wrap64 ((t282.length : Int) - 1)) = j_ := ⟨_, rfl⟩
  replace H : (if 0 ≤ (ji8) then (if (ji8) < (t282.length : Int) then (some (rd t282 (ji8))) else (none)) else (none)) = some r := by first | (rw [hji8] at H; exact H) | (simp only [hji8] at H ⊢; exact H)
  (try rw [hji8] at A2)
  have hji8w : (IntKind.i64.wrap ((t282.length : Int) - 1)) = ji8 := (i64_w _).trans hji8
  replace H := gd H; obtain ⟨c9b0, H⟩ := H
  replace H := gd H; obtain ⟨c10b0, H⟩ := H
  obtain rfl := Option.some.inj H
  go_enter Try.func73, Try.ntmps73
  go_wp2_with (first | ((with_reducible refine gate_dst (N := 1) rfl ?_); refine bx 1 #[.slice A0_0 l0_0.length c0_0] 27 ?_; intro gb281 hg w11 hbox hb; have BK281 := Aside0.mk (hbox); have GW281 := Aside0.mk (gs hg : w.heap.size ≤ gb281); have GE281 := Aside0.mk (gs hg : w.heap.size ≤ gb281); replace HB := Aside0.mk (below_step bw hb); clear hb hbox hg; have hcz12_0 := bc BK281 0 (.slice A0_0 l0_0.length c0_0); have hfz12_0 := blk_frozen BK281.out 0) | ((with_reducible refine gate_callee (f := 112) rfl ?_); refine gl (some 5) Try.func112 #[.agg #[.slice A0_0 l0_0.length c0_0]] ?_; (with_reducible refine (spec_Gaps.calls k _ _ l0_0 t282 _ ?side1 ?side2 A2.out).mono ?_); (case side1 => exact co (Kd.C_below HR0_0.out HB.out)); (case side2 => exact HC0_0.out); rintro e w13 ⟨v283, rfl, ho0, hb⟩; refine ⟨_, rfl, ?_⟩; have HO284 := Aside0.mk (Kd.R_lower ho0 (below_size bw)); replace BK281 := Aside0.mk (blk_below (g := gb281) (o := .cells #[.slice A0_0 l0_0.length c0_0] 27 (0, 0)) (bo BK281.out) hb); replace HB := Aside0.mk (below_step bw hb); clear hb ho0; obtain ⟨Ao14, co14, eo14⟩ := Kd.R_slice HO284.out; subst eo14; have p285 : 0 ≤ ((ji8) : Int) := of_decide_eq_true (by first | (with_reducible assumption) | assumption); have q285 : (ji8) < (t282.length : Int) := of_decide_eq_true (by first | (with_reducible assumption) | assumption); obtain ⟨ad285, e285, hx285_0⟩ := Kd.at_int (Kd.R_reads' HO284.out).2.2 (ji8) p285 q285; cases e285; replace p285 := eq_true p285; replace q285 := eq_true q285))
  go_ret
  exact ⟨by first | rfl | (simp [errW_none, errW_some] <;> rfl) | (simp only [← hji8]; first | rfl | (simp [errW_none, errW_some] <;> rfl)) | (simp [*, errW_none, errW_some] <;> rfl), bw⟩


/-! ### spec_ConductorOf: function 78 -/
def spec_ConductorOf.f (k : Nat) (l0_0 : List Int) : Option (Int) := (spec_FrobeniusOf.f k l0_0).bind fun t287 => (some (wrap64 (t287 + 1)))
set_option maxHeartbeats 8000000 in
set_option maxRecDepth 100000 in
theorem spec_ConductorOf.calls (k : Nat) (A0_0 : Option Addr) (c0_0 : Nat) (l0_0 : List Int) (r : Int) (w : World) (hr0_0 : Kd.C (Kd.int .i64) w A0_0 l0_0.length l0_0) (hc0_0 : l0_0.length ≤ c0_0) (h : spec_ConductorOf.f k l0_0 = some r) :
  Calls Try.prog 78 #[.agg #[.slice A0_0 l0_0.length c0_0]] w fun e w' => e = .returned (.int .i64 r) ∧ Below w.heap.size w w' := by
 have hu27 := Try.underlying27
 have HR0_0 := Aside0.mk hr0_0
 have HC0_0 := Aside0.mk hc0_0
 clear hr0_0 hc0_0
 have HB := Aside0.mk (Below.refl w.heap.size w)
 have H : ((spec_FrobeniusOf.f k l0_0).bind fun t287 => (some (wrap64 (t287 + 1)))) = some r := h
 clear h
 replace H := ga H; obtain ⟨t287, A2, H⟩ := H
 obtain rfl := Option.some.inj H
 go_enter Try.func78, Try.ntmps78
 go_wp2_with (first | ((with_reducible refine gate_dst (N := 1) rfl ?_); refine bx 1 #[.slice A0_0 l0_0.length c0_0] 27 ?_; intro gb286 hg w3 hbox hb; have BK286 := Aside0.mk (hbox); have GW286 := Aside0.mk (gs hg : w.heap.size ≤ gb286); have GE286 := Aside0.mk (gs hg : w.heap.size ≤ gb286); replace HB := Aside0.mk (below_step bw hb); clear hb hbox hg; have hcz4_0 := bc BK286 0 (.slice A0_0 l0_0.length c0_0); have hfz4_0 := blk_frozen BK286.out 0) | ((with_reducible refine gate_callee (f := 73) rfl ?_); refine gl (some 4) Try.func73 #[.agg #[.slice A0_0 l0_0.length c0_0]] ?_; (with_reducible refine (spec_FrobeniusOf.calls k _ _ l0_0 t287 _ ?side1 ?side2 A2.out).mono ?_); (case side1 => exact co (Kd.C_below HR0_0.out HB.out)); (case side2 => exact HC0_0.out); rintro e w5 ⟨rfl, hb⟩; refine ⟨_, rfl, ?_⟩; replace BK286 := Aside0.mk (blk_below (g := gb286) (o := .cells #[.slice A0_0 l0_0.length c0_0] 27 (0, 0)) (bo BK286.out) hb); replace HB := Aside0.mk (below_step bw hb); clear hb))
 go_ret
 exact ⟨re, bw⟩


/-! ### spec_l15Has: function 113 -/
def spec_l15Has.f (k : Nat) (l0_0 : List Int) (a1 : Int) : Option (Bool) := if a1 = 0 then (some true) else ((spec_l3Has.f k l0_0 a1).bind fun t289 => (some t289))
set_option maxHeartbeats 8000000 in
set_option maxRecDepth 100000 in
theorem spec_l15Has.calls (k : Nat) (A0_0 : Option Addr) (c0_0 : Nat) (l0_0 : List Int) (a1 : Int) (r : Bool) (w : World) (hr0_0 : Kd.C (Kd.int .i64) w A0_0 l0_0.length l0_0) (hc0_0 : l0_0.length ≤ c0_0) (h : spec_l15Has.f k l0_0 a1 = some r) :
  Calls Try.prog 113 #[.agg #[.slice A0_0 l0_0.length c0_0], .int .i64 a1] w fun e w' => e = .returned (.bool r) ∧ Below w.heap.size w w' := by
 have hu27 := Try.underlying27
 have HR0_0 := Aside0.mk hr0_0
 have HC0_0 := Aside0.mk hc0_0
 clear hr0_0 hc0_0
 have HB := Aside0.mk (Below.refl w.heap.size w)
 have H : (if a1 = 0 then (some true) else ((spec_l3Has.f k l0_0 a1).bind fun t289 => (some t289))) = some r := h
 clear h
 by_cases c3 : a1 = 0
 ·rw [if_pos c3] at H
  have c3b0 : (a1 == 0) = true := beq_iff_eq.mpr c3
  have c3b1 : (a1 != 0) = false := bne_eq_false_iff_eq.mpr c3
  clear c3
  obtain rfl := Option.some.inj H
  go_enter Try.func113, Try.ntmps113
  go_wp2_with (first | ((with_reducible refine gate_dst (N := 2) rfl ?_); refine bx 2 #[.slice A0_0 l0_0.length c0_0] 27 ?_; intro gb288 hg w4 hbox hb; have BK288 := Aside0.mk (hbox); have GW288 := Aside0.mk (gs hg : w.heap.size ≤ gb288); have GE288 := Aside0.mk (gs hg : w.heap.size ≤ gb288); replace HB := Aside0.mk (below_step bw hb); clear hb hbox hg))
  go_ret
  exact ⟨re, bw⟩
 ·rw [if_neg c3] at H
  have c3b0 : (a1 == 0) = false := beq_eq_false_iff_ne.mpr c3
  have c3b1 : (a1 != 0) = true := bne_iff_ne.mpr c3
  replace H := ga H; obtain ⟨t289, A5, H⟩ := H
  obtain rfl := Option.some.inj H
  go_enter Try.func113, Try.ntmps113
  go_wp2_with (first | ((with_reducible refine gate_dst (N := 2) rfl ?_); refine bx 2 #[.slice A0_0 l0_0.length c0_0] 27 ?_; intro gb288 hg w6 hbox hb; have BK288 := Aside0.mk (hbox); have GW288 := Aside0.mk (gs hg : w.heap.size ≤ gb288); have GE288 := Aside0.mk (gs hg : w.heap.size ≤ gb288); replace HB := Aside0.mk (below_step bw hb); clear hb hbox hg; have hcz7_0 := bc BK288 0 (.slice A0_0 l0_0.length c0_0); have hfz7_0 := blk_frozen BK288.out 0) | (go_at_call 86; (with_reducible refine (spec_l3Has.calls k _ _ l0_0 a1 t289 _ ?side1 ?side2 A5.out).mono ?_); (case side1 => exact co (Kd.C_below HR0_0.out HB.out)); (case side2 => exact HC0_0.out); rintro e w8 ⟨rfl, hb⟩; replace BK288 := Aside0.mk (blk_below (g := gb288) (o := .cells #[.slice A0_0 l0_0.length c0_0] 27 (0, 0)) (bo BK288.out) hb); replace HB := Aside0.mk (below_step bw hb); clear hb))
  go_ret
  exact ⟨re, bw⟩


/-! ### spec_l16Dual: function 79 -/
def spec_l16Dual.l0 : Nat → List Int → Int → Int → List Int → Option (Bool)
 | 0, _, _, _, _ => none
 | k + 1, x1, x2, x7, x291000 => if x7 < (x1.length : Int) then (if 0 ≤ x7 then ((spec_l15Has.f k x291000 (wrap64 (x2 + (rd x1 x7)))).bind fun t292 => (if t292 = true then (spec_l16Dual.l0 k x1 x2 (wrap64 (x7 + 1)) x291000) else (some false))) else (none)) else (some true)
def spec_l16Dual.f (k : Nat) (l0_0 : List Int) (l1 : List Int) (a2 : Int) : Option (Bool) := spec_l16Dual.l0 k l1 a2 0 l0_0
def spec_l16Dual.T4 : Bool × List (List Nat × List Nat) := (true, [([], []), ([], []), ([], []), ([], []), ([2, 3], [2, 3]), ([4], [4]), ([1, 5], [1, 5]), ([0, 6], [0, 6]), ([7], [7])])
def spec_l16Dual.B4 : List Nat := [0, 0, 0, 0, 12, 28, 62, 127, 255]
theorem spec_l16Dual.tab4 : rtab .any (opsOf Try.f79 4) = spec_l16Dual.T4 := by kernel_rfl
theorem spec_l16Dual.bits4 : waitsOk spec_l16Dual.T4.2 spec_l16Dual.B4 = true := by kernel_rfl
set_option maxHeartbeats 8000000 in
set_option maxRecDepth 100000 in
theorem spec_l16Dual.calls (k : Nat) (A0_0 : Option Addr) (c0_0 : Nat) (l0_0 : List Int) (A1 : Option Addr) (c1 : Nat) (l1 : List Int) (a2 : Int) (r : Bool) (w : World) (hr0_0 : Kd.C (Kd.int .i64) w A0_0 l0_0.length l0_0) (hc0_0 : l0_0.length ≤ c0_0) (hr1 : Kd.C (Kd.int .i64) w A1 l1.length l1) (hc1 : l1.length ≤ c1) (h : spec_l16Dual.f k l0_0 l1 a2 = some r) :
  Calls Try.prog 79 #[.agg #[.slice A0_0 l0_0.length c0_0], .slice A1 l1.length c1, .int .i64 a2] w fun e w' => e = .returned (.bool r) ∧ Below w.heap.size w w' := by
 have hu27 := Try.underlying27
 have HR0_0 := Aside0.mk hr0_0
 have HC0_0 := Aside0.mk hc0_0
 clear hr0_0 hc0_0
 have HR1 := Aside0.mk hr1
 have HC1 := Aside0.mk hc1
 clear hr1 hc1
 have HB := Aside0.mk (Below.refl w.heap.size w)
 have H : (spec_l16Dual.l0 k l1 a2 0 l0_0) = some r := h
 clear h
 have H' := Aside0.mk H
 clear H
 go_enter Try.func79, Try.ntmps79
 go_wp2_with (first | ((with_reducible refine gate_dst (N := 3) rfl ?_); refine bx 3 #[.slice A0_0 l0_0.length c0_0] 27 ?_; intro gb290 hg w4 hbox hb; have BK290 := Aside0.mk (hbox); have GW290 := Aside0.mk (gs hg : w.heap.size ≤ gb290); have GE290 := Aside0.mk (gs hg : w.heap.size ≤ gb290); replace HB := Aside0.mk (below_step bw hb); clear hb hbox hg))
 go_loopg [7] k (fun kq v7 w' => ∃ (x7_1 : Int), v7 = .int .i64 x7_1 ∧ Aside0 (spec_l16Dual.l0 kq l1 a2 x7_1 l0_0 = some r) ∧ Aside0 (kq ≤ k) ∧ Aside0 (w'.heap[gb290]? = some (.cells #[(.slice A0_0 l0_0.length c0_0)] 27 (0, 0))) ∧ Aside0 (Below w.heap.size w w'))
 case atStart => exact ⟨(0), rr, H', ⟨Nat.le_refl _⟩, ⟨bo BK290.out⟩, ⟨bw⟩⟩
 case round =>
  clear H'
  try clear c1
  obtain ⟨x7_1, rfl, HA, HK1, BK290, HB⟩ := hrel
  cases gk with
  | zero => exact absurd HA.out (by simp [spec_l16Dual.l0])
  | succ k1 =>
   have H := HA.out
   clear HA
   simp only [spec_l16Dual.l0] at H
   replace H := gi H; obtain ⟨c5b0, H⟩ | ⟨c5b0, H⟩ := H
   ·replace H := gd H; obtain ⟨c6b0, H⟩ := H
    replace H := ga H; obtain ⟨t292, A7, H⟩ := H
    replace H := gb H; obtain ⟨rfl, H⟩ | ⟨rfl, H⟩ := H
    ·have H' := Aside0.mk H
     clear H
     try go_wp2
     replace BK290 := Aside0.mk (blk_drew BK290.out)
     replace HB := Aside0.mk (below_drew1 HB.out)
     obtain ⟨⟨ad291, e291, hx291_0⟩, p291, q291⟩ := pq (Kd.at_int HR1.out x7_1)
     have hw291_0 := hx291_0
     cases e291
     replace hx291_0 := (HB.out.cell (World.block_lt_of_cell? w _ hx291_0)).trans hx291_0
     refine start_ (n := 9) (S := fun w' => w'.cell? ⟨gb290, 0, none⟩ = some (.slice A0_0 l0_0.length c0_0) ∧ w'.cell? (ad291.add (x7_1).toNat) = some (.int .i64 (rd l1 x7_1))) (ds := []) #[Z,Z,Z,Z,Z,Z,Z,Z,Z] (by kernel_rfl) rfl rfl ⟨(blk_cell BK290.out 0).trans rfl, ((HB.out.cell (World.block_lt_of_cell? w _ hw291_0)).trans hw291_0)⟩ (fun hHeld => ?_); refine with_tabW spec_l16Dual.tab4 spec_l16Dual.bits4 (fun HT_ HW_ => ?_)
     generalize wr.drew = w9 at BK290 HB hx291_0 hHeld ⊢
     refine pa 1 (some 15) #[Z,Y,Z,Z,Z,Z,Z,Z,Z] HT_ ?_
     refine pa 2 (some 16) #[Z,Y,Y,Z,Z,Z,Z,Z,Z] HT_ ?_
     refine pa 3 (some 17) #[Z,Y,Y,Y,Z,Z,Z,Z,Z] HT_ ?_
     refine pa 4 (some 18) #[Z,Y,Y,Y,Y,Z,Z,Z,Z] HT_ ?_
     refine take_ (i := 0) (N := some 14) (v := ?_) (a' := ?_) #[Y,Y,Y,Y,Y,Z,Z,Z,Z] rfl rfl (take_ofW HT_.out HW_.out (by kernel_rfl)) (fun _ _ _ h => h) (Or.inl ⟨by rfl, ?_⟩) hHeld ?_ ?_
     rotate_left
     ·rintro w' ⟨s0, s1⟩
      go_simp
      with_reducible rfl
     rotate_left
     ·simp only [Act.put, qa, qb, qc, i64_w, i32_w]
      rfl
     refine take_ (i := 5) (N := some 19) (v := ?_) (a' := ?_) #[Y,Y,Y,Y,Y,Y,Z,Z,Z] rfl rfl (take_ofW HT_.out HW_.out (by kernel_rfl)) (fun _ _ _ h => h) (Or.inl ⟨by rfl, ?_⟩) hHeld ?_ ?_
     rotate_left
     ·rintro w' ⟨s0, s1⟩
      go_simp
      with_reducible rfl
     rotate_left
     ·simp only [Act.put, qa, qb, qc, i64_w, i32_w]
      rfl
     refine pa 6 (some 20) #[Y,Y,Y,Y,Y,Y,Y,Z,Z] HT_ ?_
     refine oa 7 (some 21) #[Y,Y,Y,Y,Y,Y,Y,Y,Z] HT_ (fun K hK => ?_)
     refine gm Try.func113 #[.agg #[.slice A0_0 l0_0.length c0_0], .int .i64 (wrap64 (a2 + (rd l1 x7_1)))] ?_
     with_reducible refine (spec_l15Has.calls k1 _ _ l0_0 (wrap64 (a2 + (rd l1 x7_1))) true _ ?side1 ?side2 A7.out).mono ?_
     (case side1 => exact co (Kd.C_below HR0_0.out HB.out))
     (case side2 => exact HC0_0.out)
     rintro e w10 ⟨rfl, hb⟩
     refine ⟨_, rfl, ?_⟩
     replace BK290 := Aside0.mk (blk_below (g := gb290) (o := .cells #[.slice A0_0 l0_0.length c0_0] 27 (0, 0)) (bo BK290.out) hb)
     replace HB := Aside0.mk (below_step bw hb)
     clear hb
     refine hK.out _ _ ⟨(blk_cell BK290.out 0).trans rfl, ((HB.out.cell (World.block_lt_of_cell? w _ hw291_0)).trans hw291_0)⟩ (fun hHeld => ?_)
     clear hK K
     refine norm_ (a' := ?_) ?_ ?_
     rotate_left
     ·show Act.put _ (some 21) _ = _
      simp only [Act.put, qa, qb, qc, i64_w, i32_w]
      rfl
     refine pa 8 (some 22) #[Y,Y,Y,Y,Y,Y,Y,Y,Y] HT_ ?_
     refine done_ (done_of HT_.out (by kernel_rfl)) ?_
     try go_wp2
     go_roundg k1
     case measure => have := HK1.out; omega
     case rel => exact ⟨(wrap64 (x7_1 + 1)), rr, H', ⟨by have := HK1.out; omega⟩, ⟨bo BK290.out⟩, ⟨bw⟩⟩
    ·obtain rfl := Option.some.inj H
     try go_wp2
     replace BK290 := Aside0.mk (blk_drew BK290.out)
     replace HB := Aside0.mk (below_drew1 HB.out)
     obtain ⟨⟨ad291, e291, hx291_0⟩, p291, q291⟩ := pq (Kd.at_int HR1.out x7_1)
     have hw291_0 := hx291_0
     cases e291
     replace hx291_0 := (HB.out.cell (World.block_lt_of_cell? w _ hx291_0)).trans hx291_0
     refine start_ (n := 9) (S := fun w' => w'.cell? ⟨gb290, 0, none⟩ = some (.slice A0_0 l0_0.length c0_0) ∧ w'.cell? (ad291.add (x7_1).toNat) = some (.int .i64 (rd l1 x7_1))) (ds := []) #[Z,Z,Z,Z,Z,Z,Z,Z,Z] (by kernel_rfl) rfl rfl ⟨(blk_cell BK290.out 0).trans rfl, ((HB.out.cell (World.block_lt_of_cell? w _ hw291_0)).trans hw291_0)⟩ (fun hHeld => ?_); refine with_tabW spec_l16Dual.tab4 spec_l16Dual.bits4 (fun HT_ HW_ => ?_)
     generalize wr.drew = w11 at BK290 HB hx291_0 hHeld ⊢
     refine pa 1 (some 15) #[Z,Y,Z,Z,Z,Z,Z,Z,Z] HT_ ?_
     refine pa 2 (some 16) #[Z,Y,Y,Z,Z,Z,Z,Z,Z] HT_ ?_
     refine pa 3 (some 17) #[Z,Y,Y,Y,Z,Z,Z,Z,Z] HT_ ?_
     refine pa 4 (some 18) #[Z,Y,Y,Y,Y,Z,Z,Z,Z] HT_ ?_
     refine take_ (i := 0) (N := some 14) (v := ?_) (a' := ?_) #[Y,Y,Y,Y,Y,Z,Z,Z,Z] rfl rfl (take_ofW HT_.out HW_.out (by kernel_rfl)) (fun _ _ _ h => h) (Or.inl ⟨by rfl, ?_⟩) hHeld ?_ ?_
     rotate_left
     ·rintro w' ⟨s0, s1⟩
      go_simp
      with_reducible rfl
     rotate_left
     ·simp only [Act.put, qa, qb, qc, i64_w, i32_w]
      rfl
     refine take_ (i := 5) (N := some 19) (v := ?_) (a' := ?_) #[Y,Y,Y,Y,Y,Y,Z,Z,Z] rfl rfl (take_ofW HT_.out HW_.out (by kernel_rfl)) (fun _ _ _ h => h) (Or.inl ⟨by rfl, ?_⟩) hHeld ?_ ?_
     rotate_left
     ·rintro w' ⟨s0, s1⟩
      go_simp
      with_reducible rfl
     rotate_left
     ·simp only [Act.put, qa, qb, qc, i64_w, i32_w]
      rfl
     refine pa 6 (some 20) #[Y,Y,Y,Y,Y,Y,Y,Z,Z] HT_ ?_
     refine oa 7 (some 21) #[Y,Y,Y,Y,Y,Y,Y,Y,Z] HT_ (fun K hK => ?_)
     refine gm Try.func113 #[.agg #[.slice A0_0 l0_0.length c0_0], .int .i64 (wrap64 (a2 + (rd l1 x7_1)))] ?_
     with_reducible refine (spec_l15Has.calls k1 _ _ l0_0 (wrap64 (a2 + (rd l1 x7_1))) false _ ?side1 ?side2 A7.out).mono ?_
     (case side1 => exact co (Kd.C_below HR0_0.out HB.out))
     (case side2 => exact HC0_0.out)
     rintro e w12 ⟨rfl, hb⟩
     refine ⟨_, rfl, ?_⟩
     replace BK290 := Aside0.mk (blk_below (g := gb290) (o := .cells #[.slice A0_0 l0_0.length c0_0] 27 (0, 0)) (bo BK290.out) hb)
     replace HB := Aside0.mk (below_step bw hb)
     clear hb
     refine hK.out _ _ ⟨(blk_cell BK290.out 0).trans rfl, ((HB.out.cell (World.block_lt_of_cell? w _ hw291_0)).trans hw291_0)⟩ (fun hHeld => ?_)
     clear hK K
     refine norm_ (a' := ?_) ?_ ?_
     rotate_left
     ·show Act.put _ (some 21) _ = _
      simp only [Act.put, qa, qb, qc, i64_w, i32_w]
      rfl
     refine pa 8 (some 22) #[Y,Y,Y,Y,Y,Y,Y,Y,Y] HT_ ?_
     refine done_ (done_of HT_.out (by kernel_rfl)) ?_
     try go_wp2
     go_ret
     exact ⟨re, bw⟩
   ·obtain rfl := Option.some.inj H
    go_wp2
    go_ret
    exact ⟨re, bw⟩

end Go.Proofs.Ytiejmnnnjmmifaa.C
