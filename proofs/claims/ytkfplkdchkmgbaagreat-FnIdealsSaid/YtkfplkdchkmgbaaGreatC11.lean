/- Contracts of functions of the program: spec_l10Top, spec_MinimalIn, spec_IdealGens, impl_SumsOf, impl_IdealSum, spec_l2All, spec_SumsOf. -/
import Derived.Test.YtkfplkdchkmgbaaGreatC0
import Derived.Test.YtkfplkdchkmgbaaGreatC1
import Derived.Test.YtkfplkdchkmgbaaGreatC2
import Derived.Test.YtkfplkdchkmgbaaGreatC3
import Derived.Test.YtkfplkdchkmgbaaGreatC7
import Derived.Test.YtkfplkdchkmgbaaGreatC9
import Derived.Test.YtkfplkdchkmgbaaGreatC10
namespace Go.Proofs.YtkfplkdchkmgbaaGreat.C
open Go.RowKit Go.Proofs.YtkfplkdchkmgbaaGreatW.PrintWords Go.Proofs.YtkfplkdchkmgbaaGreatW.PrintLast Go.Proofs.YtkfplkdchkmgbaaGreatW.PrintMore
attribute [local go_sem] max2_int min2_int max_two min_two max_three min_three max_four min_four
set_option linter.unusedVariables false
set_option linter.unusedSimpArgs false

/-! ### spec_l10Top: function 105 -/
mutual
def spec_l10Top.j0 : Nat → List Int → Bool → List Int → Bool → List Int → Option (List Int)
 | 0, _, _, _, _, _ => none
 | k + 1, x1, x2, x7, x21, x705000 => if x21 = true then (some x7) else (spec_l10Top.l0 k x1 x2 x7 0 x705000)
def spec_l10Top.l0 : Nat → List Int → Bool → List Int → Int → List Int → Option (List Int)
 | 0, _, _, _, _, _ => none
 | k + 1, x1, x2, x7, x8, x705000 => if x8 < (x1.length : Int) then (spec_l10Top.l1 k x1 x2 x7 x8 true 0 x705000) else ((spec_SortList.f k x7).bind fun t710 => (some t710))
def spec_l10Top.l1 : Nat → List Int → Bool → List Int → Int → Bool → Int → List Int → Option (List Int)
 | 0, _, _, _, _, _, _, _ => none
 | k + 1, x1, x2, x7, x8, x9, x10, x705000 => if x10 < (x1.length : Int) then (if 0 ≤ x8 then (if x8 < (x1.length : Int) then (if 0 ≤ x10 then (if x9 = true then (if (rd x1 x8) = (rd x1 x10) then (spec_l10Top.l1 k x1 x2 x7 x8 true (wrap64 (x10 + 1)) x705000) else (if x2 = true then ((spec_l3Has.f k x705000 (wrap64 ((rd x1 x8) - (rd x1 x10)))).bind fun t715 => (spec_l10Top.l1 k x1 x2 x7 x8 (!t715) (wrap64 (x10 + 1)) x705000)) else ((spec_l3Has.f k x705000 (wrap64 ((rd x1 x10) - (rd x1 x8)))).bind fun t716 => (if t716 = true then (spec_l10Top.l1 k x1 x2 x7 x8 false (wrap64 (x10 + 1)) x705000) else (spec_l10Top.l1 k x1 x2 x7 x8 true (wrap64 (x10 + 1)) x705000))))) else (spec_l10Top.l1 k x1 x2 x7 x8 false (wrap64 (x10 + 1)) x705000)) else (none)) else (none)) else (none)) else (if x9 = true then (if 0 ≤ x8 then (if x8 < (x1.length : Int) then (if x7.length < 17592186044416 then (spec_l10Top.l0 k x1 x2 (x7 ++ [rd x1 x8]) (wrap64 (x8 + 1)) x705000) else (none)) else (none)) else (none)) else (spec_l10Top.l0 k x1 x2 x7 (wrap64 (x8 + 1)) x705000))
end
def spec_l10Top.f (k : Nat) (l0_0 : List Int) (l1 : List Int) (a2 : Bool) : Option (List Int) := (some (([] : List Int) : List Int)).bind fun y705 => ((spec_IsSemigroup.f k l0_0).bind fun t708 => (if t708 = true then ((spec_l10All.f k l1).bind fun t709 => (spec_l10Top.j0 k l1 a2 y705 (!t709) l0_0)) else (spec_l10Top.j0 k l1 a2 y705 true l0_0)))
set_option maxHeartbeats 8000000 in
set_option maxRecDepth 100000 in
theorem spec_l10Top.calls (k : Nat) (A0_0 : Option Addr) (c0_0 : Nat) (l0_0 : List Int) (A1 : Option Addr) (c1 : Nat) (l1 : List Int) (a2 : Bool) (r : List Int) (w : World) (hr0_0 : Kd.C (Kd.int .i64) w A0_0 l0_0.length l0_0) (hc0_0 : l0_0.length ≤ c0_0) (hr1 : Kd.C (Kd.int .i64) w A1 l1.length l1) (hc1 : l1.length ≤ c1) (h : spec_l10Top.f k l0_0 l1 a2 = some r) :
  Calls Tryz.prog 105 #[.agg #[.slice A0_0 l0_0.length c0_0], .slice A1 l1.length c1, .bool a2] w fun e w' => ∃ v0_ : Value, e = .returned (v0_) ∧ Kd.R (Kd.int .i64) 3 w' w.heap.size (fun _ => True) v0_ r ∧ Below w.heap.size w w' := by
 have hu26 := Tryz.underlying26
 have HR0_0 := am hr0_0
 have HC0_0 := am hc0_0
 clear hr0_0 hc0_0
 have HR1 := am hr1
 have HC1 := am hc1
 clear hr1 hc1
 have HB := am (Below.refl w.heap.size w)
 have H : ((some (([] : List Int) : List Int)).bind fun y705 => ((spec_IsSemigroup.f k l0_0).bind fun t708 => (if t708 = true then ((spec_l10All.f k l1).bind fun t709 => (spec_l10Top.j0 k l1 a2 y705 (!t709) l0_0)) else (spec_l10Top.j0 k l1 a2 y705 true l0_0)))) = some r := h
 clear h
 obtain ⟨y705, hy705⟩ : ∃ y_ : List Int, y_ = (([] : List Int)) := ⟨_, rfl⟩
 replace H : ((spec_IsSemigroup.f k l0_0).bind fun t708 => (if t708 = true then ((spec_l10All.f k l1).bind fun t709 => (spec_l10Top.j0 k l1 a2 y705 (!t709) l0_0)) else (spec_l10Top.j0 k l1 a2 y705 true l0_0))) = some r := by first | (rw [hy705]; with_reducible first | exact H | exact bs H) | (with_reducible first | exact bs H | exact H) | (rw [hy705]; exact H) | exact H
 have Ny705 := am hy705
 clear hy705
 have HC4 := am H
 clear H
 go_enter Tryz.func105, Tryz.ntmps105
 go_upto_region 2 with (first | ((with_reducible refine gate_dst (N := 3) rfl ?_); refine bx 3 #[.slice A0_0 l0_0.length c0_0] 26 ?_; intro gb704 hg w5 hbox hb; have BK704 := am (hbox); have GW704 := am (gs hg : w.heap.size ≤ gb704); have GE704 := GW704; replace HB := am (below_step bw hb); clear hb hbox hg) | ((with_reducible refine gate_dst (N := 13) rfl ?_); refine Kd.R_lit (Kd.int .i64) _ 3 ?hg (N := 13) ?hd (xs := ([] : List Int)) (inner := []) (ok := fun _ => True) (okp := fun _ => True) ?hr ?hp (fun _ hk => hk) trivial (Below.refl _ _) (Nat.le_refl _) (by simp) ?_; (case hd => rfl); (case hg => rfl); (case hr => first | (go_simp; done) | (go_simp; rfl)); (case hp => exact (Reps.none _ _)); intro v706 w6 ho7 hb hg_ hnew_; clear hg_ hnew_; (first | rw [← Ny705.out] at ho7 | (simp only [Int.reduceToNat] at ho7; rw [← Ny705.out] at ho7)); have HO707 := am (Kd.R_lower ho7 (below_size bw)); replace BK704 := kb BK704 hb; replace HB := am (below_step bw hb); clear hb ho7))
 (try simp only [Act.put, List.setIfInBounds_toArray, List.set_cons_zero, List.set_cons_succ])
 go_cut [21] (fun v21 wc => ∃ (kq : Nat) (x21_3 : Bool), v21 = .bool x21_3 ∧ Aside0 (spec_l10Top.j0 kq l1 a2 y705 x21_3 l0_0 = some r) ∧ Aside0 (kq ≤ k) ∧ Aside0 (Kd.R (Kd.int .i64) 3 wc w.heap.size (fun _ => True) v706 y705) ∧ Aside0 (wc.heap[gb704]? = some (.cells #[(.slice A0_0 l0_0.length c0_0)] 26 (0, 0))) ∧ Aside0 (Below w.heap.size w wc))
 case first =>
  have H := HC4.out
  clear HC4
  replace H := ga H; obtain ⟨t708, A8, H⟩ := H
  replace H := gb H; obtain ⟨rfl, H⟩ | ⟨rfl, H⟩ := H
  ·replace H := ga H; obtain ⟨t709, A10, H⟩ := H
   have H' := am H
   clear H
   have hcz11_0 := bc BK704 0 (.slice A0_0 l0_0.length c0_0)
   have hfz11_0 := blk_frozen BK704.out 0
   go_wp2_with (first | ((with_reducible refine gate_callee (f := 21) rfl ?_); refine goesL_ (some 15) rfl rfl Tryz.func21 (by kernel_rfl) rfl #[.agg #[.slice A0_0 l0_0.length c0_0]] rfl (by (try simp only [List.map_toArray, List.map_cons, List.map_nil]); first | done | rfl | (simp only [List.length_drop, List.length_take]; rfl)) ?_; (with_reducible refine (spec_IsSemigroup.calls k _ _ l0_0 true _ ?side1 ?side2 A8.out).mono ?_); (case side1 => exact co (Kd.C_below HR0_0.out HB.out)); (case side2 => exact HC0_0.out); rintro e w12 ⟨rfl, hb⟩; refine ⟨_, rfl, ?_⟩; replace HO707 := rK HO707 hb; replace BK704 := kb BK704 hb; replace HB := am (below_step bw hb); clear hb) | (go_at_call 129; (with_reducible refine (spec_l10All.calls k _ _ l1 t709 _ ?side1 ?side2 A10.out).mono ?_); (case side1 => exact co (Kd.C_below HR1.out HB.out)); (case side2 => exact HC1.out); rintro e w' ⟨rfl, ⟨nd, rfl⟩⟩))
   go_meet
   case rel => exact ⟨_, (!t709), rr, H', ⟨om⟩, ⟨ro HO707.out⟩, ⟨bo BK704.out⟩, ⟨bw⟩⟩
  have H' := am H
  clear H
  have hcz13_0 := bc BK704 0 (.slice A0_0 l0_0.length c0_0)
  have hfz13_0 := blk_frozen BK704.out 0
  go_wp2_with (first | ((with_reducible refine gate_callee (f := 21) rfl ?_); refine goesL_ (some 15) rfl rfl Tryz.func21 (by kernel_rfl) rfl #[.agg #[.slice A0_0 l0_0.length c0_0]] rfl (by (try simp only [List.map_toArray, List.map_cons, List.map_nil]); first | done | rfl | (simp only [List.length_drop, List.length_take]; rfl)) ?_; (with_reducible refine (spec_IsSemigroup.calls k _ _ l0_0 false _ ?side1 ?side2 A8.out).mono ?_); (case side1 => exact co (Kd.C_below HR0_0.out HB.out)); (case side2 => exact HC0_0.out); rintro e w14 ⟨rfl, hb⟩; refine ⟨_, rfl, ?_⟩; replace HO707 := rK HO707 hb; replace BK704 := kb BK704 hb; replace HB := am (below_step bw hb); clear hb))
  go_meet
  case rel => exact ⟨_, (true), rr, H', ⟨om⟩, ⟨ro HO707.out⟩, ⟨bo BK704.out⟩, ⟨bw⟩⟩
 case rest =>
  clear HC4
  try clear c1; try clear hcz11_0; try clear hcz13_0; try clear hfz11_0; try clear hfz13_0
  obtain ⟨kq, x21_3, rfl, HA, HJ3, HO_7, BK704, HB⟩ := hcut
  cases kq with
  | zero => exact absurd HA.out (by simp [spec_l10Top.j0])
  | succ kj3 =>
   have H := HA.out
   clear HA
   simp only [spec_l10Top.j0] at H
   replace H := gb H; obtain ⟨rfl, H⟩ | ⟨rfl, H⟩ := H
   ·obtain rfl := Option.some.inj H
    go_wp2
    go_ret
    exact ⟨_, re, ro HO_7.out, bw⟩
   have H' := am H
   clear H
   go_wp2
   go_loopg [7, 8] kj3 (fun kq v7 v8 w' => ∃ (x7_2 : List Int) (x8_2 : Int), v8 = .int .i64 x8_2 ∧ Aside0 (spec_l10Top.l0 kq l1 a2 x7_2 x8_2 l0_0 = some r) ∧ Aside0 (kq ≤ kj3) ∧ Aside0 (Kd.R (Kd.int .i64) 3 w' w.heap.size (fun _ => True) v7 x7_2) ∧ Aside0 (w'.heap[gb704]? = some (.cells #[(.slice A0_0 l0_0.length c0_0)] 26 (0, 0))) ∧ Aside0 (Below w.heap.size w w'))
   case atStart => exact ⟨(y705), (0), rr, H', ⟨Nat.le_refl _⟩, ⟨ro HO_7.out⟩, ⟨bo BK704.out⟩, ⟨bw⟩⟩
   case round =>
    clear H'
    try clear c1; try clear hcz11_0; try clear hcz13_0; try clear hfz11_0; try clear hfz13_0
    obtain ⟨x7_2, x8_2, rfl, HA, HK2, HO_7, BK704, HB⟩ := hrel
    cases gk with
    | zero => exact absurd HA.out (by simp [spec_l10Top.l0])
    | succ k2 =>
     have H := HA.out
     clear HA
     simp only [spec_l10Top.l0] at H
     replace H := gi H; obtain ⟨c16b0, H⟩ | ⟨c16b0, H⟩ := H
     ·have H' := am H
      clear H
      go_wp2
      go_loopg [9, 10] k2 (fun kq v9 v10 w' => ∃ (x9_3 : Bool) (x10_3 : Int), v9 = .bool x9_3 ∧ v10 = .int .i64 x10_3 ∧ Aside0 (spec_l10Top.l1 kq l1 a2 x7_2 x8_2 x9_3 x10_3 l0_0 = some r) ∧ Aside0 (kq ≤ k2) ∧ Aside0 (Kd.R (Kd.int .i64) 3 w' w.heap.size (fun _ => True) u7 x7_2) ∧ Aside0 (w'.heap[gb704]? = some (.cells #[(.slice A0_0 l0_0.length c0_0)] 26 (0, 0))) ∧ Aside0 (Below w.heap.size w w'))
      case atStart => exact ⟨(true), (0), rr, rr, H', ⟨Nat.le_refl _⟩, ⟨ro HO_7.out⟩, ⟨bo BK704.out⟩, ⟨bw⟩⟩
      case round =>
       clear H'
       try clear c1; try clear c16b0; try clear hcz11_0; try clear hcz13_0; try clear hfz11_0; try clear hfz13_0
       obtain ⟨x9_3, x10_3, rfl, rfl, HA, HK3, HO_7, BK704, HB⟩ := hrel
       cases gk with
       | zero => exact absurd HA.out (by simp [spec_l10Top.l1])
       | succ k3 =>
        have H := HA.out
        clear HA
        simp only [spec_l10Top.l1] at H
        replace H := gi H; obtain ⟨c17b0, H⟩ | ⟨c17b0, H⟩ := H
        ·replace H := gd H; obtain ⟨c18b0, H⟩ := H
         replace H := gd H; obtain ⟨c19b0, H⟩ := H
         replace H := gd H; obtain ⟨c20b0, H⟩ := H
         replace H := gb H; obtain ⟨rfl, H⟩ | ⟨rfl, H⟩ := H
         ·by_cases c22 : (rd l1 x8_2) = (rd l1 x10_3)
          ·rw [if_pos c22] at H
           have c22b0 : ((rd l1 x8_2) == (rd l1 x10_3)) = true := beq_iff_eq.mpr c22
           have c22b1 : ((rd l1 x8_2) != (rd l1 x10_3)) = false := bne_eq_false_iff_eq.mpr c22
           clear c22
           have H' := am H
           clear H
           obtain ⟨⟨ad713, e713, hx713_0⟩, p713, q713⟩ := pq (Kd.at_int HR1.out x8_2)
           cases e713
           replace hx713_0 := hw HB hx713_0
           obtain ⟨⟨ad714, e714, hx714_0⟩, p714, q714⟩ := pq (Kd.at_int HR1.out x10_3)
           obtain rfl : ad713 = ad714 := (by injection e714)
           replace hx714_0 := hw HB hx714_0
           go_wp2
           go_roundg k3
           case measure => have := HJ3.out; have := HK2.out; have := HK3.out; omega
           case rel => exact ⟨(true), (wrap64 (x10_3 + 1)), rr, rr, H', ⟨by have := HJ3.out; have := HK2.out; have := HK3.out; omega⟩, ⟨ro HO_7.out⟩, ⟨bo BK704.out⟩, ⟨bw⟩⟩
          rw [if_neg c22] at H
          have c22b0 : ((rd l1 x8_2) == (rd l1 x10_3)) = false := beq_eq_false_iff_ne.mpr c22
          have c22b1 : ((rd l1 x8_2) != (rd l1 x10_3)) = true := bne_iff_ne.mpr c22
          replace H := gb H; obtain ⟨rfl, H⟩ | ⟨rfl, H⟩ := H
          ·replace H := ga H; obtain ⟨t715, A24, H⟩ := H
           have H' := am H
           clear H
           obtain ⟨⟨ad713, e713, hx713_0⟩, p713, q713⟩ := pq (Kd.at_int HR1.out x8_2)
           cases e713
           replace hx713_0 := hw HB hx713_0
           obtain ⟨⟨ad714, e714, hx714_0⟩, p714, q714⟩ := pq (Kd.at_int HR1.out x10_3)
           obtain rfl : ad713 = ad714 := (by injection e714)
           replace hx714_0 := hw HB hx714_0
           have hcz25_0 := bc BK704 0 (.slice A0_0 l0_0.length c0_0)
           have hfz25_0 := blk_frozen BK704.out 0
           go_wp2_with (first | (go_at_call 70; (with_reducible refine (spec_l3Has.calls k3 _ _ l0_0 (wrap64 ((rd l1 x8_2) - (rd l1 x10_3))) t715 _ ?side1 ?side2 A24.out).mono ?_); (case side1 => exact co (Kd.C_below HR0_0.out HB.out)); (case side2 => exact HC0_0.out); rintro e w26 ⟨rfl, hb⟩; replace HO_7 := rK HO_7 hb; replace BK704 := kb BK704 hb; replace HB := am (below_step bw hb); clear hb))
           go_roundg k3
           case measure => have := HJ3.out; have := HK2.out; have := HK3.out; omega
           case rel => exact ⟨(!t715), (wrap64 (x10_3 + 1)), rr, rr, H', ⟨by have := HJ3.out; have := HK2.out; have := HK3.out; omega⟩, ⟨ro HO_7.out⟩, ⟨bo BK704.out⟩, ⟨bw⟩⟩
          replace H := ga H; obtain ⟨t716, A27, H⟩ := H
          replace H := gb H; obtain ⟨rfl, H⟩ | ⟨rfl, H⟩ := H
          ·have H' := am H
           clear H
           obtain ⟨⟨ad713, e713, hx713_0⟩, p713, q713⟩ := pq (Kd.at_int HR1.out x8_2)
           cases e713
           replace hx713_0 := hw HB hx713_0
           obtain ⟨⟨ad714, e714, hx714_0⟩, p714, q714⟩ := pq (Kd.at_int HR1.out x10_3)
           obtain rfl : ad713 = ad714 := (by injection e714)
           replace hx714_0 := hw HB hx714_0
           have hcz29_0 := bc BK704 0 (.slice A0_0 l0_0.length c0_0)
           have hfz29_0 := blk_frozen BK704.out 0
           go_wp2_with (first | (go_at_call 70; (with_reducible refine (spec_l3Has.calls k3 _ _ l0_0 (wrap64 ((rd l1 x10_3) - (rd l1 x8_2))) true _ ?side1 ?side2 A27.out).mono ?_); (case side1 => exact co (Kd.C_below HR0_0.out HB.out)); (case side2 => exact HC0_0.out); rintro e w30 ⟨rfl, hb⟩; replace HO_7 := rK HO_7 hb; replace BK704 := kb BK704 hb; replace HB := am (below_step bw hb); clear hb))
           go_roundg k3
           case measure => have := HJ3.out; have := HK2.out; have := HK3.out; omega
           case rel => exact ⟨(false), (wrap64 (x10_3 + 1)), rr, rr, H', ⟨by have := HJ3.out; have := HK2.out; have := HK3.out; omega⟩, ⟨ro HO_7.out⟩, ⟨bo BK704.out⟩, ⟨bw⟩⟩
          have H' := am H
          clear H
          obtain ⟨⟨ad713, e713, hx713_0⟩, p713, q713⟩ := pq (Kd.at_int HR1.out x8_2)
          cases e713
          replace hx713_0 := hw HB hx713_0
          obtain ⟨⟨ad714, e714, hx714_0⟩, p714, q714⟩ := pq (Kd.at_int HR1.out x10_3)
          obtain rfl : ad713 = ad714 := (by injection e714)
          replace hx714_0 := hw HB hx714_0
          have hcz31_0 := bc BK704 0 (.slice A0_0 l0_0.length c0_0)
          have hfz31_0 := blk_frozen BK704.out 0
          go_wp2_with (first | (go_at_call 70; (with_reducible refine (spec_l3Has.calls k3 _ _ l0_0 (wrap64 ((rd l1 x10_3) - (rd l1 x8_2))) false _ ?side1 ?side2 A27.out).mono ?_); (case side1 => exact co (Kd.C_below HR0_0.out HB.out)); (case side2 => exact HC0_0.out); rintro e w32 ⟨rfl, hb⟩; replace HO_7 := rK HO_7 hb; replace BK704 := kb BK704 hb; replace HB := am (below_step bw hb); clear hb))
          go_roundg k3
          case measure => have := HJ3.out; have := HK2.out; have := HK3.out; omega
          case rel => exact ⟨(true), (wrap64 (x10_3 + 1)), rr, rr, H', ⟨by have := HJ3.out; have := HK2.out; have := HK3.out; omega⟩, ⟨ro HO_7.out⟩, ⟨bo BK704.out⟩, ⟨bw⟩⟩
         have H' := am H
         clear H
         obtain ⟨⟨ad713, e713, hx713_0⟩, p713, q713⟩ := pq (Kd.at_int HR1.out x8_2)
         cases e713
         replace hx713_0 := hw HB hx713_0
         obtain ⟨⟨ad714, e714, hx714_0⟩, p714, q714⟩ := pq (Kd.at_int HR1.out x10_3)
         obtain rfl : ad713 = ad714 := (by injection e714)
         replace hx714_0 := hw HB hx714_0
         go_wp2
         go_roundg k3
         case measure => have := HJ3.out; have := HK2.out; have := HK3.out; omega
         case rel => exact ⟨(false), (wrap64 (x10_3 + 1)), rr, rr, H', ⟨by have := HJ3.out; have := HK2.out; have := HK3.out; omega⟩, ⟨ro HO_7.out⟩, ⟨bo BK704.out⟩, ⟨bw⟩⟩
        replace H := gb H; obtain ⟨rfl, H⟩ | ⟨rfl, H⟩ := H
        ·replace H := gd H; obtain ⟨c34b0, H⟩ := H
         replace H := gd H; obtain ⟨c35b0, H⟩ := H
         by_cases c36 : x7_2.length < 17592186044416
         rotate_left
         ·rw [if_neg c36] at H
          exact absurd H (by simp)
         rw [if_pos c36] at H
         have LMc36 := am c36
         clear c36
         obtain ⟨y718, hy718⟩ : ∃ y_ : List Int, y_ = (x7_2 ++ [rd l1 x8_2]) := ⟨_, rfl⟩
         replace H : (spec_l10Top.l0 k3 l1 a2 y718 (wrap64 (x8_2 + 1)) l0_0) = some r := by first | (rw [hy718]; with_reducible first | exact H | exact bs H) | (with_reducible first | exact bs H | exact H) | (rw [hy718]; exact H) | exact H
         have Ny718 := am hy718
         clear hy718
         have H' := am H
         clear H
         obtain ⟨⟨ad717, e717, hx717_0⟩, p717, q717⟩ := pq (Kd.at_int HR1.out x8_2)
         cases e717
         replace hx717_0 := hw HB hx717_0
         go_wp2_with (first | ((with_reducible refine gate_builtin (b := .append) (xs := #[.tmp 73, .tmp 78]) rfl ?_); at_builtin; refine Kd.R_append (Kd.int .i64) (w0 := w) w.heap.size rfl (.tmp 73) (.tmp 78) 24 3 (.int .i64 0) 8 rfl Tryz.underlying24 info3 rfl (by decide) (by omega) u7 x7_2 (rd l1 x8_2) [.int .i64 (rd l1 x8_2)] (fun _ => True) (fun _ => False) rfl rfl ?aP (fun _ hk => hk.elim) ?aF ?aO ?aB ?aS ?aL ?_; (case aP => exact rfl); (case aB => exact bw); (case aF => exact (fun _ _ => trivial)); (case aO => exact (ro HO_7.out)); (case aS => exact (below_size bw)); (case aL => have := LMc36.out; omega); intro v719 w37 ho hb hg hat; rw [← Ny718.out] at ho; replace BK704 := am (blk_grown (g := gb704) (o := .cells #[.slice A0_0 l0_0.length c0_0] 26 (0, 0)) (bo BK704.out) hg (Kd.R_ne HO_7.out BK704.out (by decide))); replace HB := am (hb); have HO720 := am (ho); clear HO_7 ho hb hg hat))
         go_roundg k3
         case measure => have := HJ3.out; have := HK2.out; have := HK3.out; omega
         case rel => exact ⟨(y718), (wrap64 (x8_2 + 1)), rr, H', ⟨by have := HJ3.out; have := HK2.out; have := HK3.out; omega⟩, ⟨ro HO720.out⟩, ⟨bo BK704.out⟩, ⟨bw⟩⟩
        have H' := am H
        clear H
        go_wp2
        go_roundg k3
        case measure => have := HJ3.out; have := HK2.out; have := HK3.out; omega
        case rel => exact ⟨(x7_2), (wrap64 (x8_2 + 1)), rr, H', ⟨by have := HJ3.out; have := HK2.out; have := HK3.out; omega⟩, ⟨ro HO_7.out⟩, ⟨bo BK704.out⟩, ⟨bw⟩⟩
     replace H := ga H; obtain ⟨t710, A38, H⟩ := H
     obtain rfl := Option.some.inj H
     obtain ⟨Ao39, co39, eo39⟩ := Kd.R_slice HO_7.out
     subst eo39
     go_wp2_with (first | ((with_reducible refine gate_callee (f := 59) rfl ?_); refine goesL_ (some 81) rfl rfl Tryz.func59 (by kernel_rfl) rfl #[.slice Ao39 x7_2.length co39] rfl (by (try simp only [List.map_toArray, List.map_cons, List.map_nil]); first | done | rfl | (simp only [List.length_drop, List.length_take]; rfl)) ?_; (with_reducible refine (spec_SortList.calls k2 _ _ x7_2 t710 _ ?side1 ?side2 A38.out).mono ?_); (case side1 => exact co (Kd.R_reads' HO_7.out).2.2); (case side2 => exact (Kd.R_reads' HO_7.out).2.1); rintro e w40 ⟨v711, rfl, ho0, hb⟩; refine ⟨_, rfl, ?_⟩; have HO712 := am (Kd.R_lower (Kd.R_new' ho0 (Kd.R_lt (ro HO_7.out))) (below_size bw)); replace HO_7 := am (Kd.R_elder' (ro HO_7.out) (Kd.R_base ho0) hb); replace BK704 := kb BK704 hb; replace HB := am (below_step bw hb); clear hb ho0))
     go_ret
     exact ⟨_, re, by (with_reducible repeat (first | apply Kd.R_alloc | apply Kd.R_drewN | apply Kd.R_drew)); exact Kd.R_mono HO712.out (fun _ hk => trivial), bw⟩


/-! ### spec_MinimalIn: function 56 -/
def spec_MinimalIn.f (k : Nat) (l0_0 : List Int) (l1 : List Int) : Option (List Int) := (spec_l10Top.f k l0_0 l1 true).bind fun t722 => (some t722)
set_option maxHeartbeats 8000000 in
set_option maxRecDepth 100000 in
theorem spec_MinimalIn.calls (k : Nat) (A0_0 : Option Addr) (c0_0 : Nat) (l0_0 : List Int) (A1 : Option Addr) (c1 : Nat) (l1 : List Int) (r : List Int) (w : World) (hr0_0 : Kd.C (Kd.int .i64) w A0_0 l0_0.length l0_0) (hc0_0 : l0_0.length ≤ c0_0) (hr1 : Kd.C (Kd.int .i64) w A1 l1.length l1) (hc1 : l1.length ≤ c1) (h : spec_MinimalIn.f k l0_0 l1 = some r) :
  Calls Tryz.prog 56 #[.agg #[.slice A0_0 l0_0.length c0_0], .slice A1 l1.length c1] w fun e w' => ∃ v0_ : Value, e = .returned (v0_) ∧ Kd.R (Kd.int .i64) 3 w' w.heap.size (fun _ => True) v0_ r ∧ Below w.heap.size w w' := by
 have hu26 := Tryz.underlying26
 have HR0_0 := am hr0_0
 have HC0_0 := am hc0_0
 clear hr0_0 hc0_0
 have HR1 := am hr1
 have HC1 := am hc1
 clear hr1 hc1
 have HB := am (Below.refl w.heap.size w)
 have H : ((spec_l10Top.f k l0_0 l1 true).bind fun t722 => (some t722)) = some r := h
 clear h
 replace H := ga H; obtain ⟨t722, A3, H⟩ := H
 obtain rfl := Option.some.inj H
 go_enter Tryz.func56, Tryz.ntmps56
 go_wp2_with (first | ((with_reducible refine gate_dst (N := 2) rfl ?_); refine bx 2 #[.slice A0_0 l0_0.length c0_0] 26 ?_; intro gb721 hg w4 hbox hb; have BK721 := am (hbox); have GW721 := am (gs hg : w.heap.size ≤ gb721); have GE721 := GW721; replace HB := am (below_step bw hb); clear hb hbox hg; have hcz5_0 := bc BK721 0 (.slice A0_0 l0_0.length c0_0); have hfz5_0 := blk_frozen BK721.out 0) | ((with_reducible refine gate_callee (f := 105) rfl ?_); refine goesL_ (some 7) rfl rfl Tryz.func105 (by kernel_rfl) rfl #[.agg #[.slice A0_0 l0_0.length c0_0], .slice A1 l1.length c1, .bool true] rfl (by (try simp only [List.map_toArray, List.map_cons, List.map_nil]); first | done | rfl | (simp only [List.length_drop, List.length_take]; rfl)) ?_; (with_reducible refine (spec_l10Top.calls k _ _ l0_0 _ _ l1 true t722 _ ?side1 ?side2 ?side3 ?side4 A3.out).mono ?_); (case side1 => exact co (Kd.C_below HR0_0.out HB.out)); (case side2 => exact HC0_0.out); (case side3 => exact co (Kd.C_below HR1.out HB.out)); (case side4 => exact HC1.out); rintro e w6 ⟨v723, rfl, ho0, hb⟩; refine ⟨_, rfl, ?_⟩; have HO724 := am (Kd.R_lower ho0 (below_size bw)); replace BK721 := kb BK721 hb; replace HB := am (below_step bw hb); clear hb ho0))
 go_ret
 exact ⟨_, re, ro HO724.out, bw⟩


/-! ### spec_IdealGens: function 16 -/
def spec_IdealGens.f (k : Nat) (l0_0 : List Int) (l1 : List Int) : Option (List Int) := (spec_l16Valid.f k l1).bind fun t726 => (if t726 = true then ((spec_MinimalIn.f k l0_0 l1).bind fun t727 => (some t727)) else (some (([] : List Int))))
set_option maxHeartbeats 8000000 in
set_option maxRecDepth 100000 in
theorem spec_IdealGens.calls (k : Nat) (A0_0 : Option Addr) (c0_0 : Nat) (l0_0 : List Int) (A1 : Option Addr) (c1 : Nat) (l1 : List Int) (r : List Int) (w : World) (hr0_0 : Kd.C (Kd.int .i64) w A0_0 l0_0.length l0_0) (hc0_0 : l0_0.length ≤ c0_0) (hr1 : Kd.C (Kd.int .i64) w A1 l1.length l1) (hc1 : l1.length ≤ c1) (h : spec_IdealGens.f k l0_0 l1 = some r) :
  Calls Tryz.prog 16 #[.agg #[.slice A0_0 l0_0.length c0_0], .slice A1 l1.length c1] w fun e w' => ∃ v0_ : Value, e = .returned (v0_) ∧ Kd.R (Kd.int .i64) 3 w' w.heap.size (fun _ => True) v0_ r ∧ Below w.heap.size w w' := by
 have hu26 := Tryz.underlying26
 have HR0_0 := am hr0_0
 have HC0_0 := am hc0_0
 clear hr0_0 hc0_0
 have HR1 := am hr1
 have HC1 := am hc1
 clear hr1 hc1
 have HB := am (Below.refl w.heap.size w)
 have H : ((spec_l16Valid.f k l1).bind fun t726 => (if t726 = true then ((spec_MinimalIn.f k l0_0 l1).bind fun t727 => (some t727)) else (some (([] : List Int))))) = some r := h
 clear h
 replace H := ga H; obtain ⟨t726, A3, H⟩ := H
 replace H := gb H; obtain ⟨rfl, H⟩ | ⟨rfl, H⟩ := H
 ·replace H := ga H; obtain ⟨t727, A5, H⟩ := H
  obtain rfl := Option.some.inj H
  go_enter Tryz.func16, Tryz.ntmps16
  go_wp2_with (first | ((with_reducible refine gate_dst (N := 2) rfl ?_); refine bx 2 #[.slice A0_0 l0_0.length c0_0] 26 ?_; intro gb725 hg w6 hbox hb; have BK725 := am (hbox); have GW725 := am (gs hg : w.heap.size ≤ gb725); have GE725 := GW725; replace HB := am (below_step bw hb); clear hb hbox hg) | ((with_reducible refine gate_callee (f := 53) rfl ?_); refine goesL_ (some 6) rfl rfl Tryz.func53 (by kernel_rfl) rfl #[.slice A1 l1.length c1] rfl (by (try simp only [List.map_toArray, List.map_cons, List.map_nil]); first | done | rfl | (simp only [List.length_drop, List.length_take]; rfl)) ?_; (with_reducible refine (spec_l16Valid.calls k _ _ l1 true _ ?side1 ?side2 A3.out).mono ?_); (case side1 => exact co (Kd.C_below HR1.out HB.out)); (case side2 => exact HC1.out); rintro e w' ⟨rfl, ⟨nd, rfl⟩⟩; refine ⟨_, rfl, ?_⟩; have hcz7_0 := bc BK725 0 (.slice A0_0 l0_0.length c0_0); have hfz7_0 := blk_frozen BK725.out 0) | ((with_reducible refine gate_callee (f := 56) rfl ?_); refine goesL_ (some 11) rfl rfl Tryz.func56 (by kernel_rfl) rfl #[.agg #[.slice A0_0 l0_0.length c0_0], .slice A1 l1.length c1] rfl (by (try simp only [List.map_toArray, List.map_cons, List.map_nil]); first | done | rfl | (simp only [List.length_drop, List.length_take]; rfl)) ?_; (with_reducible refine (spec_MinimalIn.calls k _ _ l0_0 _ _ l1 t727 _ ?side1 ?side2 ?side3 ?side4 A5.out).mono ?_); (case side1 => exact co (Kd.C_below HR0_0.out bw)); (case side2 => exact HC0_0.out); (case side3 => exact co (Kd.C_below HR1.out bw)); (case side4 => exact HC1.out); rintro e w8 ⟨v728, rfl, ho0, hb⟩; refine ⟨_, rfl, ?_⟩; have HO729 := am (Kd.R_lower ho0 (below_size bw)); replace BK725 := kb BK725 hb; replace HB := am (below_step bw hb); clear hb ho0))
  go_ret
  exact ⟨_, re, ro HO729.out, bw⟩
 obtain ⟨y730, hy730⟩ : ∃ y_ : List Int, y_ = (([] : List Int)) := ⟨_, rfl⟩
 replace H : (some y730) = some r := by first | (rw [hy730]; with_reducible first | exact H | exact bs H) | (with_reducible first | exact bs H | exact H) | (rw [hy730]; exact H) | exact H
 have Ny730 := am hy730
 clear hy730
 obtain rfl := Option.some.inj H
 go_enter Tryz.func16, Tryz.ntmps16
 go_wp2_with (first | ((with_reducible refine gate_dst (N := 2) rfl ?_); refine bx 2 #[.slice A0_0 l0_0.length c0_0] 26 ?_; intro gb725 hg w9 hbox hb; have BK725 := am (hbox); have GW725 := am (gs hg : w.heap.size ≤ gb725); have GE725 := GW725; replace HB := am (below_step bw hb); clear hb hbox hg) | ((with_reducible refine gate_callee (f := 53) rfl ?_); refine goesL_ (some 6) rfl rfl Tryz.func53 (by kernel_rfl) rfl #[.slice A1 l1.length c1] rfl (by (try simp only [List.map_toArray, List.map_cons, List.map_nil]); first | done | rfl | (simp only [List.length_drop, List.length_take]; rfl)) ?_; (with_reducible refine (spec_l16Valid.calls k _ _ l1 false _ ?side1 ?side2 A3.out).mono ?_); (case side1 => exact co (Kd.C_below HR1.out HB.out)); (case side2 => exact HC1.out); rintro e w' ⟨rfl, ⟨nd, rfl⟩⟩; refine ⟨_, rfl, ?_⟩) | ((with_reducible refine gate_dst (N := 8) rfl ?_); refine Kd.R_lit (Kd.int .i64) _ 3 ?hg (N := 8) ?hd (xs := ([] : List Int)) (inner := []) (ok := fun _ => True) (okp := fun _ => True) ?hr ?hp (fun _ hk => hk) trivial (Below.refl _ _) (Nat.le_refl _) (by simp) ?_; (case hd => rfl); (case hg => rfl); (case hr => first | (go_simp; done) | (go_simp; rfl)); (case hp => exact (Reps.none _ _)); intro v731 w10 ho11 hb hg_ hnew_; clear hg_ hnew_; (first | rw [← Ny730.out] at ho11 | (simp only [Int.reduceToNat] at ho11; rw [← Ny730.out] at ho11)); have HO732 := am (Kd.R_lower ho11 (below_size bw)); replace BK725 := kb BK725 hb; replace HB := am (below_step bw hb); clear hb ho11))
 go_ret
 exact ⟨_, re, ro HO732.out, bw⟩


/-! ### impl_SumsOf: function 57 -/
mutual
def impl_SumsOf.j0 : Nat → List Int → List Int → Bool → Option (List Int)
 | 0, _, _, _ => none
 | k + 1, x0, x1, x27 => if x27 = true then (some ([] : List Int)) else (impl_SumsOf.l0 k x1 (([] : List Int)) x0 (x0.length : Int) 0)
def impl_SumsOf.l0 : Nat → List Int → List Int → List Int → Int → Int → Option (List Int)
 | 0, _, _, _, _, _ => none
 | k + 1, x1, x5, x29, x30, x31 => if x31 < x30 then (if 0 ≤ x31 then (if x31 < (x29.length : Int) then (impl_SumsOf.l1 k x1 x5 (rd x29 x31) x29 x30 x31 x1 (x1.length : Int) 0) else (none)) else (none)) else ((impl_SortList.f x5).bind fun t738 => (some t738))
def impl_SumsOf.l1 : Nat → List Int → List Int → Int → List Int → Int → Int → List Int → Int → Int → Option (List Int)
 | 0, _, _, _, _, _, _, _, _, _ => none
 | k + 1, x1, x5, x7, x29, x30, x31, x35, x36, x37 => if x37 < x36 then (if 0 ≤ x37 then (if x37 < (x35.length : Int) then (if x5.length < 17592186044416 then (impl_SumsOf.l1 k x1 (x5 ++ [wrap64 (x7 + (rd x35 x37))]) x7 x29 x30 x31 x35 x36 (wrap64 (x37 + 1))) else (none)) else (none)) else (none)) else (impl_SumsOf.l0 k x1 x5 x29 x30 (wrap64 (x31 + 1)))
end
def impl_SumsOf.f (k : Nat) (l0 : List Int) (l1 : List Int) : Option (List Int) := (impl_allWithin.f k l0 (-1000000) 1000000).bind fun t733 => (if t733 = true then ((impl_allWithin.f k l1 (-1000000) 1000000).bind fun t734 => (if t734 = true then (if (l0.length : Int) > 300 then (impl_SumsOf.j0 k l0 l1 true) else (impl_SumsOf.j0 k l0 l1 (decide ((l1.length : Int) > 300)))) else (impl_SumsOf.j0 k l0 l1 true))) else (impl_SumsOf.j0 k l0 l1 true))
set_option maxHeartbeats 8000000 in
set_option maxRecDepth 100000 in
theorem impl_SumsOf.calls (k : Nat) (A0 : Option Addr) (c0 : Nat) (l0 : List Int) (A1 : Option Addr) (c1 : Nat) (l1 : List Int) (r : List Int) (w : World) (hr0 : Kd.C (Kd.int .i64) w A0 l0.length l0) (hc0 : l0.length ≤ c0) (hr1 : Kd.C (Kd.int .i64) w A1 l1.length l1) (hc1 : l1.length ≤ c1) (h : impl_SumsOf.f k l0 l1 = some r) :
  Calls Tryz.prog 57 #[.slice A0 l0.length c0, .slice A1 l1.length c1] w fun e w' => ∃ v0_ : Value, e = .returned (v0_) ∧ Kd.R (Kd.int .i64) 3 w' w.heap.size (fun _ => True) v0_ r ∧ Below w.heap.size w w' := by
 have HR0 := am hr0
 have HC0 := am hc0
 clear hr0 hc0
 have HR1 := am hr1
 have HC1 := am hc1
 clear hr1 hc1
 have HB := am (Below.refl w.heap.size w)
 have H : ((impl_allWithin.f k l0 (-1000000) 1000000).bind fun t733 => (if t733 = true then ((impl_allWithin.f k l1 (-1000000) 1000000).bind fun t734 => (if t734 = true then (if (l0.length : Int) > 300 then (impl_SumsOf.j0 k l0 l1 true) else (impl_SumsOf.j0 k l0 l1 (decide ((l1.length : Int) > 300)))) else (impl_SumsOf.j0 k l0 l1 true))) else (impl_SumsOf.j0 k l0 l1 true))) = some r := h
 clear h
 have HC3 := am H
 clear H
 go_enter Tryz.func57, Tryz.ntmps57
 go_upto_region 1 with (fail)
 go_cut [27] (fun v27 wc => ∃ (kq : Nat) (x27_2 : Bool), v27 = .bool x27_2 ∧ Aside0 (impl_SumsOf.j0 kq l0 l1 x27_2 = some r) ∧ Aside0 (kq ≤ k) ∧ Aside0 (Below w.heap.size w wc))
 case first =>
  have H := HC3.out
  clear HC3
  replace H := ga H; obtain ⟨t733, A4, H⟩ := H
  replace H := gb H; obtain ⟨rfl, H⟩ | ⟨rfl, H⟩ := H
  ·replace H := ga H; obtain ⟨t734, A6, H⟩ := H
   replace H := gb H; obtain ⟨rfl, H⟩ | ⟨rfl, H⟩ := H
   ·replace H := gj H; obtain ⟨c8, H⟩ | ⟨c8, H⟩ := H
    ·have c8b0 : decide (300 < (l0.length : Int)) = true := decide_eq_true c8
     have c8b1 : decide (300 < l0.length) = true := decide_eq_true (by omega)
     clear c8
     (first | rw [c8b0] | (simp only [i64_w, i32_w]; rw [c8b0]) | skip)
     have H' := am H
     clear H
     go_wp2_with (first | ((with_reducible refine gate_callee (f := 92) rfl ?_); refine goesL_ (some 11) rfl rfl Tryz.func92 (by kernel_rfl) rfl #[.slice A0 l0.length c0, .int .i64 (-1000000), .int .i64 1000000] rfl (by (try simp only [List.map_toArray, List.map_cons, List.map_nil]); first | done | rfl | (simp only [List.length_drop, List.length_take]; rfl)) ?_; (with_reducible refine (impl_allWithin.calls k _ _ l0 (-1000000) 1000000 true _ ?side1 ?side2 A4.out).mono ?_); (case side1 => exact co (Kd.C_below HR0.out HB.out)); (case side2 => exact HC0.out); rintro e w' ⟨rfl, ⟨nd, rfl⟩⟩; refine ⟨_, rfl, ?_⟩) | (go_at_call 92; (with_reducible refine (impl_allWithin.calls k _ _ l1 (-1000000) 1000000 true _ ?side1 ?side2 A6.out).mono ?_); (case side1 => exact co (Kd.C_below HR1.out bw)); (case side2 => exact HC1.out); rintro e w' ⟨rfl, ⟨nd, rfl⟩⟩))
     go_meet
     case rel => exact ⟨_, (true), rr, H', ⟨om⟩, ⟨bw⟩⟩
    have c8b0 : decide (300 < (l0.length : Int)) = false := decide_eq_false c8
    have c8b1 : decide (300 < l0.length) = false := decide_eq_false (by omega)
    clear c8
    (first | rw [c8b0] | (simp only [i64_w, i32_w]; rw [c8b0]) | skip)
    have H' := am H
    clear H
    go_wp2_with (first | ((with_reducible refine gate_callee (f := 92) rfl ?_); refine goesL_ (some 11) rfl rfl Tryz.func92 (by kernel_rfl) rfl #[.slice A0 l0.length c0, .int .i64 (-1000000), .int .i64 1000000] rfl (by (try simp only [List.map_toArray, List.map_cons, List.map_nil]); first | done | rfl | (simp only [List.length_drop, List.length_take]; rfl)) ?_; (with_reducible refine (impl_allWithin.calls k _ _ l0 (-1000000) 1000000 true _ ?side1 ?side2 A4.out).mono ?_); (case side1 => exact co (Kd.C_below HR0.out HB.out)); (case side2 => exact HC0.out); rintro e w' ⟨rfl, ⟨nd, rfl⟩⟩; refine ⟨_, rfl, ?_⟩) | (go_at_call 92; (with_reducible refine (impl_allWithin.calls k _ _ l1 (-1000000) 1000000 true _ ?side1 ?side2 A6.out).mono ?_); (case side1 => exact co (Kd.C_below HR1.out bw)); (case side2 => exact HC1.out); rintro e w' ⟨rfl, ⟨nd, rfl⟩⟩))
    go_meet
    case rel => exact ⟨_, (decide ((l1.length : Int) > 300)), rr, H', ⟨om⟩, ⟨bw⟩⟩
   have H' := am H
   clear H
   go_wp2_with (first | ((with_reducible refine gate_callee (f := 92) rfl ?_); refine goesL_ (some 11) rfl rfl Tryz.func92 (by kernel_rfl) rfl #[.slice A0 l0.length c0, .int .i64 (-1000000), .int .i64 1000000] rfl (by (try simp only [List.map_toArray, List.map_cons, List.map_nil]); first | done | rfl | (simp only [List.length_drop, List.length_take]; rfl)) ?_; (with_reducible refine (impl_allWithin.calls k _ _ l0 (-1000000) 1000000 true _ ?side1 ?side2 A4.out).mono ?_); (case side1 => exact co (Kd.C_below HR0.out HB.out)); (case side2 => exact HC0.out); rintro e w' ⟨rfl, ⟨nd, rfl⟩⟩; refine ⟨_, rfl, ?_⟩) | (go_at_call 92; (with_reducible refine (impl_allWithin.calls k _ _ l1 (-1000000) 1000000 false _ ?side1 ?side2 A6.out).mono ?_); (case side1 => exact co (Kd.C_below HR1.out bw)); (case side2 => exact HC1.out); rintro e w' ⟨rfl, ⟨nd, rfl⟩⟩))
   go_meet
   case rel => exact ⟨_, (true), rr, H', ⟨om⟩, ⟨bw⟩⟩
  have H' := am H
  clear H
  go_wp2_with (first | ((with_reducible refine gate_callee (f := 92) rfl ?_); refine goesL_ (some 11) rfl rfl Tryz.func92 (by kernel_rfl) rfl #[.slice A0 l0.length c0, .int .i64 (-1000000), .int .i64 1000000] rfl (by (try simp only [List.map_toArray, List.map_cons, List.map_nil]); first | done | rfl | (simp only [List.length_drop, List.length_take]; rfl)) ?_; (with_reducible refine (impl_allWithin.calls k _ _ l0 (-1000000) 1000000 false _ ?side1 ?side2 A4.out).mono ?_); (case side1 => exact co (Kd.C_below HR0.out HB.out)); (case side2 => exact HC0.out); rintro e w' ⟨rfl, ⟨nd, rfl⟩⟩; refine ⟨_, rfl, ?_⟩))
  go_meet
  case rel => exact ⟨_, (true), rr, H', ⟨om⟩, ⟨bw⟩⟩
 case rest =>
  clear HC3
  try clear c1; try clear c8; try clear c8b0; try clear c8b1
  obtain ⟨kq, x27_2, rfl, HA, HJ2, HB⟩ := hcut
  cases kq with
  | zero => exact absurd HA.out (by simp [impl_SumsOf.j0])
  | succ kj2 =>
   have H := HA.out
   clear HA
   simp only [impl_SumsOf.j0] at H
   replace H := gb H; obtain ⟨rfl, H⟩ | ⟨rfl, H⟩ := H
   ·obtain rfl := Option.some.inj H
    go_wp2
    go_ret
    exact ⟨_, re, by first | exact Kd.R_nil _ _ _ _ _ | exact Kd.N_nil _ _ _ _ _ | exact Kd.V_nil _ _ _ _ _ | exact Kd.Q_nil _ _ _ _ _ | exact Kd.S_nil _ _ _ _ _, bw⟩
   obtain ⟨y735, hy735⟩ : ∃ y_ : List Int, y_ = (([] : List Int)) := ⟨_, rfl⟩
   replace H : (impl_SumsOf.l0 kj2 l1 y735 l0 (l0.length : Int) 0) = some r := by first | (rw [hy735]; with_reducible first | exact H | exact bs H) | (with_reducible first | exact bs H | exact H) | (rw [hy735]; exact H) | exact H
   have Ny735 := am hy735
   clear hy735
   have H' := am H
   clear H
   go_wp2_with (first | ((with_reducible refine gate_dst (N := 28) rfl ?_); (try (refine gate_guard (by rfl) ?_; dsimp only)); refine Kd.R_lit (Kd.int .i64) _ 3 ?hg (N := 28) ?hd (xs := ([] : List Int)) (inner := []) (ok := fun _ => True) (okp := fun _ => True) ?hr ?hp (fun _ hk => hk) trivial (Below.refl _ _) (Nat.le_refl _) (by simp) ?_; (case hd => rfl); (case hg => rfl); (case hr => first | (go_simp; done) | (go_simp; rfl)); (case hp => exact (Reps.none _ _)); intro v736 w10 ho11 hb hg_ hnew_; clear hg_ hnew_; (first | rw [← Ny735.out] at ho11 | (simp only [Int.reduceToNat] at ho11; rw [← Ny735.out] at ho11)); have HO737 := am (Kd.R_lower ho11 (below_size bw)); replace HB := am (below_step bw hb); clear hb ho11))
   go_loopg [5, 31] kj2 (fun kq v5 v31 w' => ∃ (x5_2 : List Int) (x31_2 : Int), v31 = .int .i64 x31_2 ∧ Aside0 (impl_SumsOf.l0 kq l1 x5_2 l0 (l0.length : Int) x31_2 = some r) ∧ Aside0 (kq ≤ kj2) ∧ Aside0 (Kd.R (Kd.int .i64) 3 w' w.heap.size (fun _ => True) v5 x5_2) ∧ Aside0 (Below w.heap.size w w'))
   case atStart => exact ⟨(y735), (0), rr, H', ⟨Nat.le_refl _⟩, ⟨ro HO737.out⟩, ⟨bw⟩⟩
   case round =>
    clear H'
    try clear c1; try clear c8; try clear c8b0; try clear c8b1
    obtain ⟨x5_2, x31_2, rfl, HA, HK2, HO_5, HB⟩ := hrel
    cases gk with
    | zero => exact absurd HA.out (by simp [impl_SumsOf.l0])
    | succ k2 =>
     have H := HA.out
     clear HA
     simp only [impl_SumsOf.l0] at H
     replace H := gi H; obtain ⟨c12b0, H⟩ | ⟨c12b0, H⟩ := H
     ·replace H := gd H; obtain ⟨c13b0, H⟩ := H
      replace H := gd H; obtain ⟨c14b0, H⟩ := H
      have H' := am H
      clear H
      obtain ⟨⟨ad741, e741, hx741_0⟩, p741, q741⟩ := pq (Kd.at_int HR0.out x31_2)
      cases e741
      replace hx741_0 := hw HB hx741_0
      go_wp2
      go_loopg [5, 37] k2 (fun kq v5 v37 w' => ∃ (x5_3 : List Int) (x37_3 : Int), v37 = .int .i64 x37_3 ∧ Aside0 (impl_SumsOf.l1 kq l1 x5_3 (rd l0 x31_2) l0 (l0.length : Int) x31_2 l1 (l1.length : Int) x37_3 = some r) ∧ Aside0 (kq ≤ k2) ∧ Aside0 (Kd.R (Kd.int .i64) 3 w' w.heap.size (fun _ => True) v5 x5_3) ∧ Aside0 (Below w.heap.size w w'))
      case atStart => exact ⟨(x5_2), (0), rr, H', ⟨Nat.le_refl _⟩, ⟨ro HO_5.out⟩, ⟨bw⟩⟩
      case round =>
       clear H'
       try clear c1; try clear c8; try clear c8b0; try clear c8b1; try clear c12b0; try clear c13b0; try clear c14b0; try clear hx741_0; try clear p741; try clear q741
       obtain ⟨x5_3, x37_3, rfl, HA, HK3, HO_5, HB⟩ := hrel
       cases gk with
       | zero => exact absurd HA.out (by simp [impl_SumsOf.l1])
       | succ k3 =>
        have H := HA.out
        clear HA
        simp only [impl_SumsOf.l1] at H
        replace H := gi H; obtain ⟨c15b0, H⟩ | ⟨c15b0, H⟩ := H
        ·replace H := gd H; obtain ⟨c16b0, H⟩ := H
         replace H := gd H; obtain ⟨c17b0, H⟩ := H
         by_cases c18 : x5_3.length < 17592186044416
         rotate_left
         ·rw [if_neg c18] at H
          exact absurd H (by simp)
         rw [if_pos c18] at H
         have LMc18 := am c18
         clear c18
         obtain ⟨y743, hy743⟩ : ∃ y_ : List Int, y_ = (x5_3 ++ [wrap64 ((rd l0 x31_2) + (rd l1 x37_3))]) := ⟨_, rfl⟩
         replace H : (impl_SumsOf.l1 k3 l1 y743 (rd l0 x31_2) l0 (l0.length : Int) x31_2 l1 (l1.length : Int) (wrap64 (x37_3 + 1))) = some r := by first | (rw [hy743]; with_reducible first | exact H | exact bs H) | (with_reducible first | exact bs H | exact H) | (rw [hy743]; exact H) | exact H
         have Ny743 := am hy743
         clear hy743
         have H' := am H
         clear H
         obtain ⟨⟨ad742, e742, hx742_0⟩, p742, q742⟩ := pq (Kd.at_int HR1.out x37_3)
         cases e742
         replace hx742_0 := hw HB hx742_0
         go_wp2_with (first | ((with_reducible refine gate_builtin (b := .append) (xs := #[.tmp 41, .tmp 45]) rfl ?_); (try (refine gate_guard (by rfl) ?_; dsimp only)); at_builtin; refine Kd.R_append (Kd.int .i64) (w0 := w) w.heap.size rfl (.tmp 41) (.tmp 45) 24 3 (.int .i64 0) 8 rfl Tryz.underlying24 info3 rfl (by decide) (by omega) u5 x5_3 (wrap64 ((rd l0 x31_2) + (rd l1 x37_3))) [.int .i64 (wrap64 ((rd l0 x31_2) + (rd l1 x37_3)))] (fun _ => True) (fun _ => False) rfl rfl ?aP (fun _ hk => hk.elim) ?aF ?aO ?aB ?aS ?aL ?_; (case aP => exact rfl); (case aB => exact bw); (case aF => exact (fun _ _ => trivial)); (case aO => exact (ro HO_5.out)); (case aS => exact (below_size bw)); (case aL => have := LMc18.out; omega); intro v744 w19 ho hb hg hat; rw [← Ny743.out] at ho; replace HB := am (hb); have HO745 := am (ho); clear HO_5 ho hb hg hat))
         go_roundg k3
         case measure => have := HJ2.out; have := HK2.out; have := HK3.out; omega
         case rel => exact ⟨(y743), (wrap64 (x37_3 + 1)), rr, H', ⟨by have := HJ2.out; have := HK2.out; have := HK3.out; omega⟩, ⟨ro HO745.out⟩, ⟨bw⟩⟩
        have H' := am H
        clear H
        go_wp2
        go_roundg k3
        case measure => have := HJ2.out; have := HK2.out; have := HK3.out; omega
        case rel => exact ⟨(x5_3), (wrap64 (x31_2 + 1)), rr, H', ⟨by have := HJ2.out; have := HK2.out; have := HK3.out; omega⟩, ⟨ro HO_5.out⟩, ⟨bw⟩⟩
     replace H := ga H; obtain ⟨t738, A20, H⟩ := H
     obtain rfl := Option.some.inj H
     obtain ⟨Ao21, co21, eo21⟩ := Kd.R_slice HO_5.out
     subst eo21
     go_wp2_with (first | ((with_reducible refine gate_callee (f := 48) rfl ?_); refine goesL_ (some 50) rfl rfl Tryz.func48 (by kernel_rfl) rfl #[.slice Ao21 x5_2.length co21] rfl (by (try simp only [List.map_toArray, List.map_cons, List.map_nil]); first | done | rfl | (simp only [List.length_drop, List.length_take]; rfl)) ?_; (with_reducible refine (impl_SortList.calls _ _ x5_2 t738 _ ?side1 ?side2 A20.out).mono ?_); (case side1 => exact co (Kd.R_reads' HO_5.out).2.2); (case side2 => exact (Kd.R_reads' HO_5.out).2.1); rintro e w22 ⟨v739, rfl, ho0, hb⟩; refine ⟨_, rfl, ?_⟩; have HO740 := am (Kd.R_lower (Kd.R_new' ho0 (Kd.R_lt (ro HO_5.out))) (below_size bw)); replace HO_5 := am (Kd.R_elder' (ro HO_5.out) (Kd.R_base ho0) hb); replace HB := am (below_step bw hb); clear hb ho0))
     go_ret
     exact ⟨_, re, by (with_reducible repeat (first | apply Kd.R_alloc | apply Kd.R_drewN | apply Kd.R_drew)); exact Kd.R_mono HO740.out (fun _ hk => trivial), bw⟩


/-! ### impl_IdealSum: function 17 -/
def impl_IdealSum.j0 : Nat → List Int → List Int → Bool → List Int → Option (List Int)
 | 0, _, _, _, _ => none
 | k + 1, x1, x2, x19, x747000 => if x19 = true then (some ([] : List Int)) else ((impl_SumsOf.f k x1 x2).bind fun t750 => ((impl_MinimalIn.f k x747000 t750).bind fun t753 => (some t753)))
def impl_IdealSum.f (k : Nat) (l0_0 : List Int) (l1 : List Int) (l2 : List Int) : Option (List Int) := (impl_IsSemigroup.f k l0_0).bind fun t747 => (if t747 = true then ((impl_idealList.f k l1).bind fun t748 => (if t748 = true then ((impl_idealList.f k l2).bind fun t749 => (impl_IdealSum.j0 k l1 l2 (!t749) l0_0)) else (impl_IdealSum.j0 k l1 l2 true l0_0))) else (impl_IdealSum.j0 k l1 l2 true l0_0))
set_option maxHeartbeats 8000000 in
set_option maxRecDepth 100000 in
theorem impl_IdealSum.calls (k : Nat) (A0_0 : Option Addr) (c0_0 : Nat) (l0_0 : List Int) (A1 : Option Addr) (c1 : Nat) (l1 : List Int) (A2 : Option Addr) (c2 : Nat) (l2 : List Int) (r : List Int) (w : World) (hr0_0 : Kd.C (Kd.int .i64) w A0_0 l0_0.length l0_0) (hc0_0 : l0_0.length ≤ c0_0) (hr1 : Kd.C (Kd.int .i64) w A1 l1.length l1) (hc1 : l1.length ≤ c1) (hr2 : Kd.C (Kd.int .i64) w A2 l2.length l2) (hc2 : l2.length ≤ c2) (h : impl_IdealSum.f k l0_0 l1 l2 = some r) :
  Calls Tryz.prog 17 #[.agg #[.slice A0_0 l0_0.length c0_0], .slice A1 l1.length c1, .slice A2 l2.length c2] w fun e w' => ∃ v0_ : Value, e = .returned (v0_) ∧ Kd.R (Kd.int .i64) 3 w' w.heap.size (fun _ => True) v0_ r ∧ Below w.heap.size w w' := by
 have hu26 := Tryz.underlying26
 have HR0_0 := am hr0_0
 have HC0_0 := am hc0_0
 clear hr0_0 hc0_0
 have HR1 := am hr1
 have HC1 := am hc1
 clear hr1 hc1
 have HR2 := am hr2
 have HC2 := am hc2
 clear hr2 hc2
 have HB := am (Below.refl w.heap.size w)
 have H : ((impl_IsSemigroup.f k l0_0).bind fun t747 => (if t747 = true then ((impl_idealList.f k l1).bind fun t748 => (if t748 = true then ((impl_idealList.f k l2).bind fun t749 => (impl_IdealSum.j0 k l1 l2 (!t749) l0_0)) else (impl_IdealSum.j0 k l1 l2 true l0_0))) else (impl_IdealSum.j0 k l1 l2 true l0_0))) = some r := h
 clear h
 have HC4 := am H
 clear H
 go_enter Tryz.func17, Tryz.ntmps17
 go_upto_region 1 with (first | ((with_reducible refine gate_dst (N := 3) rfl ?_); refine bx 3 #[.slice A0_0 l0_0.length c0_0] 26 ?_; intro gb746 hg w5 hbox hb; have BK746 := am (hbox); have GW746 := am (gs hg : w.heap.size ≤ gb746); have GE746 := GW746; replace HB := am (below_step bw hb); clear hb hbox hg))
 (try simp only [Act.put, List.setIfInBounds_toArray, List.set_cons_zero, List.set_cons_succ])
 go_cut [19] (fun v19 wc => ∃ (kq : Nat) (x19_3 : Bool), v19 = .bool x19_3 ∧ Aside0 (impl_IdealSum.j0 kq l1 l2 x19_3 l0_0 = some r) ∧ Aside0 (kq ≤ k) ∧ Aside0 (wc.heap[gb746]? = some (.cells #[(.slice A0_0 l0_0.length c0_0)] 26 (0, 0))) ∧ Aside0 (Below w.heap.size w wc))
 case first =>
  have H := HC4.out
  clear HC4
  replace H := ga H; obtain ⟨t747, A6, H⟩ := H
  replace H := gb H; obtain ⟨rfl, H⟩ | ⟨rfl, H⟩ := H
  ·replace H := ga H; obtain ⟨t748, A8, H⟩ := H
   replace H := gb H; obtain ⟨rfl, H⟩ | ⟨rfl, H⟩ := H
   ·replace H := ga H; obtain ⟨t749, A10, H⟩ := H
    have H' := am H
    clear H
    have hcz11_0 := bc BK746 0 (.slice A0_0 l0_0.length c0_0)
    have hfz11_0 := blk_frozen BK746.out 0
    go_wp2_with (first | ((with_reducible refine gate_callee (f := 43) rfl ?_); refine goesL_ (some 8) rfl rfl Tryz.func43 (by kernel_rfl) rfl #[.agg #[.slice A0_0 l0_0.length c0_0]] rfl (by (try simp only [List.map_toArray, List.map_cons, List.map_nil]); first | done | rfl | (simp only [List.length_drop, List.length_take]; rfl)) ?_; (with_reducible refine (impl_IsSemigroup.calls k _ _ l0_0 true _ ?side1 ?side2 A6.out).mono ?_); (case side1 => exact co (Kd.C_below HR0_0.out HB.out)); (case side2 => exact HC0_0.out); rintro e w12 ⟨rfl, hb⟩; refine ⟨_, rfl, ?_⟩; replace BK746 := kb BK746 hb; replace HB := am (below_step bw hb); clear hb) | (go_at_call 44; (with_reducible refine (impl_idealList.calls k _ _ l1 true _ ?side1 ?side2 A8.out).mono ?_); (case side1 => exact co (Kd.C_below HR1.out HB.out)); (case side2 => exact HC1.out); rintro e w' ⟨rfl, ⟨nd, rfl⟩⟩) | (go_at_call 44; (with_reducible refine (impl_idealList.calls k _ _ l2 t749 _ ?side1 ?side2 A10.out).mono ?_); (case side1 => exact co (Kd.C_below HR2.out bw)); (case side2 => exact HC2.out); rintro e w' ⟨rfl, ⟨nd, rfl⟩⟩))
    go_meet
    case rel => exact ⟨_, (!t749), rr, H', ⟨om⟩, ⟨bo BK746.out⟩, ⟨bw⟩⟩
   have H' := am H
   clear H
   have hcz13_0 := bc BK746 0 (.slice A0_0 l0_0.length c0_0)
   have hfz13_0 := blk_frozen BK746.out 0
   go_wp2_with (first | ((with_reducible refine gate_callee (f := 43) rfl ?_); refine goesL_ (some 8) rfl rfl Tryz.func43 (by kernel_rfl) rfl #[.agg #[.slice A0_0 l0_0.length c0_0]] rfl (by (try simp only [List.map_toArray, List.map_cons, List.map_nil]); first | done | rfl | (simp only [List.length_drop, List.length_take]; rfl)) ?_; (with_reducible refine (impl_IsSemigroup.calls k _ _ l0_0 true _ ?side1 ?side2 A6.out).mono ?_); (case side1 => exact co (Kd.C_below HR0_0.out HB.out)); (case side2 => exact HC0_0.out); rintro e w14 ⟨rfl, hb⟩; refine ⟨_, rfl, ?_⟩; replace BK746 := kb BK746 hb; replace HB := am (below_step bw hb); clear hb) | (go_at_call 44; (with_reducible refine (impl_idealList.calls k _ _ l1 false _ ?side1 ?side2 A8.out).mono ?_); (case side1 => exact co (Kd.C_below HR1.out HB.out)); (case side2 => exact HC1.out); rintro e w' ⟨rfl, ⟨nd, rfl⟩⟩))
   go_meet
   case rel => exact ⟨_, (true), rr, H', ⟨om⟩, ⟨bo BK746.out⟩, ⟨bw⟩⟩
  have H' := am H
  clear H
  have hcz15_0 := bc BK746 0 (.slice A0_0 l0_0.length c0_0)
  have hfz15_0 := blk_frozen BK746.out 0
  go_wp2_with (first | ((with_reducible refine gate_callee (f := 43) rfl ?_); refine goesL_ (some 8) rfl rfl Tryz.func43 (by kernel_rfl) rfl #[.agg #[.slice A0_0 l0_0.length c0_0]] rfl (by (try simp only [List.map_toArray, List.map_cons, List.map_nil]); first | done | rfl | (simp only [List.length_drop, List.length_take]; rfl)) ?_; (with_reducible refine (impl_IsSemigroup.calls k _ _ l0_0 false _ ?side1 ?side2 A6.out).mono ?_); (case side1 => exact co (Kd.C_below HR0_0.out HB.out)); (case side2 => exact HC0_0.out); rintro e w16 ⟨rfl, hb⟩; refine ⟨_, rfl, ?_⟩; replace BK746 := kb BK746 hb; replace HB := am (below_step bw hb); clear hb))
  go_meet
  case rel => exact ⟨_, (true), rr, H', ⟨om⟩, ⟨bo BK746.out⟩, ⟨bw⟩⟩
 case rest =>
  clear HC4
  try clear c1; try clear c2; try clear hcz11_0; try clear hcz13_0; try clear hcz15_0; try clear hfz11_0; try clear hfz13_0; try clear hfz15_0
  obtain ⟨kq, x19_3, rfl, HA, HJ3, BK746, HB⟩ := hcut
  cases kq with
  | zero => exact absurd HA.out (by simp [impl_IdealSum.j0])
  | succ kj3 =>
   have H := HA.out
   clear HA
   simp only [impl_IdealSum.j0] at H
   replace H := gb H; obtain ⟨rfl, H⟩ | ⟨rfl, H⟩ := H
   ·obtain rfl := Option.some.inj H
    go_wp2
    go_ret
    exact ⟨_, re, by first | exact Kd.R_nil _ _ _ _ _ | exact Kd.N_nil _ _ _ _ _ | exact Kd.V_nil _ _ _ _ _ | exact Kd.Q_nil _ _ _ _ _ | exact Kd.S_nil _ _ _ _ _, bw⟩
   replace H := ga H; obtain ⟨t750, A18, H⟩ := H
   replace H := ga H; obtain ⟨t753, A19, H⟩ := H
   obtain rfl := Option.some.inj H
   try go_wp2
   replace BK746 := bd BK746
   replace HB := am (below_drew1 HB.out)
   refine start_ (n := 6) (S := fun w' => w'.cell? ⟨gb746, 0, none⟩ = some (.slice A0_0 l0_0.length c0_0)) (ds := []) (yz 6 0) (by kernel_rfl) rfl rfl (bc BK746 0 _) (fun hHeld => ?_)
   generalize wc.drew = w20 at BK746 HB hHeld ⊢
   refine pure_ (i := 1) (N := some 21) (v := ?_) (a' := ?_) (yz 6 2) rfl rfl (by kernel_rfl) (fun _ _ _ h => h) (Or.inl ⟨by rfl, ?_⟩) ?_ ?_
   rotate_left
   ·intro w'
    go_simp
    with_reducible rfl
   rotate_left
   ·simp only [Act.put, qa, qb, qc, i64_w, i32_w]
    rfl
   refine pure_ (i := 2) (N := some 22) (v := ?_) (a' := ?_) (yz 6 6) rfl rfl (by kernel_rfl) (fun _ _ _ h => h) (Or.inl ⟨by rfl, ?_⟩) ?_ ?_
   rotate_left
   ·intro w'
    go_simp
    with_reducible rfl
   rotate_left
   ·simp only [Act.put, qa, qb, qc, i64_w, i32_w]
    rfl
   refine tQ 0 (some 20) (yz 6 7) hHeld ?_
   refine one_ (i := 3) (N := some 23) (yz 6 15) rfl rfl (by kernel_rfl) (by decide) (fun K hK => ?_)
   refine goes_ Tryz.func57 (by kernel_rfl) rfl #[.slice A1 l1.length c1, .slice A2 l2.length c2] (by rfl) rfl rfl (by (try simp only [List.map_toArray, List.map_cons, List.map_nil]); first | done | rfl | (simp only [List.length_drop, List.length_take]; rfl)) ?_
   with_reducible refine (impl_SumsOf.calls kj3 _ _ l1 _ _ l2 t750 _ ?side1 ?side2 ?side3 ?side4 A18.out).mono ?_
   (case side1 => exact co (Kd.C_below HR1.out HB.out))
   (case side2 => exact HC1.out)
   (case side3 => exact co (Kd.C_below HR2.out HB.out))
   (case side4 => exact HC2.out)
   rintro e w21 ⟨v751, rfl, ho0, hb⟩
   refine ⟨_, rfl, ?_⟩
   have HO752 := am (Kd.R_lower ho0 (below_size bw))
   replace BK746 := kb BK746 hb
   replace HB := am (below_step bw hb)
   clear hb ho0
   obtain ⟨Ao22, co22, eo22⟩ := Kd.R_slice HO752.out
   (first | subst eo22 | (injection eo22 with f1_ f2_ f3_; have f4_ := f1_.symm; have f5_ := f3_.symm; clear f1_ f2_ f3_; subst f4_; subst f5_))
   refine hK.out _ _ (bc BK746 0 _) (fun hHeld => ?_)
   clear hK K
   refine nm (some 23) ?_
   refine one_ (i := 4) (N := some 24) (yz 6 31) rfl rfl (by kernel_rfl) (by decide) (fun K hK => ?_)
   refine goes_ Tryz.func47 (by kernel_rfl) rfl #[.agg #[.slice A0_0 l0_0.length c0_0], .slice Ao22 t750.length co22] (by rfl) rfl rfl (by (try simp only [List.map_toArray, List.map_cons, List.map_nil]); first | done | rfl | (simp only [List.length_drop, List.length_take]; rfl)) ?_
   with_reducible refine (impl_MinimalIn.calls kj3 _ _ l0_0 _ _ t750 t753 _ ?side1 ?side2 ?side3 ?side4 A19.out).mono ?_
   (case side1 => exact co (Kd.C_below HR0_0.out HB.out))
   (case side2 => exact HC0_0.out)
   (case side3 => exact co (Kd.R_reads' HO752.out).2.2)
   (case side4 => exact (Kd.R_reads' HO752.out).2.1)
   rintro e w23 ⟨v754, rfl, ho0, hb⟩
   refine ⟨_, rfl, ?_⟩
   have HO755 := am (Kd.R_lower (Kd.R_new' ho0 (Kd.R_lt (ro HO752.out))) (below_size bw))
   replace HO752 := am (Kd.R_elder' (ro HO752.out) (Kd.R_base ho0) hb)
   replace BK746 := kb BK746 hb
   replace HB := am (below_step bw hb)
   clear hb ho0
   refine hK.out _ _ (bc BK746 0 _) (fun hHeld => ?_)
   clear hK K
   refine nm (some 24) ?_
   refine pure_ (i := 5) (N := some 6) (v := ?_) (a' := ?_) (yz 6 63) rfl rfl (by kernel_rfl) (fun _ _ _ h => h) (Or.inl ⟨by rfl, ?_⟩) ?_ ?_
   rotate_left
   ·intro w'
    go_simp
    with_reducible rfl
   rotate_left
   ·simp only [Act.put, qa, qb, qc, i64_w, i32_w]
    rfl
   refine done_ (by kernel_rfl) ?_
   try go_wp2
   go_ret
   exact ⟨_, re, by (with_reducible repeat (first | apply Kd.R_alloc | apply Kd.R_drewN | apply Kd.R_drew)); exact Kd.R_mono HO755.out (fun _ hk => trivial), bw⟩


/-! ### spec_l2All: function 106 -/
def spec_l2All.l0 : Nat → List Int → Int → Option (Bool)
 | 0, _, _ => none
 | k + 1, x0, x3 => if x3 < (x0.length : Int) then (if 0 ≤ x3 then ((spec_l2Small.f (rd x0 x3)).bind fun t757 => (if t757 = true then (spec_l2All.l0 k x0 (wrap64 (x3 + 1))) else (some false))) else (none)) else (some (decide ((x0.length : Int) ≤ 300)))
def spec_l2All.f (k : Nat) (l0 : List Int) : Option (Bool) := spec_l2All.l0 k l0 0
set_option maxHeartbeats 8000000 in
set_option maxRecDepth 100000 in
theorem spec_l2All.calls (k : Nat) (A0 : Option Addr) (c0 : Nat) (l0 : List Int) (r : Bool) (w : World) (hr0 : Kd.C (Kd.int .i64) w A0 l0.length l0) (hc0 : l0.length ≤ c0) (h : spec_l2All.f k l0 = some r) :
  Calls Tryz.prog 106 #[.slice A0 l0.length c0] w fun e w' => e = .returned (.bool r) ∧ Drawn0 w w' := by
 have HR0 := am hr0
 have HC0 := am hc0
 clear hr0 hc0
 have H : (spec_l2All.l0 k l0 0) = some r := h
 clear h
 have H' := am H
 clear H
 go_enter Tryz.func106, Tryz.ntmps106
 go_wp2
 go_loopg [3] k (fun kq v3 w' => ∃ (x3_1 : Int), v3 = .int .i64 x3_1 ∧ Aside0 (spec_l2All.l0 kq l0 x3_1 = some r) ∧ Aside0 (kq ≤ k) ∧ Drawn0 w w')
 case atStart => exact ⟨(0), rr, H', ⟨Nat.le_refl _⟩, dw⟩
 case round =>
  clear H'
  obtain ⟨x3_1, rfl, HA, HK1, ⟨m1, rfl⟩⟩ := hrel
  cases gk with
  | zero => exact absurd HA.out (by simp [spec_l2All.l0])
  | succ k1 =>
   have H := HA.out
   clear HA
   simp only [spec_l2All.l0] at H
   replace H := gi H; obtain ⟨c2b0, H⟩ | ⟨c2b0, H⟩ := H
   ·replace H := gd H; obtain ⟨c3b0, H⟩ := H
    replace H := ga H; obtain ⟨t757, A4, H⟩ := H
    replace H := gb H; obtain ⟨rfl, H⟩ | ⟨rfl, H⟩ := H
    ·have H' := am H
     clear H
     obtain ⟨⟨ad756, e756, hx756_0⟩, p756, q756⟩ := pq (Kd.at_int HR0.out x3_1)
     cases e756
     go_wp2_with (first | ((with_reducible refine gate_callee (f := 54) rfl ?_); refine goesL_ (some 14) rfl rfl Tryz.func54 (by kernel_rfl) rfl #[.int .i64 (rd l0 x3_1)] rfl (by (try simp only [List.map_toArray, List.map_cons, List.map_nil]); first | done | rfl | (simp only [List.length_drop, List.length_take]; rfl)) ?_; (with_reducible refine (spec_l2Small.calls (rd l0 x3_1) true _ A4.out).mono ?_); rintro e w' ⟨rfl, ⟨nd, rfl⟩⟩; refine ⟨_, rfl, ?_⟩))
     go_roundg k1
     case measure => have := HK1.out; omega
     case rel => exact ⟨(wrap64 (x3_1 + 1)), rr, H', ⟨by have := HK1.out; omega⟩, dw⟩
    obtain rfl := Option.some.inj H
    obtain ⟨⟨ad756, e756, hx756_0⟩, p756, q756⟩ := pq (Kd.at_int HR0.out x3_1)
    cases e756
    go_wp2_with (first | ((with_reducible refine gate_callee (f := 54) rfl ?_); refine goesL_ (some 14) rfl rfl Tryz.func54 (by kernel_rfl) rfl #[.int .i64 (rd l0 x3_1)] rfl (by (try simp only [List.map_toArray, List.map_cons, List.map_nil]); first | done | rfl | (simp only [List.length_drop, List.length_take]; rfl)) ?_; (with_reducible refine (spec_l2Small.calls (rd l0 x3_1) false _ A4.out).mono ?_); rintro e w' ⟨rfl, ⟨nd, rfl⟩⟩; refine ⟨_, rfl, ?_⟩))
    go_ret
    exact ⟨rr, dw⟩
   obtain rfl := Option.some.inj H
   go_wp2
   go_ret
   exact ⟨rr, dw⟩


/-! ### spec_SumsOf: function 58 -/
mutual
def spec_SumsOf.j0 : Nat → List Int → List Int → List Int → Bool → Option (List Int)
 | 0, _, _, _, _ => none
 | k + 1, x0, x1, x5, x16 => if x16 = true then (some x5) else (spec_SumsOf.l0 k x0 x1 x5 0)
def spec_SumsOf.l0 : Nat → List Int → List Int → List Int → Int → Option (List Int)
 | 0, _, _, _, _ => none
 | k + 1, x0, x1, x5, x6 => if x6 < (x0.length : Int) then (spec_SumsOf.l1 k x0 x1 x5 x6 0) else ((spec_SortList.f k x5).bind fun t763 => (some t763))
def spec_SumsOf.l1 : Nat → List Int → List Int → List Int → Int → Int → Option (List Int)
 | 0, _, _, _, _, _ => none
 | k + 1, x0, x1, x5, x6, x7 => if x7 < (x1.length : Int) then (if 0 ≤ x6 then (if x6 < (x0.length : Int) then (if 0 ≤ x7 then (if x5.length < 17592186044416 then (spec_SumsOf.l1 k x0 x1 (x5 ++ [wrap64 ((rd x0 x6) + (rd x1 x7))]) x6 (wrap64 (x7 + 1))) else (none)) else (none)) else (none)) else (none)) else (spec_SumsOf.l0 k x0 x1 x5 (wrap64 (x6 + 1)))
end
def spec_SumsOf.f (k : Nat) (l0 : List Int) (l1 : List Int) : Option (List Int) := (some (([] : List Int) : List Int)).bind fun y758 => ((spec_l2All.f k l0).bind fun t761 => (if t761 = true then ((spec_l2All.f k l1).bind fun t762 => (spec_SumsOf.j0 k l0 l1 y758 (!t762))) else (spec_SumsOf.j0 k l0 l1 y758 true)))
def spec_SumsOf.T10 : Bool × List (List Nat × List Nat) := (true, [([], []), ([], []), ([], []), ([1, 2], [1, 2]), ([3], [3]), ([], []), ([], []), ([5, 6], [5, 6]), ([7], [7]), ([4, 8], [4, 8]), ([9], [9]), ([0, 10], [0, 10]), ([11, 11, 0, 1, 2, 3, 4, 5, 6, 7, 8, 9, 10, 11], [0, 11])])
def spec_SumsOf.B10 : List Nat := [0, 0, 0, 6, 14, 0, 0, 96, 224, 510, 1022, 2047, 4095]
theorem spec_SumsOf.tab10 : rtab .any (opsOf Tryz.f58 10) = spec_SumsOf.T10 := by kernel_rfl
theorem spec_SumsOf.bits10 : waitsOk spec_SumsOf.T10.2 spec_SumsOf.B10 = true := by kernel_rfl
set_option maxHeartbeats 8000000 in
set_option maxRecDepth 100000 in
theorem spec_SumsOf.calls (k : Nat) (A0 : Option Addr) (c0 : Nat) (l0 : List Int) (A1 : Option Addr) (c1 : Nat) (l1 : List Int) (r : List Int) (w : World) (hr0 : Kd.C (Kd.int .i64) w A0 l0.length l0) (hc0 : l0.length ≤ c0) (hr1 : Kd.C (Kd.int .i64) w A1 l1.length l1) (hc1 : l1.length ≤ c1) (h : spec_SumsOf.f k l0 l1 = some r) :
  Calls Tryz.prog 58 #[.slice A0 l0.length c0, .slice A1 l1.length c1] w fun e w' => ∃ v0_ : Value, e = .returned (v0_) ∧ Kd.R (Kd.int .i64) 3 w' w.heap.size (fun _ => True) v0_ r ∧ Below w.heap.size w w' := by
 have HR0 := am hr0
 have HC0 := am hc0
 clear hr0 hc0
 have HR1 := am hr1
 have HC1 := am hc1
 clear hr1 hc1
 have HB := am (Below.refl w.heap.size w)
 have H : ((some (([] : List Int) : List Int)).bind fun y758 => ((spec_l2All.f k l0).bind fun t761 => (if t761 = true then ((spec_l2All.f k l1).bind fun t762 => (spec_SumsOf.j0 k l0 l1 y758 (!t762))) else (spec_SumsOf.j0 k l0 l1 y758 true)))) = some r := h
 clear h
 obtain ⟨y758, hy758⟩ : ∃ y_ : List Int, y_ = (([] : List Int)) := ⟨_, rfl⟩
 replace H : ((spec_l2All.f k l0).bind fun t761 => (if t761 = true then ((spec_l2All.f k l1).bind fun t762 => (spec_SumsOf.j0 k l0 l1 y758 (!t762))) else (spec_SumsOf.j0 k l0 l1 y758 true))) = some r := by first | (rw [hy758]; with_reducible first | exact H | exact bs H) | (with_reducible first | exact bs H | exact H) | (rw [hy758]; exact H) | exact H
 have Ny758 := am hy758
 clear hy758
 have HC3 := am H
 clear H
 go_enter Tryz.func58, Tryz.ntmps58
 go_upto_region 2 with (first | ((with_reducible refine gate_dst (N := 8) rfl ?_); refine Kd.R_lit (Kd.int .i64) _ 3 ?hg (N := 8) ?hd (xs := ([] : List Int)) (inner := []) (ok := fun _ => True) (okp := fun _ => True) ?hr ?hp (fun _ hk => hk) trivial (Below.refl _ _) (Nat.le_refl _) (by simp) ?_; (case hd => rfl); (case hg => rfl); (case hr => first | (go_simp; done) | (go_simp; rfl)); (case hp => exact (Reps.none _ _)); intro v759 w4 ho5 hb hg_ hnew_; clear hg_ hnew_; (first | rw [← Ny758.out] at ho5 | (simp only [Int.reduceToNat] at ho5; rw [← Ny758.out] at ho5)); have HO760 := am (Kd.R_lower ho5 (below_size bw)); replace HB := am (below_step bw hb); clear hb ho5))
 (try simp only [Act.put, List.setIfInBounds_toArray, List.set_cons_zero, List.set_cons_succ])
 go_cut [16] (fun v16 wc => ∃ (kq : Nat) (x16_2 : Bool), v16 = .bool x16_2 ∧ Aside0 (spec_SumsOf.j0 kq l0 l1 y758 x16_2 = some r) ∧ Aside0 (kq ≤ k) ∧ Aside0 (Kd.R (Kd.int .i64) 3 wc w.heap.size (fun _ => True) v759 y758) ∧ Aside0 (Below w.heap.size w wc))
 case first =>
  have H := HC3.out
  clear HC3
  replace H := ga H; obtain ⟨t761, A6, H⟩ := H
  replace H := gb H; obtain ⟨rfl, H⟩ | ⟨rfl, H⟩ := H
  ·replace H := ga H; obtain ⟨t762, A8, H⟩ := H
   have H' := am H
   clear H
   go_wp2_with (first | ((with_reducible refine gate_callee (f := 106) rfl ?_); refine goesL_ (some 10) rfl rfl Tryz.func106 (by kernel_rfl) rfl #[.slice A0 l0.length c0] rfl (by (try simp only [List.map_toArray, List.map_cons, List.map_nil]); first | done | rfl | (simp only [List.length_drop, List.length_take]; rfl)) ?_; (with_reducible refine (spec_l2All.calls k _ _ l0 true _ ?side1 ?side2 A6.out).mono ?_); (case side1 => exact co (Kd.C_below HR0.out HB.out)); (case side2 => exact HC0.out); rintro e w' ⟨rfl, ⟨nd, rfl⟩⟩; refine ⟨_, rfl, ?_⟩) | (go_at_call 106; (with_reducible refine (spec_l2All.calls k _ _ l1 t762 _ ?side1 ?side2 A8.out).mono ?_); (case side1 => exact co (Kd.C_below HR1.out bw)); (case side2 => exact HC1.out); rintro e w' ⟨rfl, ⟨nd, rfl⟩⟩))
   go_meet
   case rel => exact ⟨_, (!t762), rr, H', ⟨om⟩, ⟨ro HO760.out⟩, ⟨bw⟩⟩
  have H' := am H
  clear H
  go_wp2_with (first | ((with_reducible refine gate_callee (f := 106) rfl ?_); refine goesL_ (some 10) rfl rfl Tryz.func106 (by kernel_rfl) rfl #[.slice A0 l0.length c0] rfl (by (try simp only [List.map_toArray, List.map_cons, List.map_nil]); first | done | rfl | (simp only [List.length_drop, List.length_take]; rfl)) ?_; (with_reducible refine (spec_l2All.calls k _ _ l0 false _ ?side1 ?side2 A6.out).mono ?_); (case side1 => exact co (Kd.C_below HR0.out HB.out)); (case side2 => exact HC0.out); rintro e w' ⟨rfl, ⟨nd, rfl⟩⟩; refine ⟨_, rfl, ?_⟩))
  go_meet
  case rel => exact ⟨_, (true), rr, H', ⟨om⟩, ⟨ro HO760.out⟩, ⟨bw⟩⟩
 case rest =>
  clear HC3
  try clear c1
  obtain ⟨kq, x16_2, rfl, HA, HJ2, HO_5, HB⟩ := hcut
  cases kq with
  | zero => exact absurd HA.out (by simp [spec_SumsOf.j0])
  | succ kj2 =>
   have H := HA.out
   clear HA
   simp only [spec_SumsOf.j0] at H
   replace H := gb H; obtain ⟨rfl, H⟩ | ⟨rfl, H⟩ := H
   ·obtain rfl := Option.some.inj H
    go_wp2
    go_ret
    exact ⟨_, re, ro HO_5.out, bw⟩
   have H' := am H
   clear H
   go_wp2
   go_loopg [5, 6] kj2 (fun kq v5 v6 w' => ∃ (x5_2 : List Int) (x6_2 : Int), v6 = .int .i64 x6_2 ∧ Aside0 (spec_SumsOf.l0 kq l0 l1 x5_2 x6_2 = some r) ∧ Aside0 (kq ≤ kj2) ∧ Aside0 (Kd.R (Kd.int .i64) 3 w' w.heap.size (fun _ => True) v5 x5_2) ∧ Aside0 (Below w.heap.size w w'))
   case atStart => exact ⟨(y758), (0), rr, H', ⟨Nat.le_refl _⟩, ⟨ro HO_5.out⟩, ⟨bw⟩⟩
   case round =>
    clear H'
    try clear c1
    obtain ⟨x5_2, x6_2, rfl, HA, HK2, HO_5, HB⟩ := hrel
    cases gk with
    | zero => exact absurd HA.out (by simp [spec_SumsOf.l0])
    | succ k2 =>
     have H := HA.out
     clear HA
     simp only [spec_SumsOf.l0] at H
     replace H := gi H; obtain ⟨c10b0, H⟩ | ⟨c10b0, H⟩ := H
     ·have H' := am H
      clear H
      go_wp2
      go_loopg [5, 7] k2 (fun kq v5 v7 w' => ∃ (x5_3 : List Int) (x7_3 : Int), v7 = .int .i64 x7_3 ∧ Aside0 (spec_SumsOf.l1 kq l0 l1 x5_3 x6_2 x7_3 = some r) ∧ Aside0 (kq ≤ k2) ∧ Aside0 (Kd.R (Kd.int .i64) 3 w' w.heap.size (fun _ => True) v5 x5_3) ∧ Aside0 (Below w.heap.size w w'))
      case atStart => exact ⟨(x5_2), (0), rr, H', ⟨Nat.le_refl _⟩, ⟨ro HO_5.out⟩, ⟨bw⟩⟩
      case round =>
       clear H'
       try clear c1; try clear c10b0
       obtain ⟨x5_3, x7_3, rfl, HA, HK3, HO_5, HB⟩ := hrel
       cases gk with
       | zero => exact absurd HA.out (by simp [spec_SumsOf.l1])
       | succ k3 =>
        have H := HA.out
        clear HA
        simp only [spec_SumsOf.l1] at H
        replace H := gi H; obtain ⟨c11b0, H⟩ | ⟨c11b0, H⟩ := H
        ·replace H := gd H; obtain ⟨c12b0, H⟩ := H
         replace H := gd H; obtain ⟨c13b0, H⟩ := H
         replace H := gd H; obtain ⟨c14b0, H⟩ := H
         by_cases c15 : x5_3.length < 17592186044416
         rotate_left
         ·rw [if_neg c15] at H
          exact absurd H (by simp)
         rw [if_pos c15] at H
         have LMc15 := am c15
         clear c15
         obtain ⟨y768, hy768⟩ : ∃ y_ : List Int, y_ = (x5_3 ++ [wrap64 ((rd l0 x6_2) + (rd l1 x7_3))]) := ⟨_, rfl⟩
         replace H : (spec_SumsOf.l1 k3 l0 l1 y768 x6_2 (wrap64 (x7_3 + 1))) = some r := by first | (rw [hy768]; with_reducible first | exact H | exact bs H) | (with_reducible first | exact bs H | exact H) | (rw [hy768]; exact H) | exact H
         have Ny768 := am hy768
         clear hy768
         have H' := am H
         clear H
         try go_wp2
         replace HO_5 := am (Kd.R_drew HO_5.out)
         replace HB := am (below_drew1 HB.out)
         obtain ⟨⟨ad766, e766, hx766_0⟩, p766, q766⟩ := pq (Kd.at_int HR0.out x6_2)
         have hw766_0 := hx766_0
         cases e766
         replace hx766_0 := hw HB hx766_0
         obtain ⟨⟨ad767, e767, hx767_0⟩, p767, q767⟩ := pq (Kd.at_int HR1.out x7_3)
         have hw767_0 := hx767_0
         cases e767
         replace hx767_0 := hw HB hx767_0
         refine start_ (n := 13) (S := fun w' => w'.cell? (ad766.add (x6_2).toNat) = some (.int .i64 (rd l0 x6_2)) ∧ w'.cell? (ad767.add (x7_3).toNat) = some (.int .i64 (rd l1 x7_3))) (ds := []) (yz 13 0) (by kernel_rfl) rfl rfl ⟨((HB.out.cell (World.block_lt_of_cell? w _ hw766_0)).trans hw766_0), ((HB.out.cell (World.block_lt_of_cell? w _ hw767_0)).trans hw767_0)⟩ (fun hHeld => ?_); refine with_tabW spec_SumsOf.tab10 spec_SumsOf.bits10 (fun HT_ HW_ => ?_)
         generalize wr.drew = w16 at HO_5 HB hx766_0 hx767_0 hHeld ⊢
         refine pa 0 (some 30) (yz 13 1) HT_ ?_
         refine pa 1 (some 31) (yz 13 3) HT_ ?_
         refine pa 2 (some 32) (yz 13 7) HT_ ?_
         refine pa 3 (some 33) (yz 13 15) HT_ ?_
         refine pa 5 (some 35) (yz 13 47) HT_ ?_
         refine pa 6 (some 36) (yz 13 111) HT_ ?_
         refine pa 7 (some 37) (yz 13 239) HT_ ?_
         refine tk 4 (some 34) (yz 13 255) HT_ HW_ hHeld ?_
         refine tk 8 (some 38) (yz 13 511) HT_ HW_ hHeld ?_
         refine pa 9 (some 39) (yz 13 1023) HT_ ?_
         refine oa 10 (some 40) (yz 13 2047) HT_ (fun K hK => ?_)
         refine value_ (w1 := ?_) (v := ?_) (by rfl) rfl ?_ ?_
         rotate_left 2
         ·go_simp
          constructor
          ·rfl
          rfl
         refine hK.out _ _ ⟨(World.cell?_alloc_lt _ _ _ (World.block_lt_of_cell? _ _ (((HB.out.cell (World.block_lt_of_cell? w _ hw766_0)).trans hw766_0)))).trans (((HB.out.cell (World.block_lt_of_cell? w _ hw766_0)).trans hw766_0)), (World.cell?_alloc_lt _ _ _ (World.block_lt_of_cell? _ _ (((HB.out.cell (World.block_lt_of_cell? w _ hw767_0)).trans hw767_0)))).trans (((HB.out.cell (World.block_lt_of_cell? w _ hw767_0)).trans hw767_0))⟩ (fun hHeld => ?_)
         clear hK K
         refine nm (some 40) ?_
         refine oa 11 (some 41) (yz 13 4095) HT_ (fun K hK => ?_)
         refine Kd.R_append_step (Kd.int .i64) (w0 := w) w.heap.size (by rfl) (.tmp 30) (.tmp 40) 24 3 (.int .i64 0) 8 rfl Tryz.underlying24 info3 rfl (by decide) (by omega) u5 x5_3 (wrap64 ((rd l0 x6_2) + (rd l1 x7_3))) [.int .i64 (wrap64 ((rd l0 x6_2) + (rd l1 x7_3)))] (fun _ => True) (fun _ => False) rfl rfl ?aP (fun _ hk => hk.elim) ?aF ?aO ?aB ?aS ?aL ?_
         (case aP => exact rfl)
         (case aB => exact bw)
         (case aF => exact (fun _ _ => trivial))
         (case aO => exact (ro HO_5.out))
         (case aS => exact (below_size bw))
         (case aL => have := LMc15.out; omega)
         intro v769 w17 ho hb hg hat
         rw [← Ny768.out] at ho
         replace HB := am (hb)
         have HO770 := am (ho)
         clear HO_5 ho hb hg hat
         refine hK.out _ _ ⟨((HB.out.cell (World.block_lt_of_cell? w _ hw766_0)).trans hw766_0), ((HB.out.cell (World.block_lt_of_cell? w _ hw767_0)).trans hw767_0)⟩ (fun hHeld => ?_)
         clear hK K
         refine nm (some 41) ?_
         refine pa 12 (some 5) (yz 13 8191) HT_ ?_
         refine done_ (done_of HT_.out (by kernel_rfl)) ?_
         try go_wp2
         go_roundg k3
         case measure => have := HJ2.out; have := HK2.out; have := HK3.out; omega
         case rel => exact ⟨(y768), (wrap64 (x7_3 + 1)), rr, H', ⟨by have := HJ2.out; have := HK2.out; have := HK3.out; omega⟩, ⟨ro HO770.out⟩, ⟨bw⟩⟩
        have H' := am H
        clear H
        go_wp2
        go_roundg k3
        case measure => have := HJ2.out; have := HK2.out; have := HK3.out; omega
        case rel => exact ⟨(x5_3), (wrap64 (x6_2 + 1)), rr, H', ⟨by have := HJ2.out; have := HK2.out; have := HK3.out; omega⟩, ⟨ro HO_5.out⟩, ⟨bw⟩⟩
     replace H := ga H; obtain ⟨t763, A18, H⟩ := H
     obtain rfl := Option.some.inj H
     obtain ⟨Ao19, co19, eo19⟩ := Kd.R_slice HO_5.out
     subst eo19
     go_wp2_with (first | ((with_reducible refine gate_callee (f := 59) rfl ?_); refine goesL_ (some 43) rfl rfl Tryz.func59 (by kernel_rfl) rfl #[.slice Ao19 x5_2.length co19] rfl (by (try simp only [List.map_toArray, List.map_cons, List.map_nil]); first | done | rfl | (simp only [List.length_drop, List.length_take]; rfl)) ?_; (with_reducible refine (spec_SortList.calls k2 _ _ x5_2 t763 _ ?side1 ?side2 A18.out).mono ?_); (case side1 => exact co (Kd.R_reads' HO_5.out).2.2); (case side2 => exact (Kd.R_reads' HO_5.out).2.1); rintro e w20 ⟨v764, rfl, ho0, hb⟩; refine ⟨_, rfl, ?_⟩; have HO765 := am (Kd.R_lower (Kd.R_new' ho0 (Kd.R_lt (ro HO_5.out))) (below_size bw)); replace HO_5 := am (Kd.R_elder' (ro HO_5.out) (Kd.R_base ho0) hb); replace HB := am (below_step bw hb); clear hb ho0))
     go_ret
     exact ⟨_, re, by (with_reducible repeat (first | apply Kd.R_alloc | apply Kd.R_drewN | apply Kd.R_drew)); exact Kd.R_mono HO765.out (fun _ hk => trivial), bw⟩

end Go.Proofs.YtkfplkdchkmgbaaGreat.C
