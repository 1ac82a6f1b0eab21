/- Contracts of functions of the program: spec_GenusOf, impl_AperySet, spec_l6Apery, spec_AperySet. -/
import Derived.Test.YtkfplkdchkmgbaaC0
import Derived.Test.YtkfplkdchkmgbaaC1
import Derived.Test.YtkfplkdchkmgbaaC2
import Derived.Test.YtkfplkdchkmgbaaC3
import Derived.Test.YtkfplkdchkmgbaaC6
import Derived.Test.YtkfplkdchkmgbaaC9
import Derived.Test.YtkfplkdchkmgbaaC13
import Derived.Test.YtkfplkdchkmgbaaC14
namespace Go.Proofs.Ytkfplkdchkmgbaa.C
open Go.RowKit Go.Proofs.YtkfplkdchkmgbaaW.PrintWords Go.Proofs.YtkfplkdchkmgbaaW.PrintLast Go.Proofs.YtkfplkdchkmgbaaW.PrintMore
attribute [local go_sem] max2_int min2_int max_two min_two max_three min_three max_four min_four
set_option linter.unusedVariables false
set_option linter.unusedSimpArgs false

/-! ### spec_GenusOf: function 25 -/
def spec_GenusOf.f (k : Nat) (l0_0 : List Int) : Option (Int) := (spec_IsSemigroup.f k l0_0).bind fun t1337 => (if t1337 = true then ((spec_l4Gaps.f k l0_0).bind fun t1338 => (some (t1338.length : Int))) else (some (-1)))
set_option maxHeartbeats 8000000 in
set_option maxRecDepth 100000 in
theorem spec_GenusOf.calls (k : Nat) (A0_0 : Option Addr) (c0_0 : Nat) (l0_0 : List Int) (r : Int) (w : World) (hr0_0 : Kd.C (Kd.int .i64) w A0_0 l0_0.length l0_0) (hc0_0 : l0_0.length ≤ c0_0) (h : spec_GenusOf.f k l0_0 = some r) :
  Calls Try.prog 25 #[.agg #[.slice A0_0 l0_0.length c0_0]] w fun e w' => e = .returned (.int .i64 r) ∧ Below w.heap.size w w' := by
 have hu26 := Try.underlying26
 have HR0_0 := am hr0_0
 have HC0_0 := am hc0_0
 clear hr0_0 hc0_0
 have HB := am (Below.refl w.heap.size w)
 have H : ((spec_IsSemigroup.f k l0_0).bind fun t1337 => (if t1337 = true then ((spec_l4Gaps.f k l0_0).bind fun t1338 => (some (t1338.length : Int))) else (some (-1)))) = some r := h
 clear h
 replace H := ga H; obtain ⟨t1337, A2, H⟩ := H
 replace H := gb H; obtain ⟨rfl, H⟩ | ⟨rfl, H⟩ := H
 ·replace H := ga H; obtain ⟨t1338, A4, H⟩ := H
  obtain rfl := Option.some.inj H
  go_enter Try.func25, Try.ntmps25
  go_wp2_with (first | ((with_reducible refine gate_dst (N := 1) rfl ?_); refine bx 1 #[.slice A0_0 l0_0.length c0_0] 26 ?_; intro gb1336 hg w5 hbox hb; have BK1336 := am (hbox); have GW1336 := am (gs hg : w.heap.size ≤ gb1336); have GE1336 := GW1336; replace HB := am (below_step bw hb); clear hb hbox hg; have hcz6_0 := bc BK1336 0 (.slice A0_0 l0_0.length c0_0); have hfz6_0 := blk_frozen BK1336.out 0) | ((with_reducible refine gate_callee (f := 23) rfl ?_); refine gl (some 4) Try.func23 #[.agg #[.slice A0_0 l0_0.length c0_0]] ?_; (with_reducible refine (spec_IsSemigroup.calls k _ _ l0_0 true _ ?side1 ?side2 A2.out).mono ?_); (case side1 => exact co (Kd.C_below HR0_0.out HB.out)); (case side2 => exact HC0_0.out); rintro e w7 ⟨rfl, hb⟩; refine ⟨_, rfl, ?_⟩; replace BK1336 := kb BK1336 hb; replace HB := am (below_step bw hb); clear hb; have hcz8_0 := bc BK1336 0 (.slice A0_0 l0_0.length c0_0); have hfz8_0 := blk_frozen BK1336.out 0) | ((with_reducible refine gate_callee (f := 149) rfl ?_); refine gl (some 7) Try.func149 #[.agg #[.slice A0_0 l0_0.length c0_0]] ?_; (with_reducible refine (spec_l4Gaps.calls k _ _ l0_0 t1338 _ ?side1 ?side2 A4.out).mono ?_); (case side1 => exact co (Kd.C_below HR0_0.out HB.out)); (case side2 => exact HC0_0.out); rintro e w9 ⟨v1339, rfl, ho0, hb⟩; refine ⟨_, rfl, ?_⟩; have HO1340 := am (Kd.R_lower ho0 (below_size bw)); replace BK1336 := kb BK1336 hb; replace HB := am (below_step bw hb); clear hb ho0; obtain ⟨Ao10, co10, eo10⟩ := Kd.R_slice HO1340.out; subst eo10))
  go_ret
  exact ⟨re, bw⟩
 ·obtain rfl := Option.some.inj H
  go_enter Try.func25, Try.ntmps25
  go_wp2_with (first | ((with_reducible refine gate_dst (N := 1) rfl ?_); refine bx 1 #[.slice A0_0 l0_0.length c0_0] 26 ?_; intro gb1336 hg w11 hbox hb; have BK1336 := am (hbox); have GW1336 := am (gs hg : w.heap.size ≤ gb1336); have GE1336 := GW1336; replace HB := am (below_step bw hb); clear hb hbox hg; have hcz12_0 := bc BK1336 0 (.slice A0_0 l0_0.length c0_0); have hfz12_0 := blk_frozen BK1336.out 0) | ((with_reducible refine gate_callee (f := 23) rfl ?_); refine gl (some 4) Try.func23 #[.agg #[.slice A0_0 l0_0.length c0_0]] ?_; (with_reducible refine (spec_IsSemigroup.calls k _ _ l0_0 false _ ?side1 ?side2 A2.out).mono ?_); (case side1 => exact co (Kd.C_below HR0_0.out HB.out)); (case side2 => exact HC0_0.out); rintro e w13 ⟨rfl, hb⟩; refine ⟨_, rfl, ?_⟩; replace BK1336 := kb BK1336 hb; replace HB := am (below_step bw hb); clear hb))
  go_ret
  exact ⟨re, bw⟩


/-! ### impl_AperySet: function 133 -/
mutual
def impl_AperySet.j0 : Nat → Int → Bool → List Int → Option (List Int)
 | 0, _, _, _ => none
 | k + 1, x1, x16, x1428000 => if x16 = true then (some ([] : List Int)) else (if 0 ≤ x1 then (if (x1 : Int).toNat ≤ 35184372088832 then ((some (List.replicate (x1 : Int).toNat 0 : List Int)).bind fun y1430 => ((impl_table.f k x1428000 (wrap64 (200 + x1))).bind fun t1433 => (impl_AperySet.l0 k x1 y1430 t1433 (y1430.length : Int) 0))) else (none)) else (none))
def impl_AperySet.l0 : Nat → Int → List Int → List Bool → Int → Int → Option (List Int)
 | 0, _, _, _, _, _ => none
 | k + 1, x1, x5, x6, x24, x25 => if x25 < x24 then (impl_AperySet.l1 k x1 x5 x6 x25 x24 x25) else (some x5)
def impl_AperySet.l1 : Nat → Int → List Int → List Bool → Int → Int → Int → Option (List Int)
 | 0, _, _, _, _, _, _ => none
 | k + 1, x1, x5, x6, x7, x24, x25 => if 0 ≤ x7 then (if x7 < (x5.length : Int) then (if 0 ≤ (rd x5 x7) then (if (rd x5 x7) < (x6.length : Int) then (if (rdOf false x6 (rd x5 x7) = true) then (if x1 = 0 then (none) else (if (Int.tmod (rd x5 x7) x1) = x7 then (impl_AperySet.l0 k x1 x5 x6 x24 (wrap64 (x25 + 1))) else (impl_AperySet.l1 k x1 (x5.set (x7 : Int).toNat (wrap64 ((rd x5 x7) + 1))) x6 x7 x24 x25))) else (impl_AperySet.l1 k x1 (x5.set (x7 : Int).toNat (wrap64 ((rd x5 x7) + 1))) x6 x7 x24 x25)) else (none)) else (none)) else (none)) else (none)
end
def impl_AperySet.f (k : Nat) (l0_0 : List Int) (a1 : Int) : Option (List Int) := (impl_within.f a1 1 60).bind fun t1428 => (if t1428 = true then ((impl_Contains.f k l0_0 a1).bind fun t1429 => (impl_AperySet.j0 k a1 (!t1429) l0_0)) else (impl_AperySet.j0 k a1 true l0_0))
set_option maxHeartbeats 8000000 in
set_option maxRecDepth 100000 in
theorem impl_AperySet.calls (k : Nat) (A0_0 : Option Addr) (c0_0 : Nat) (l0_0 : List Int) (a1 : Int) (r : List Int) (w : World) (hr0_0 : Kd.C (Kd.int .i64) w A0_0 l0_0.length l0_0) (hc0_0 : l0_0.length ≤ c0_0) (h : impl_AperySet.f k l0_0 a1 = some r) :
  Calls Try.prog 133 #[.agg #[.slice A0_0 l0_0.length c0_0], .int .i64 a1] w fun e w' => ∃ v0_ : Value, e = .returned (v0_) ∧ Kd.R (Kd.int .i64) 3 w' w.heap.size (fun _ => True) v0_ r ∧ Below w.heap.size w w' := by
 have hu26 := Try.underlying26
 have HR0_0 := am hr0_0
 have HC0_0 := am hc0_0
 clear hr0_0 hc0_0
 have HB := am (Below.refl w.heap.size w)
 have H : ((impl_within.f a1 1 60).bind fun t1428 => (if t1428 = true then ((impl_Contains.f k l0_0 a1).bind fun t1429 => (impl_AperySet.j0 k a1 (!t1429) l0_0)) else (impl_AperySet.j0 k a1 true l0_0))) = some r := h
 clear h
 have HC3 := am H
 clear H
 go_enter Try.func133, Try.ntmps133
 go_upto_region 1 with (first | ((with_reducible refine gate_dst (N := 2) rfl ?_); refine bx 2 #[.slice A0_0 l0_0.length c0_0] 26 ?_; intro gb1427 hg w4 hbox hb; have BK1427 := am (hbox); have GW1427 := am (gs hg : w.heap.size ≤ gb1427); have GE1427 := GW1427; replace HB := am (below_step bw hb); clear hb hbox hg))
 (try simp only [Act.put, List.setIfInBounds_toArray, List.set_cons_zero, List.set_cons_succ])
 go_cut [16] (fun v16 wc => ∃ (kq : Nat) (x16_2 : Bool), v16 = .bool x16_2 ∧ Aside0 (impl_AperySet.j0 kq a1 x16_2 l0_0 = some r) ∧ Aside0 (kq ≤ k) ∧ Aside0 (wc.heap[gb1427]? = some (.cells #[(.slice A0_0 l0_0.length c0_0)] 26 (0, 0))) ∧ Aside0 (Below w.heap.size w wc))
 case first =>
  have H := HC3.out
  clear HC3
  replace H := ga H; obtain ⟨t1428, A5, H⟩ := H
  replace H := gb H; obtain ⟨rfl, H⟩ | ⟨rfl, H⟩ := H
  ·replace H := ga H; obtain ⟨t1429, A7, H⟩ := H
   have H' := am H
   clear H
   go_wp2_with (first | ((with_reducible refine gate_callee (f := 139) rfl ?_); refine gl (some 9) Try.func139 #[.int .i64 a1, .int .i64 1, .int .i64 60] ?_; (with_reducible refine (impl_within.calls a1 1 60 true _ A5.out).mono ?_); rintro e w' ⟨rfl, ⟨nd, rfl⟩⟩; refine ⟨_, rfl, ?_⟩; have hcz8_0 := bc BK1427 0 (.slice A0_0 l0_0.length c0_0); have hfz8_0 := blk_frozen BK1427.out 0) | (go_at_call 32; (with_reducible refine (impl_Contains.calls k _ _ l0_0 a1 t1429 _ ?side1 ?side2 A7.out).mono ?_); (case side1 => exact co (Kd.C_below HR0_0.out bw)); (case side2 => exact HC0_0.out); rintro e w9 ⟨rfl, hb⟩; replace BK1427 := kb BK1427 hb; replace HB := am (below_step bw hb); clear hb))
   go_meet
   case rel => exact ⟨_, (!t1429), rr, H', ⟨om⟩, ⟨bo BK1427.out⟩, ⟨bw⟩⟩
  ·have H' := am H
   clear H
   go_wp2_with (first | ((with_reducible refine gate_callee (f := 139) rfl ?_); refine gl (some 9) Try.func139 #[.int .i64 a1, .int .i64 1, .int .i64 60] ?_; (with_reducible refine (impl_within.calls a1 1 60 false _ A5.out).mono ?_); rintro e w' ⟨rfl, ⟨nd, rfl⟩⟩; refine ⟨_, rfl, ?_⟩))
   go_meet
   case rel => exact ⟨_, (true), rr, H', ⟨om⟩, ⟨bo BK1427.out⟩, ⟨bw⟩⟩
 case rest =>
  clear HC3
  try clear hcz8_0; try clear hfz8_0
  obtain ⟨kq, x16_2, rfl, HA, HJ2, BK1427, HB⟩ := hcut
  cases kq with
  | zero => exact absurd HA.out (by simp [impl_AperySet.j0])
  | succ kj2 =>
   have H := HA.out
   clear HA
   simp only [impl_AperySet.j0] at H
   replace H := gb H; obtain ⟨rfl, H⟩ | ⟨rfl, H⟩ := H
   ·obtain rfl := Option.some.inj H
    go_wp2
    go_ret
    exact ⟨_, re, by first | exact Kd.R_nil _ _ _ _ _ | exact Kd.N_nil _ _ _ _ _ | exact Kd.V_nil _ _ _ _ _ | exact Kd.Q_nil _ _ _ _ _ | exact Kd.S_nil _ _ _ _ _, bw⟩
   ·replace H := gp H; obtain ⟨c11, H⟩ := H
    have c11b0 := eq_true c11
    have c11b1 : decide (0 ≤ a1) = true := decide_eq_true c11
    clear c11
    replace H := gp H; obtain ⟨c12, H⟩ := H
    have c12b0 := eq_true c12
    have c12b1 : decide ((a1 : Int).toNat ≤ 35184372088832) = true := decide_eq_true c12
    clear c12
    obtain ⟨y1430, hy1430⟩ : ∃ y_ : List Int, y_ = (List.replicate (a1 : Int).toNat 0) := ⟨_, rfl⟩
    replace H : ((impl_table.f kj2 l0_0 (wrap64 (200 + a1))).bind fun t1433 => (impl_AperySet.l0 kj2 a1 y1430 t1433 (y1430.length : Int) 0)) = some r := by first | (rw [hy1430]; with_reducible exact H) | (have H2_ := (Option.bind_some _ _).symm.trans H; rw [hy1430]; with_reducible exact H2_) | (have H2_ := (Option.bind_some _ _).symm.trans H; with_reducible exact H2_) | with_reducible exact H | (rw [hy1430]; exact H) | exact H
    have Ny1430 := am hy1430
    clear hy1430
    replace H := ga H; obtain ⟨t1433, A13, H⟩ := H
    have H' := am H
    clear H
    go_wp2_with (first | ((with_reducible refine gate_dst (N := 18) rfl ?_); refine Kd.R_make (Kd.int .i64) _ 3 rfl (N := 18) rfl 24 _ _ rfl a1 rfl rfl Try.underlying24 (.int .i64 0) 8 info3 rfl (by decide) (by omega) 0 (ok := fun _ => True) (okp := fun _ => True) rfl (fun _ hk => hk) trivial (of_decide_eq_true (by first | (with_reducible assumption) | assumption)) (Nat.le_trans (Nat.mul_le_mul_right _ (of_decide_eq_true (by first | (with_reducible assumption) | assumption) : a1.toNat ≤ 35184372088832)) (by omega)) (Below.refl _ _) (Nat.le_refl _) ?_; intro v1431 w14 ho15 hb hg_ hnew_; clear hg_ hnew_; (first | rw [← Ny1430.out] at ho15 | (simp only [Int.reduceToNat] at ho15; rw [← Ny1430.out] at ho15)); have HO1432 := am (Kd.R_lower ho15 (below_size bw)); replace BK1427 := kb BK1427 hb; replace HB := am (below_step bw hb); clear hb ho15; have hcz16_0 := bc BK1427 0 (.slice A0_0 l0_0.length c0_0); have hfz16_0 := blk_frozen BK1427.out 0) | ((with_reducible refine gate_callee (f := 157) rfl ?_); refine gl (some 22) Try.func157 #[.agg #[.slice A0_0 l0_0.length c0_0], .int .i64 (wrap64 (200 + a1))] ?_; (with_reducible refine (impl_table.calls kj2 _ _ l0_0 (wrap64 (200 + a1)) t1433 _ ?side1 ?side2 A13.out).mono ?_); (case side1 => exact co (Kd.C_below HR0_0.out HB.out)); (case side2 => exact HC0_0.out); rintro e w17 ⟨v1434, rfl, ho0, hb⟩; refine ⟨_, rfl, ?_⟩; replace HO1432 := am (Kd.R_below (ro HO1432.out) hb); have HO1435 := am (Kd.R_lower ho0 (below_size bw)); replace BK1427 := kb BK1427 hb; replace HB := am (below_step bw hb); clear hb ho0; obtain ⟨Ao18, co18, eo18⟩ := Kd.R_slice HO1432.out; subst eo18))
    go_loopg [25] kj2 (fun kq v25 w' => ∃ (x5_2 : List Int) (x25_2 : Int), v25 = .int .i64 x25_2 ∧ Aside0 (impl_AperySet.l0 kq a1 x5_2 t1433 (y1430.length : Int) x25_2 = some r) ∧ Aside0 (kq ≤ kj2) ∧ Aside0 (Kd.R (Kd.int .i64) 3 w' w.heap.size (fun _ => True) (.slice Ao18 y1430.length co18) x5_2) ∧ Aside0 (Kd.R Kd.bool 4 w' w.heap.size (fun _ => True) v1434 t1433) ∧ Aside0 (w'.heap[gb1427]? = some (.cells #[(.slice A0_0 l0_0.length c0_0)] 26 (0, 0))) ∧ Aside0 (Below w.heap.size w w'))
    case atStart => exact ⟨(y1430), (0), rr, H', ⟨Nat.le_refl _⟩, ⟨ro HO1432.out⟩, ⟨ro HO1435.out⟩, ⟨bo BK1427.out⟩, ⟨bw⟩⟩
    case round =>
     clear H'
     try clear c11; try clear c11b0; try clear c11b1; try clear c12; try clear c12b0; try clear c12b1; try clear hcz16_0; try clear hcz8_0; try clear hfz16_0; try clear hfz8_0
     obtain ⟨x5_2, x25_2, rfl, HA, HK2, HO_5, HO_6, BK1427, HB⟩ := hrel
     have hl5_2 := (Kd.R_reads' HO_5.out).1
     rw [hl5_2] at HO_5
     (try simp only [hl5_2])
     (try simp only [hl5_2] at BK1427)
     (try simp only [hl5_2] at HO_6)
     cases gk with
     | zero => exact absurd HA.out (by simp [impl_AperySet.l0])
     | succ k2 =>
      have H := HA.out
      clear HA
      simp only [impl_AperySet.l0] at H
      by_cases c19 : x25_2 < (y1430.length : Int)
      ·rw [if_pos c19] at H
       have c19b0 : decide (x25_2 < (y1430.length : Int)) = true := decide_eq_true c19
       (try simp only [hl5_2] at c19b0)
       clear c19
       have H' := am H
       clear H
       go_wp2
       go_loopg [] k2 (fun kq w' => ∃ (x5_3 : List Int), Aside0 (impl_AperySet.l1 kq a1 x5_3 t1433 x25_2 (y1430.length : Int) x25_2 = some r) ∧ Aside0 (kq ≤ k2) ∧ Aside0 (Kd.R (Kd.int .i64) 3 w' w.heap.size (fun _ => True) (.slice Ao18 x5_2.length co18) x5_3) ∧ Aside0 (Kd.R Kd.bool 4 w' w.heap.size (fun _ => True) v1434 t1433) ∧ Aside0 (w'.heap[gb1427]? = some (.cells #[(.slice A0_0 l0_0.length c0_0)] 26 (0, 0))) ∧ Aside0 (Below w.heap.size w w'))
       case atStart => exact ⟨(x5_2), H', ⟨Nat.le_refl _⟩, ⟨by (try simp only [hl5_2]); (with_reducible repeat (first | apply Kd.R_alloc | apply Kd.R_drewN | apply Kd.R_drew)); exact HO_5.out⟩, ⟨by (try simp only [hl5_2]); (with_reducible repeat (first | apply Kd.R_alloc | apply Kd.R_drewN | apply Kd.R_drew)); exact HO_6.out⟩, ⟨by (try simp only [hl5_2]); (with_reducible repeat (first | refine blk_drewN ?_ _ | refine blk_drew ?_ | refine blk_alloc ?_ _)); exact BK1427.out⟩, ⟨bw⟩⟩
       case round =>
        clear H'
        try clear c11; try clear c11b0; try clear c11b1; try clear c12; try clear c12b0; try clear c12b1; try clear c19; try clear c19b0; try clear hcz16_0; try clear hcz8_0; try clear hfz16_0; try clear hfz8_0
        obtain ⟨x5_3, HA, HK3, HO_5, HO_6, BK1427, HB⟩ := hrel
        have hl5_3 := (Kd.R_reads' HO_5.out).1
        rw [hl5_3] at HO_5
        (try simp only [hl5_3])
        (try simp only [hl5_3] at BK1427)
        (try simp only [hl5_3] at HO_6)
        cases gk with
        | zero => exact absurd HA.out (by simp [impl_AperySet.l1])
        | succ k3 =>
         have H := HA.out
         clear HA
         simp only [impl_AperySet.l1] at H
         replace H := gd H; obtain ⟨c20b0, H⟩ := H
         by_cases c21 : x25_2 < (x5_3.length : Int)
         rotate_left
         ·rw [if_neg c21] at H
          exact absurd H (by simp)
         rw [if_pos c21] at H
         have c21b0 : decide (x25_2 < (x5_3.length : Int)) = true := decide_eq_true c21
         (try simp only [hl5_2, hl5_3] at c21b0)
         clear c21
         replace H := gd H; obtain ⟨c22b0, H⟩ := H
         replace H := gd H; obtain ⟨c23b0, H⟩ := H
         obtain ⟨bq24, hbq24⟩ : ∃ b_ : Bool, b_ = (rdOf false t1433 (rd x5_3 x25_2)) := ⟨_, rfl⟩
         replace H : (if (bq24 = true) then (if a1 = 0 then (none) else (if (Int.tmod (rd x5_3 x25_2) a1) = x25_2 then (impl_AperySet.l0 k3 a1 x5_3 t1433 (y1430.length : Int) (wrap64 (x25_2 + 1))) else (impl_AperySet.l1 k3 a1 (x5_3.set (x25_2 : Int).toNat (wrap64 ((rd x5_3 x25_2) + 1))) t1433 x25_2 (y1430.length : Int) x25_2))) else (impl_AperySet.l1 k3 a1 (x5_3.set (x25_2 : Int).toNat (wrap64 ((rd x5_3 x25_2) + 1))) t1433 x25_2 (y1430.length : Int) x25_2)) = some r := by rw [← hbq24] at H; exact H
         have Nbq24 := am hbq24
         clear hbq24
         by_cases c25 : (bq24 = true)
         ·subst c25
          have H1 : (if a1 = 0 then (none) else (if (Int.tmod (rd x5_3 x25_2) a1) = x25_2 then (impl_AperySet.l0 k3 a1 x5_3 t1433 (y1430.length : Int) (wrap64 (x25_2 + 1))) else (impl_AperySet.l1 k3 a1 (x5_3.set (x25_2 : Int).toNat (wrap64 ((rd x5_3 x25_2) + 1))) t1433 x25_2 (y1430.length : Int) x25_2))) = some r := by rw [if_pos rfl] at H; exact H
          clear H
          have H := H1
          clear H1
          by_cases c26 : a1 = 0
          ·rw [if_pos c26] at H
           exact absurd H (by simp)
          ·rw [if_neg c26] at H
           have c26b0 : (a1 == 0) = false := beq_eq_false_iff_ne.mpr c26
           have c26b1 : (a1 != 0) = true := bne_iff_ne.mpr c26
           by_cases c27 : (Int.tmod (rd x5_3 x25_2) a1) = x25_2
           ·rw [if_pos c27] at H
            have c27b0 : ((Int.tmod (rd x5_3 x25_2) a1) == x25_2) = true := beq_iff_eq.mpr c27
            have c27b1 : ((Int.tmod (rd x5_3 x25_2) a1) != x25_2) = false := bne_eq_false_iff_eq.mpr c27
            clear c27
            have H' := am H
            clear H
            obtain ⟨⟨ad1436, e1436, hx1436_0⟩, p1436, q1436⟩ := pq (Kd.at_int (Kd.R_reads' HO_5.out).2.2 x25_2)
            cases e1436
            obtain ⟨Ao28, co28, eo28⟩ := Kd.R_slice HO_6.out
            subst eo28
            obtain ⟨⟨ad1437, e1437, hx1437_0⟩, p1437, q1437⟩ := pq (Kd.at_bool (Kd.R_reads' HO_6.out).2.2 (rd x5_3 x25_2))
            (try rw [← Nbq24.out] at hx1437_0)
            cases e1437
            obtain ⟨⟨ad1438, e1438, hx1438_0⟩, p1438, q1438⟩ := pq (Kd.at_int (Kd.R_reads' HO_5.out).2.2 x25_2)
            obtain rfl : ad1436 = ad1438 := (by injection e1438)
            go_wp2
            (try simp only [← hl5_2, ← hl5_3])
            go_roundg k3
            case measure => have := HJ2.out; have := HK2.out; have := HK3.out; omega
            case rel => exact ⟨(x5_3), (wrap64 (x25_2 + 1)), rr, H', ⟨by have := HJ2.out; have := HK2.out; have := HK3.out; omega⟩, ⟨by (try simp only [hl5_2]); (try simp only [hl5_3]); (with_reducible repeat (first | apply Kd.R_alloc | apply Kd.R_drewN | apply Kd.R_drew)); exact HO_5.out⟩, ⟨by (try simp only [hl5_2]); (try simp only [hl5_3]); (with_reducible repeat (first | apply Kd.R_alloc | apply Kd.R_drewN | apply Kd.R_drew)); exact HO_6.out⟩, ⟨by (try simp only [hl5_2]); (try simp only [hl5_3]); (with_reducible repeat (first | refine blk_drewN ?_ _ | refine blk_drew ?_ | refine blk_alloc ?_ _)); exact BK1427.out⟩, ⟨bw⟩⟩
           ·rw [if_neg c27] at H
            have c27b0 : ((Int.tmod (rd x5_3 x25_2) a1) == x25_2) = false := beq_eq_false_iff_ne.mpr c27
            have c27b1 : ((Int.tmod (rd x5_3 x25_2) a1) != x25_2) = true := bne_iff_ne.mpr c27
            obtain ⟨y1440, hy1440⟩ : ∃ y_ : List Int, y_ = (x5_3.set (x25_2 : Int).toNat (wrap64 ((rd x5_3 x25_2) + 1))) := ⟨_, rfl⟩
            replace H : (impl_AperySet.l1 k3 a1 y1440 t1433 x25_2 (y1430.length : Int) x25_2) = some r := by first | (rw [hy1440]; with_reducible exact H) | (have H2_ := (Option.bind_some _ _).symm.trans H; rw [hy1440]; with_reducible exact H2_) | (have H2_ := (Option.bind_some _ _).symm.trans H; with_reducible exact H2_) | with_reducible exact H | (rw [hy1440]; exact H) | exact H
            have Ny1440 := am hy1440
            clear hy1440
            have H' := am H
            clear H
            obtain ⟨⟨ad1436, e1436, hx1436_0⟩, p1436, q1436⟩ := pq (Kd.at_int (Kd.R_reads' HO_5.out).2.2 x25_2)
            cases e1436
            obtain ⟨Ao30, co30, eo30⟩ := Kd.R_slice HO_6.out
            subst eo30
            obtain ⟨⟨ad1437, e1437, hx1437_0⟩, p1437, q1437⟩ := pq (Kd.at_bool (Kd.R_reads' HO_6.out).2.2 (rd x5_3 x25_2))
            (try rw [← Nbq24.out] at hx1437_0)
            cases e1437
            obtain ⟨⟨ad1438, e1438, hx1438_0⟩, p1438, q1438⟩ := pq (Kd.at_int (Kd.R_reads' HO_5.out).2.2 x25_2)
            obtain rfl : ad1436 = ad1438 := (by injection e1438)
            obtain ⟨⟨ad1439, e1439, hx1439_0⟩, p1439, q1439⟩ := pq (Kd.at_int (Kd.R_reads' HO_5.out).2.2 x25_2)
            obtain rfl : ad1436 = ad1439 := (by injection e1439)
            have p29 : 0 ≤ (x25_2 : Int) := of_decide_eq_true (by first | (with_reducible assumption) | assumption)
            have q29 : (x25_2 : Int) < ((x5_3.length : Int) : Int) := of_decide_eq_true (by first | (with_reducible assumption) | assumption)
            obtain ⟨go29, co29, eo29, gb29, gl29, cl29, HG29⟩ := Kd.R_form HO_5.out (by omega)
            (first | cases eo29 | (injection eo29 with ea_ en_ ec_; (first | subst ea_ | (injection ea_ with ea_; subst ea_)); subst ec_; clear en_))
            have GB29 := am gb29
            have GG29 := am HG29
            clear gb29 gl29 HG29
            (first | simp only [add_plain] at hx1436_0 | skip)
            (first | simp only [add_plain] at hx1438_0 | skip)
            (first | simp only [add_plain] at hx1439_0 | skip)
            obtain ⟨hx29_0, hf29_0⟩ := Kd.R_celln 0 HO_5.out (x25_2 : Int) p29 q29
            replace p29 := eq_true p29
            replace q29 := eq_true q29
            have HP31 := Kd.R_putg HO_5.out (x25_2 : Int) (wrap64 ((rd x5_3 x25_2) + 1))
            go_wp2_with (first | ((with_reducible refine gate_store (t := 3) (p := 51) rfl ?_); refine store_event (t := 3) (p := 51) (v := ?vo_w32) (w1 := (wr.setCell ⟨go29, (x25_2 : Int).toNat, none⟩ (.int .i64 (wrap64 ((rd x5_3 x25_2) + 1))))) ?hg ?ho ?hn ?hr ?_; (case ho => rfl); (case hg => rfl); (case hn => rfl); (case hr => first | (go_simp; done) | (go_simp; rfl)); intro w32 hw; have hg : wr.grownBy w32 (some go29) := (by rw [hw]; exact HP31.2); have hp_ : Kd.R (Kd.int .i64) 3 w32 w.heap.size (fun _ => True) (.slice (some ⟨go29, 0, none⟩) x5_3.length co18) y1440 := (by rw [hw, Ny1440.out]; exact HP31.1); clear HP31; replace HO_6 := am (Kd.R_over' (v := (.slice (some ⟨go29, 0, none⟩) x5_3.length co18)) (ro HO_6.out) (Kd.R_typed HO_5.out) (by decide) hg); replace BK1427 := am (blk_grown (g := gb1427) (o := .cells #[.slice A0_0 l0_0.length c0_0] 26 (0, 0)) (bo BK1427.out) hg (Kd.R_ne HO_5.out BK1427.out (by decide))); replace HO_5 := am (hp_); replace HB := am ((by rw [hw]; exact below_set (HB.out) GB29.out : Below w.heap.size w w32)); clear hg hw hp_))
            (try simp only [← hl5_3])
            go_roundg k3
            case measure => have := HJ2.out; have := HK2.out; have := HK3.out; omega
            case rel => exact ⟨(y1440), H', ⟨by have := HJ2.out; have := HK2.out; have := HK3.out; omega⟩, ⟨by (try simp only [hl5_2]); (try simp only [hl5_3]); (with_reducible repeat (first | apply Kd.R_alloc | apply Kd.R_drewN | apply Kd.R_drew)); exact HO_5.out⟩, ⟨by (try simp only [hl5_2]); (try simp only [hl5_3]); (with_reducible repeat (first | apply Kd.R_alloc | apply Kd.R_drewN | apply Kd.R_drew)); exact HO_6.out⟩, ⟨by (try simp only [hl5_2]); (try simp only [hl5_3]); (with_reducible repeat (first | refine blk_drewN ?_ _ | refine blk_drew ?_ | refine blk_alloc ?_ _)); exact BK1427.out⟩, ⟨bw⟩⟩
         ·replace c25 := Bool.eq_false_iff.mpr c25
          subst c25
          have H1 : (impl_AperySet.l1 k3 a1 (x5_3.set (x25_2 : Int).toNat (wrap64 ((rd x5_3 x25_2) + 1))) t1433 x25_2 (y1430.length : Int) x25_2) = some r := by rw [if_neg (show ¬ (false = true) by decide)] at H; exact H
          clear H
          have H := H1
          clear H1
          obtain ⟨y1442, hy1442⟩ : ∃ y_ : List Int, y_ = (x5_3.set (x25_2 : Int).toNat (wrap64 ((rd x5_3 x25_2) + 1))) := ⟨_, rfl⟩
          replace H : (impl_AperySet.l1 k3 a1 y1442 t1433 x25_2 (y1430.length : Int) x25_2) = some r := by first | (rw [hy1442]; with_reducible exact H) | (have H2_ := (Option.bind_some _ _).symm.trans H; rw [hy1442]; with_reducible exact H2_) | (have H2_ := (Option.bind_some _ _).symm.trans H; with_reducible exact H2_) | with_reducible exact H | (rw [hy1442]; exact H) | exact H
          have Ny1442 := am hy1442
          clear hy1442
          have H' := am H
          clear H
          obtain ⟨⟨ad1436, e1436, hx1436_0⟩, p1436, q1436⟩ := pq (Kd.at_int (Kd.R_reads' HO_5.out).2.2 x25_2)
          cases e1436
          obtain ⟨Ao34, co34, eo34⟩ := Kd.R_slice HO_6.out
          subst eo34
          obtain ⟨⟨ad1437, e1437, hx1437_0⟩, p1437, q1437⟩ := pq (Kd.at_bool (Kd.R_reads' HO_6.out).2.2 (rd x5_3 x25_2))
          (try rw [← Nbq24.out] at hx1437_0)
          cases e1437
          obtain ⟨⟨ad1441, e1441, hx1441_0⟩, p1441, q1441⟩ := pq (Kd.at_int (Kd.R_reads' HO_5.out).2.2 x25_2)
          obtain rfl : ad1436 = ad1441 := (by injection e1441)
          have p33 : 0 ≤ (x25_2 : Int) := of_decide_eq_true (by first | (with_reducible assumption) | assumption)
          have q33 : (x25_2 : Int) < ((x5_3.length : Int) : Int) := of_decide_eq_true (by first | (with_reducible assumption) | assumption)
          obtain ⟨go33, co33, eo33, gb33, gl33, cl33, HG33⟩ := Kd.R_form HO_5.out (by omega)
          (first | cases eo33 | (injection eo33 with ea_ en_ ec_; (first | subst ea_ | (injection ea_ with ea_; subst ea_)); subst ec_; clear en_))
          have GB33 := am gb33
          have GG33 := am HG33
          clear gb33 gl33 HG33
          (first | simp only [add_plain] at hx1436_0 | skip)
          (first | simp only [add_plain] at hx1441_0 | skip)
          obtain ⟨hx33_0, hf33_0⟩ := Kd.R_celln 0 HO_5.out (x25_2 : Int) p33 q33
          replace p33 := eq_true p33
          replace q33 := eq_true q33
          have HP35 := Kd.R_putg HO_5.out (x25_2 : Int) (wrap64 ((rd x5_3 x25_2) + 1))
          go_wp2_with (first | ((with_reducible refine gate_store (t := 3) (p := 51) rfl ?_); refine store_event (t := 3) (p := 51) (v := ?vo_w36) (w1 := (wr.setCell ⟨go33, (x25_2 : Int).toNat, none⟩ (.int .i64 (wrap64 ((rd x5_3 x25_2) + 1))))) ?hg ?ho ?hn ?hr ?_; (case ho => rfl); (case hg => rfl); (case hn => rfl); (case hr => first | (go_simp; done) | (go_simp; rfl)); intro w36 hw; have hg : wr.grownBy w36 (some go33) := (by rw [hw]; exact HP35.2); have hp_ : Kd.R (Kd.int .i64) 3 w36 w.heap.size (fun _ => True) (.slice (some ⟨go33, 0, none⟩) x5_3.length co18) y1442 := (by rw [hw, Ny1442.out]; exact HP35.1); clear HP35; replace HO_6 := am (Kd.R_over' (v := (.slice (some ⟨go33, 0, none⟩) x5_3.length co18)) (ro HO_6.out) (Kd.R_typed HO_5.out) (by decide) hg); replace BK1427 := am (blk_grown (g := gb1427) (o := .cells #[.slice A0_0 l0_0.length c0_0] 26 (0, 0)) (bo BK1427.out) hg (Kd.R_ne HO_5.out BK1427.out (by decide))); replace HO_5 := am (hp_); replace HB := am ((by rw [hw]; exact below_set (HB.out) GB33.out : Below w.heap.size w w36)); clear hg hw hp_))
          (try simp only [← hl5_3])
          go_roundg k3
          case measure => have := HJ2.out; have := HK2.out; have := HK3.out; omega
          case rel => exact ⟨(y1442), H', ⟨by have := HJ2.out; have := HK2.out; have := HK3.out; omega⟩, ⟨by (try simp only [hl5_2]); (try simp only [hl5_3]); (with_reducible repeat (first | apply Kd.R_alloc | apply Kd.R_drewN | apply Kd.R_drew)); exact HO_5.out⟩, ⟨by (try simp only [hl5_2]); (try simp only [hl5_3]); (with_reducible repeat (first | apply Kd.R_alloc | apply Kd.R_drewN | apply Kd.R_drew)); exact HO_6.out⟩, ⟨by (try simp only [hl5_2]); (try simp only [hl5_3]); (with_reducible repeat (first | refine blk_drewN ?_ _ | refine blk_drew ?_ | refine blk_alloc ?_ _)); exact BK1427.out⟩, ⟨bw⟩⟩
      ·rw [if_neg c19] at H
       have c19b0 : decide (x25_2 < (y1430.length : Int)) = false := decide_eq_false c19
       (try simp only [hl5_2] at c19b0)
       clear c19
       obtain rfl := Option.some.inj H
       go_wp2
       go_ret
       exact ⟨_, re, ro HO_5.out, bw⟩


/-! ### spec_l6Apery: function 142 -/
mutual
def spec_l6Apery.l0 : Nat → Int → List Bool → List Int → Int → Option (List Int)
 | 0, _, _, _, _ => none
 | k + 1, x1, x5, x6, x7 => if x7 < x1 then (spec_l6Apery.l1 k x1 x5 x6 x7 x7) else (some x6)
def spec_l6Apery.l1 : Nat → Int → List Bool → List Int → Int → Int → Option (List Int)
 | 0, _, _, _, _, _ => none
 | k + 1, x1, x5, x6, x7, x8 => if 0 ≤ x8 then (if x8 < (x5.length : Int) then (if rdOf false x5 x8 = true then (if x6.length < 17592186044416 then (spec_l6Apery.l0 k x1 x5 (x6 ++ [x8]) (wrap64 (x7 + 1))) else (none)) else (spec_l6Apery.l1 k x1 x5 x6 x7 (wrap64 (x8 + x1)))) else (none)) else (none)
end
def spec_l6Apery.f (k : Nat) (l0_0 : List Int) (a1 : Int) : Option (List Int) := (spec_l3Table.f k l0_0 260).bind fun t1552 => (spec_l6Apery.l0 k a1 t1552 (([] : List Int)) 0)
set_option maxHeartbeats 8000000 in
set_option maxRecDepth 100000 in
theorem spec_l6Apery.calls (k : Nat) (A0_0 : Option Addr) (c0_0 : Nat) (l0_0 : List Int) (a1 : Int) (r : List Int) (w : World) (hr0_0 : Kd.C (Kd.int .i64) w A0_0 l0_0.length l0_0) (hc0_0 : l0_0.length ≤ c0_0) (h : spec_l6Apery.f k l0_0 a1 = some r) :
  Calls Try.prog 142 #[.agg #[.slice A0_0 l0_0.length c0_0], .int .i64 a1] w fun e w' => ∃ v0_ : Value, e = .returned (v0_) ∧ Kd.R (Kd.int .i64) 3 w' w.heap.size (fun _ => True) v0_ r ∧ Below w.heap.size w w' := by
 have hu26 := Try.underlying26
 have HR0_0 := am hr0_0
 have HC0_0 := am hc0_0
 clear hr0_0 hc0_0
 have HB := am (Below.refl w.heap.size w)
 have H : ((spec_l3Table.f k l0_0 260).bind fun t1552 => (spec_l6Apery.l0 k a1 t1552 (([] : List Int)) 0)) = some r := h
 clear h
 replace H := ga H; obtain ⟨t1552, A3, H⟩ := H
 obtain ⟨y1555, hy1555⟩ : ∃ y_ : List Int, y_ = (([] : List Int)) := ⟨_, rfl⟩
 replace H : (spec_l6Apery.l0 k a1 t1552 y1555 0) = some r := by first | (rw [hy1555]; with_reducible exact H) | (have H2_ := (Option.bind_some _ _).symm.trans H; rw [hy1555]; with_reducible exact H2_) | (have H2_ := (Option.bind_some _ _).symm.trans H; with_reducible exact H2_) | with_reducible exact H | (rw [hy1555]; exact H) | exact H
 have Ny1555 := am hy1555
 clear hy1555
 have H' := am H
 clear H
 go_enter Try.func142, Try.ntmps142
 go_wp2_with (first | ((with_reducible refine gate_dst (N := 2) rfl ?_); refine bx 2 #[.slice A0_0 l0_0.length c0_0] 26 ?_; intro gb1551 hg w4 hbox hb; have BK1551 := am (hbox); have GW1551 := am (gs hg : w.heap.size ≤ gb1551); have GE1551 := GW1551; replace HB := am (below_step bw hb); clear hb hbox hg; have hcz5_0 := bc BK1551 0 (.slice A0_0 l0_0.length c0_0); have hfz5_0 := blk_frozen BK1551.out 0) | ((with_reducible refine gate_callee (f := 215) rfl ?_); refine gl (some 11) Try.func215 #[.slice A0_0 l0_0.length c0_0, .int .i64 260] ?_; (with_reducible refine (spec_l3Table.calls k _ _ l0_0 260 t1552 _ ?side1 ?side2 A3.out).mono ?_); (case side1 => exact co (Kd.C_below HR0_0.out HB.out)); (case side2 => exact HC0_0.out); rintro e w6 ⟨v1553, rfl, ho0, hb⟩; refine ⟨_, rfl, ?_⟩; have HO1554 := am (Kd.R_lower ho0 (below_size bw)); replace BK1551 := kb BK1551 hb; replace HB := am (below_step bw hb); clear hb ho0) | ((with_reducible refine gate_dst (N := 12) rfl ?_); refine Kd.R_lit (Kd.int .i64) _ 3 ?hg (N := 12) ?hd (xs := ([] : List Int)) (inner := []) (ok := fun _ => True) (okp := fun _ => True) ?hr ?hp (fun _ hk => hk) trivial (Below.refl _ _) (Nat.le_refl _) (by simp) ?_; (case hd => rfl); (case hg => rfl); (case hr => first | (go_simp; done) | (go_simp; rfl)); (case hp => exact (Reps.none _ _)); intro v1556 w7 ho8 hb hg_ hnew_; clear hg_ hnew_; (first | rw [← Ny1555.out] at ho8 | (simp only [Int.reduceToNat] at ho8; rw [← Ny1555.out] at ho8)); replace HO1554 := am (Kd.R_below (ro HO1554.out) hb); have HO1557 := am (Kd.R_lower ho8 (below_size bw)); replace BK1551 := kb BK1551 hb; replace HB := am (below_step bw hb); clear hb ho8))
 go_loopg [6, 7] k (fun kq v6 v7 w' => ∃ (x6_1 : List Int) (x7_1 : Int), v7 = .int .i64 x7_1 ∧ Aside0 (spec_l6Apery.l0 kq a1 t1552 x6_1 x7_1 = some r) ∧ Aside0 (kq ≤ k) ∧ Aside0 (Kd.R Kd.bool 4 w' w.heap.size (fun _ => True) v1553 t1552) ∧ Aside0 (Kd.R (Kd.int .i64) 3 w' w.heap.size (fun _ => True) v6 x6_1) ∧ Aside0 (w'.heap[gb1551]? = some (.cells #[(.slice A0_0 l0_0.length c0_0)] 26 (0, 0))) ∧ Aside0 (Below w.heap.size w w'))
 case atStart => exact ⟨(y1555), (0), rr, H', ⟨Nat.le_refl _⟩, ⟨ro HO1554.out⟩, ⟨ro HO1557.out⟩, ⟨bo BK1551.out⟩, ⟨bw⟩⟩
 case round =>
  clear H'
  try clear hcz5_0; try clear hfz5_0
  obtain ⟨x6_1, x7_1, rfl, HA, HK1, HO_5, HO_6, BK1551, HB⟩ := hrel
  cases gk with
  | zero => exact absurd HA.out (by simp [spec_l6Apery.l0])
  | succ k1 =>
   have H := HA.out
   clear HA
   simp only [spec_l6Apery.l0] at H
   replace H := gi H; obtain ⟨c9b0, H⟩ | ⟨c9b0, H⟩ := H
   ·have H' := am H
    clear H
    go_wp2
    go_loopg [8] k1 (fun kq v8 w' => ∃ (x8_2 : Int), v8 = .int .i64 x8_2 ∧ Aside0 (spec_l6Apery.l1 kq a1 t1552 x6_1 x7_1 x8_2 = some r) ∧ Aside0 (kq ≤ k1) ∧ Aside0 (Kd.R Kd.bool 4 w' w.heap.size (fun _ => True) v1553 t1552) ∧ Aside0 (Kd.R (Kd.int .i64) 3 w' w.heap.size (fun _ => True) u6 x6_1) ∧ Aside0 (w'.heap[gb1551]? = some (.cells #[(.slice A0_0 l0_0.length c0_0)] 26 (0, 0))) ∧ Aside0 (Below w.heap.size w w'))
    case atStart => exact ⟨(x7_1), rr, H', ⟨Nat.le_refl _⟩, ⟨ro HO_5.out⟩, ⟨ro HO_6.out⟩, ⟨bo BK1551.out⟩, ⟨bw⟩⟩
    case round =>
     clear H'
     try clear c9b0; try clear hcz5_0; try clear hfz5_0
     obtain ⟨x8_2, rfl, HA, HK2, HO_5, HO_6, BK1551, HB⟩ := hrel
     cases gk with
     | zero => exact absurd HA.out (by simp [spec_l6Apery.l1])
     | succ k2 =>
      have H := HA.out
      clear HA
      simp only [spec_l6Apery.l1] at H
      replace H := gd H; obtain ⟨c10b0, H⟩ := H
      replace H := gd H; obtain ⟨c11b0, H⟩ := H
      obtain ⟨bq12, hbq12⟩ : ∃ b_ : Bool, b_ = (rdOf false t1552 x8_2) := ⟨_, rfl⟩
      replace H : (if bq12 = true then (if x6_1.length < 17592186044416 then (spec_l6Apery.l0 k2 a1 t1552 (x6_1 ++ [x8_2]) (wrap64 (x7_1 + 1))) else (none)) else (spec_l6Apery.l1 k2 a1 t1552 x6_1 x7_1 (wrap64 (x8_2 + a1)))) = some r := by rw [← hbq12] at H; exact H
      have Nbq12 := am hbq12
      clear hbq12
      replace H := gb H; obtain ⟨rfl, H⟩ | ⟨rfl, H⟩ := H
      ·by_cases c14 : x6_1.length < 17592186044416
       rotate_left
       ·rw [if_neg c14] at H
        exact absurd H (by simp)
       rw [if_pos c14] at H
       have LMc14 := am c14
       clear c14
       obtain ⟨y1559, hy1559⟩ : ∃ y_ : List Int, y_ = (x6_1 ++ [x8_2]) := ⟨_, rfl⟩
       replace H : (spec_l6Apery.l0 k2 a1 t1552 y1559 (wrap64 (x7_1 + 1))) = some r := by first | (rw [hy1559]; with_reducible exact H) | (have H2_ := (Option.bind_some _ _).symm.trans H; rw [hy1559]; with_reducible exact H2_) | (have H2_ := (Option.bind_some _ _).symm.trans H; with_reducible exact H2_) | with_reducible exact H | (rw [hy1559]; exact H) | exact H
       have Ny1559 := am hy1559
       clear hy1559
       have H' := am H
       clear H
       obtain ⟨Ao15, co15, eo15⟩ := Kd.R_slice HO_5.out
       subst eo15
       obtain ⟨⟨ad1558, e1558, hx1558_0⟩, p1558, q1558⟩ := pq (Kd.at_bool (Kd.R_reads' HO_5.out).2.2 x8_2)
       (try rw [← Nbq12.out] at hx1558_0)
       cases e1558
       go_wp2_with (first | ((with_reducible refine gate_builtin (b := .append) (xs := #[.tmp 27, .tmp 29]) rfl ?_); at_builtin; refine Kd.R_append (Kd.int .i64) (w0 := w) w.heap.size rfl (.tmp 27) (.tmp 29) 24 3 (.int .i64 0) 8 rfl Try.underlying24 info3 rfl (by decide) (by omega) u6 x6_1 x8_2 [.int .i64 x8_2] (fun _ => True) (fun _ => False) rfl rfl ?aP (fun _ hk => hk.elim) ?aF ?aO ?aB ?aS ?aL ?_; (case aP => exact rfl); (case aB => exact bw); (case aF => exact (fun _ _ => trivial)); (case aO => exact (ro HO_6.out)); (case aS => exact (below_size bw)); (case aL => have := LMc14.out; omega); intro v1560 w16 ho hb hg hat; rw [← Ny1559.out] at ho; replace HO_5 := am (Kd.R_over' (ro HO_5.out) (Kd.R_typed (ro HO_6.out)) (by decide) hg); replace BK1551 := am (blk_grown (g := gb1551) (o := .cells #[.slice A0_0 l0_0.length c0_0] 26 (0, 0)) (bo BK1551.out) hg (Kd.R_ne HO_6.out BK1551.out (by decide))); replace HB := am (hb); have HO1561 := am (ho); clear HO_6 ho hb hg hat))
       go_roundg k2
       case measure => have := HK1.out; have := HK2.out; omega
       case rel => exact ⟨(y1559), (wrap64 (x7_1 + 1)), rr, H', ⟨by have := HK1.out; have := HK2.out; omega⟩, ⟨ro HO_5.out⟩, ⟨ro HO1561.out⟩, ⟨bo BK1551.out⟩, ⟨bw⟩⟩
      ·have H' := am H
       clear H
       obtain ⟨Ao17, co17, eo17⟩ := Kd.R_slice HO_5.out
       subst eo17
       obtain ⟨⟨ad1558, e1558, hx1558_0⟩, p1558, q1558⟩ := pq (Kd.at_bool (Kd.R_reads' HO_5.out).2.2 x8_2)
       (try rw [← Nbq12.out] at hx1558_0)
       cases e1558
       go_wp2
       go_roundg k2
       case measure => have := HK1.out; have := HK2.out; omega
       case rel => exact ⟨(wrap64 (x8_2 + a1)), rr, H', ⟨by have := HK1.out; have := HK2.out; omega⟩, ⟨ro HO_5.out⟩, ⟨ro HO_6.out⟩, ⟨bo BK1551.out⟩, ⟨bw⟩⟩
   ·obtain rfl := Option.some.inj H
    go_wp2
    go_ret
    exact ⟨_, re, ro HO_6.out, bw⟩


/-! ### spec_AperySet: function 211 -/
def spec_AperySet.f (k : Nat) (l0_0 : List Int) (a1 : Int) : Option (List Int) := (spec_Contains.f k l0_0 a1).bind fun t1563 => (if t1563 = true then ((spec_l1In.f a1 1 60).bind fun t1564 => (if t1564 = true then ((spec_l6Apery.f k l0_0 a1).bind fun t1565 => (some t1565)) else (some (([] : List Int))))) else (some (([] : List Int))))
set_option maxHeartbeats 8000000 in
set_option maxRecDepth 100000 in
theorem spec_AperySet.calls (k : Nat) (A0_0 : Option Addr) (c0_0 : Nat) (l0_0 : List Int) (a1 : Int) (r : List Int) (w : World) (hr0_0 : Kd.C (Kd.int .i64) w A0_0 l0_0.length l0_0) (hc0_0 : l0_0.length ≤ c0_0) (h : spec_AperySet.f k l0_0 a1 = some r) :
  Calls Try.prog 211 #[.agg #[.slice A0_0 l0_0.length c0_0], .int .i64 a1] w fun e w' => ∃ v0_ : Value, e = .returned (v0_) ∧ Kd.R (Kd.int .i64) 3 w' w.heap.size (fun _ => True) v0_ r ∧ Below w.heap.size w w' := by
 have hu26 := Try.underlying26
 have HR0_0 := am hr0_0
 have HC0_0 := am hc0_0
 clear hr0_0 hc0_0
 have HB := am (Below.refl w.heap.size w)
 have H : ((spec_Contains.f k l0_0 a1).bind fun t1563 => (if t1563 = true then ((spec_l1In.f a1 1 60).bind fun t1564 => (if t1564 = true then ((spec_l6Apery.f k l0_0 a1).bind fun t1565 => (some t1565)) else (some (([] : List Int))))) else (some (([] : List Int))))) = some r := h
 clear h
 replace H := ga H; obtain ⟨t1563, A3, H⟩ := H
 replace H := gb H; obtain ⟨rfl, H⟩ | ⟨rfl, H⟩ := H
 ·replace H := ga H; obtain ⟨t1564, A5, H⟩ := H
  replace H := gb H; obtain ⟨rfl, H⟩ | ⟨rfl, H⟩ := H
  ·replace H := ga H; obtain ⟨t1565, A7, H⟩ := H
   obtain rfl := Option.some.inj H
   go_enter Try.func211, Try.ntmps211
   go_wp2_with (first | ((with_reducible refine gate_dst (N := 2) rfl ?_); refine bx 2 #[.slice A0_0 l0_0.length c0_0] 26 ?_; intro gb1562 hg w8 hbox hb; have BK1562 := am (hbox); have GW1562 := am (gs hg : w.heap.size ≤ gb1562); have GE1562 := GW1562; replace HB := am (below_step bw hb); clear hb hbox hg; have hcz9_0 := bc BK1562 0 (.slice A0_0 l0_0.length c0_0); have hfz9_0 := blk_frozen BK1562.out 0) | ((with_reducible refine gate_callee (f := 33) rfl ?_); refine gl (some 7) Try.func33 #[.agg #[.slice A0_0 l0_0.length c0_0], .int .i64 a1] ?_; (with_reducible refine (spec_Contains.calls k _ _ l0_0 a1 true _ ?side1 ?side2 A3.out).mono ?_); (case side1 => exact co (Kd.C_below HR0_0.out HB.out)); (case side2 => exact HC0_0.out); rintro e w10 ⟨rfl, hb⟩; refine ⟨_, rfl, ?_⟩; replace BK1562 := kb BK1562 hb; replace HB := am (below_step bw hb); clear hb) | (go_at_call 140; (with_reducible refine (spec_l1In.calls a1 1 60 true _ A5.out).mono ?_); rintro e w' ⟨rfl, ⟨nd, rfl⟩⟩; have hcz11_0 := bc BK1562 0 (.slice A0_0 l0_0.length c0_0); have hfz11_0 := blk_frozen BK1562.out 0) | ((with_reducible refine gate_callee (f := 142) rfl ?_); refine gl (some 17) Try.func142 #[.agg #[.slice A0_0 l0_0.length c0_0], .int .i64 a1] ?_; (with_reducible refine (spec_l6Apery.calls k _ _ l0_0 a1 t1565 _ ?side1 ?side2 A7.out).mono ?_); (case side1 => exact co (Kd.C_below HR0_0.out bw)); (case side2 => exact HC0_0.out); rintro e w12 ⟨v1566, rfl, ho0, hb⟩; refine ⟨_, rfl, ?_⟩; have HO1567 := am (Kd.R_lower ho0 (below_size bw)); replace BK1562 := kb BK1562 hb; replace HB := am (below_step bw hb); clear hb ho0))
   go_ret
   exact ⟨_, re, ro HO1567.out, bw⟩
  ·obtain ⟨y1568, hy1568⟩ : ∃ y_ : List Int, y_ = (([] : List Int)) := ⟨_, rfl⟩
   replace H : (some y1568) = some r := by first | (rw [hy1568]; with_reducible exact H) | (have H2_ := (Option.bind_some _ _).symm.trans H; rw [hy1568]; with_reducible exact H2_) | (have H2_ := (Option.bind_some _ _).symm.trans H; with_reducible exact H2_) | with_reducible exact H | (rw [hy1568]; exact H) | exact H
   have Ny1568 := am hy1568
   clear hy1568
   obtain rfl := Option.some.inj H
   go_enter Try.func211, Try.ntmps211
   go_wp2_with (first | ((with_reducible refine gate_dst (N := 2) rfl ?_); refine bx 2 #[.slice A0_0 l0_0.length c0_0] 26 ?_; intro gb1562 hg w13 hbox hb; have BK1562 := am (hbox); have GW1562 := am (gs hg : w.heap.size ≤ gb1562); have GE1562 := GW1562; replace HB := am (below_step bw hb); clear hb hbox hg; have hcz14_0 := bc BK1562 0 (.slice A0_0 l0_0.length c0_0); have hfz14_0 := blk_frozen BK1562.out 0) | ((with_reducible refine gate_callee (f := 33) rfl ?_); refine gl (some 7) Try.func33 #[.agg #[.slice A0_0 l0_0.length c0_0], .int .i64 a1] ?_; (with_reducible refine (spec_Contains.calls k _ _ l0_0 a1 true _ ?side1 ?side2 A3.out).mono ?_); (case side1 => exact co (Kd.C_below HR0_0.out HB.out)); (case side2 => exact HC0_0.out); rintro e w15 ⟨rfl, hb⟩; refine ⟨_, rfl, ?_⟩; replace BK1562 := kb BK1562 hb; replace HB := am (below_step bw hb); clear hb) | (go_at_call 140; (with_reducible refine (spec_l1In.calls a1 1 60 false _ A5.out).mono ?_); rintro e w' ⟨rfl, ⟨nd, rfl⟩⟩) | ((with_reducible refine gate_dst (N := 14) rfl ?_); refine Kd.R_lit (Kd.int .i64) _ 3 ?hg (N := 14) ?hd (xs := ([] : List Int)) (inner := []) (ok := fun _ => True) (okp := fun _ => True) ?hr ?hp (fun _ hk => hk) trivial (Below.refl _ _) (Nat.le_refl _) (by simp) ?_; (case hd => rfl); (case hg => rfl); (case hr => first | (go_simp; done) | (go_simp; rfl)); (case hp => exact (Reps.none _ _)); intro v1569 w16 ho17 hb hg_ hnew_; clear hg_ hnew_; (first | rw [← Ny1568.out] at ho17 | (simp only [Int.reduceToNat] at ho17; rw [← Ny1568.out] at ho17)); have HO1570 := am (Kd.R_lower ho17 (below_size bw)); replace BK1562 := kb BK1562 hb; replace HB := am (below_step bw hb); clear hb ho17))
   go_ret
   exact ⟨_, re, ro HO1570.out, bw⟩
 ·obtain ⟨y1571, hy1571⟩ : ∃ y_ : List Int, y_ = (([] : List Int)) := ⟨_, rfl⟩
  replace H : (some y1571) = some r := by first | (rw [hy1571]; with_reducible exact H) | (have H2_ := (Option.bind_some _ _).symm.trans H; rw [hy1571]; with_reducible exact H2_) | (have H2_ := (Option.bind_some _ _).symm.trans H; with_reducible exact H2_) | with_reducible exact H | (rw [hy1571]; exact H) | exact H
  have Ny1571 := am hy1571
  clear hy1571
  obtain rfl := Option.some.inj H
  go_enter Try.func211, Try.ntmps211
  go_wp2_with (first | ((with_reducible refine gate_dst (N := 2) rfl ?_); refine bx 2 #[.slice A0_0 l0_0.length c0_0] 26 ?_; intro gb1562 hg w18 hbox hb; have BK1562 := am (hbox); have GW1562 := am (gs hg : w.heap.size ≤ gb1562); have GE1562 := GW1562; replace HB := am (below_step bw hb); clear hb hbox hg; have hcz19_0 := bc BK1562 0 (.slice A0_0 l0_0.length c0_0); have hfz19_0 := blk_frozen BK1562.out 0) | ((with_reducible refine gate_callee (f := 33) rfl ?_); refine gl (some 7) Try.func33 #[.agg #[.slice A0_0 l0_0.length c0_0], .int .i64 a1] ?_; (with_reducible refine (spec_Contains.calls k _ _ l0_0 a1 false _ ?side1 ?side2 A3.out).mono ?_); (case side1 => exact co (Kd.C_below HR0_0.out HB.out)); (case side2 => exact HC0_0.out); rintro e w20 ⟨rfl, hb⟩; refine ⟨_, rfl, ?_⟩; replace BK1562 := kb BK1562 hb; replace HB := am (below_step bw hb); clear hb) | ((with_reducible refine gate_dst (N := 14) rfl ?_); refine Kd.R_lit (Kd.int .i64) _ 3 ?hg (N := 14) ?hd (xs := ([] : List Int)) (inner := []) (ok := fun _ => True) (okp := fun _ => True) ?hr ?hp (fun _ hk => hk) trivial (Below.refl _ _) (Nat.le_refl _) (by simp) ?_; (case hd => rfl); (case hg => rfl); (case hr => first | (go_simp; done) | (go_simp; rfl)); (case hp => exact (Reps.none _ _)); intro v1572 w21 ho22 hb hg_ hnew_; clear hg_ hnew_; (first | rw [← Ny1571.out] at ho22 | (simp only [Int.reduceToNat] at ho22; rw [← Ny1571.out] at ho22)); have HO1573 := am (Kd.R_lower ho22 (below_size bw)); replace BK1562 := kb BK1562 hb; replace HB := am (below_step bw hb); clear hb ho22))
  go_ret
  exact ⟨_, re, ro HO1573.out, bw⟩

end Go.Proofs.Ytkfplkdchkmgbaa.C
