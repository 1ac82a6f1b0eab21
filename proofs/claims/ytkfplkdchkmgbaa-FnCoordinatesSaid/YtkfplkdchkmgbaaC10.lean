/- Contracts of functions of the program: impl_FromApery, impl_FromCoordinates. -/
import Derived.Test.YtkfplkdchkmgbaaC0
import Derived.Test.YtkfplkdchkmgbaaC6
import Derived.Test.YtkfplkdchkmgbaaC7
import Derived.Test.YtkfplkdchkmgbaaC8
import Derived.Test.YtkfplkdchkmgbaaC9
namespace Go.Proofs.Ytkfplkdchkmgbaa.C
open Go.RowKit Go.Proofs.YtkfplkdchkmgbaaW.PrintWords Go.Proofs.YtkfplkdchkmgbaaW.PrintLast Go.Proofs.YtkfplkdchkmgbaaW.PrintMore
attribute [local go_sem] max2_int min2_int max_two min_two max_three min_three max_four min_four
set_option linter.unusedVariables false
set_option linter.unusedSimpArgs false

/-! ### impl_FromApery: function 136 -/
mutual
def impl_FromApery.j0 : Nat → List Int → Int → Bool → Option (List Int × Bool)
 | 0, _, _, _ => none
 | k + 1, x0, x4, x21 => if x21 = true then (some (([] : List Int), false)) else (impl_FromApery.l0 k x0 x4 (([] : List Int)) x0 (x0.length : Int) 0)
def impl_FromApery.l0 : Nat → List Int → Int → List Int → List Int → Int → Int → Option (List Int × Bool)
 | 0, _, _, _, _, _, _ => none
 | k + 1, x0, x4, x5, x24, x25, x26 => if x26 < x25 then (if 0 ≤ x26 then (if x26 < (x24.length : Int) then (if (rd x24 x26) < 0 then (impl_FromApery.j2 k x0 x4 x5 x26 (rd x24 x26) x24 x25 x26 true) else (if x4 = 0 then (none) else (if (Int.tmod (rd x24 x26) x4) = x26 then (impl_FromApery.j2 k x0 x4 x5 x26 (rd x24 x26) x24 x25 x26 (decide ((wrap64 ((rd x24 x26) - x4)) ≥ 200))) else (impl_FromApery.j2 k x0 x4 x5 x26 (rd x24 x26) x24 x25 x26 true)))) else (none)) else (none)) else ((impl_SortList.f x5).bind fun t709 => ((impl_FromGaps.f k t709).bind fun bt712 => (if bt712.2 = true then ((impl_AperySet.f k bt712.1 x4).bind fun t717 => ((slices_Equal_int_int.f k t717 x0).bind fun t720 => (if t720 = true then (some (bt712.1, true)) else (some (([] : List Int), false))))) else (some (([] : List Int), false)))))
def impl_FromApery.j2 : Nat → List Int → Int → List Int → Int → Int → List Int → Int → Int → Bool → Option (List Int × Bool)
 | 0, _, _, _, _, _, _, _, _, _ => none
 | k + 1, x0, x4, x5, x6, x7, x24, x25, x26, x45 => if x45 = true then (some (([] : List Int), false)) else (impl_FromApery.l1 k x0 x4 x5 x7 x6 x24 x25 x26)
def impl_FromApery.l1 : Nat → List Int → Int → List Int → Int → Int → List Int → Int → Int → Option (List Int × Bool)
 | 0, _, _, _, _, _, _, _, _ => none
 | k + 1, x0, x4, x5, x7, x8, x24, x25, x26 => if x8 < x7 then (if x5.length < 17592186044416 then (impl_FromApery.l1 k x0 x4 (x5 ++ [x8]) x7 (wrap64 (x8 + x4)) x24 x25 x26) else (none)) else (impl_FromApery.l0 k x0 x4 x5 x24 x25 (wrap64 (x26 + 1)))
end
def impl_FromApery.f (k : Nat) (l0 : List Int) : Option (List Int × Bool) := (impl_within.f (l0.length : Int) 1 60).bind fun t700 => (if t700 = true then (if 0 < (l0.length : Int) then (impl_FromApery.j0 k l0 (l0.length : Int) ((rd l0 0) != 0)) else (none)) else (impl_FromApery.j0 k l0 (l0.length : Int) true))
set_option maxHeartbeats 8000000 in
set_option maxRecDepth 100000 in
theorem impl_FromApery.calls (k : Nat) (A0 : Option Addr) (c0 : Nat) (l0 : List Int) (r1 : List Int) (r2 : Bool) (w : World) (hr0 : Kd.C (Kd.int .i64) w A0 l0.length l0) (hc0 : l0.length ≤ c0) (h : impl_FromApery.f k l0 = some (r1, r2)) :
  Calls Try.prog 136 #[.slice A0 l0.length c0] w fun e w' => ∃ v0_ : Value, e = .returned (.tuple #[.agg #[v0_], .bool r2]) ∧ Kd.R (Kd.int .i64) 3 w' w.heap.size (fun _ => True) v0_ r1 ∧ Below w.heap.size w w' := by
 have hu26 := Try.underlying26
 have HR0 := am hr0
 have HC0 := am hc0
 clear hr0 hc0
 have HB := am (Below.refl w.heap.size w)
 have H : ((impl_within.f (l0.length : Int) 1 60).bind fun t700 => (if t700 = true then (if 0 < (l0.length : Int) then (impl_FromApery.j0 k l0 (l0.length : Int) ((rd l0 0) != 0)) else (none)) else (impl_FromApery.j0 k l0 (l0.length : Int) true))) = some (r1, r2) := h
 clear h
 have HC2 := am H
 clear H
 go_enter Try.func136, Try.ntmps136
 go_upto_region 2 with (first | ((with_reducible refine gate_dst (N := 2) rfl ?_); refine bx 2 #[.slice none 0 0] 26 ?_; intro gb699 hg w3 hbox hb; have BK699 := am (hbox); have GW699 := am (gs hg : w.heap.size ≤ gb699); have GE699 := GW699; replace HB := am (below_step bw hb); clear hb hbox hg))
 (try simp only [Act.put, List.setIfInBounds_toArray, List.set_cons_zero, List.set_cons_succ])
 go_cut [21] (fun v21 wc => ∃ (kq : Nat) (x21_1 : Bool), v21 = .bool x21_1 ∧ Aside0 (impl_FromApery.j0 kq l0 (l0.length : Int) x21_1 = some (r1, r2)) ∧ Aside0 (kq ≤ k) ∧ Aside0 (wc.heap[gb699]? = some (.cells #[(.slice none 0 0)] 26 (0, 0))) ∧ Aside0 (Below w.heap.size w wc))
 case first =>
  have H := HC2.out
  clear HC2
  replace H := ga H; obtain ⟨t700, A4, H⟩ := H
  replace H := gb H; obtain ⟨rfl, H⟩ | ⟨rfl, H⟩ := H
  ·replace H := gp H; obtain ⟨c6, H⟩ := H
   have c6b0 : decide (0 < (l0.length : Int)) = true := decide_eq_true c6
   have c6b1 : decide (0 < l0.length) = true := decide_eq_true (by omega)
   clear c6
   (first | rw [c6b0] | (simp only [i64_w, i32_w]; rw [c6b0]) | skip)
   have H' := am H
   clear H
   go_wp2_with (first | ((with_reducible refine gate_callee (f := 139) rfl ?_); refine gl (some 14) Try.func139 #[.int .i64 (l0.length : Int), .int .i64 1, .int .i64 60] ?_; (with_reducible refine (impl_within.calls (l0.length : Int) 1 60 true _ A4.out).mono ?_); rintro e w' ⟨rfl, ⟨nd, rfl⟩⟩; refine ⟨_, rfl, ?_⟩; have p701 : 0 ≤ (0 : Int) := (by omega); have q701 : 0 < (l0.length : Int) := of_decide_eq_true (by first | (with_reducible assumption) | assumption); obtain ⟨ad701, e701, hx701_0⟩ := Kd.at_int HR0.out 0 p701 q701; cases e701; have qi701 : (0 < l0.length) = True := eq_true (by omega); (try rw [show ((0 : Int)).toNat = 0 from rfl] at hx701_0); (try rw [Addr.add_zero'] at hx701_0); replace hx701_0 := hw HB hx701_0; replace p701 := eq_true p701; replace q701 := eq_true q701))
   go_meet
   case rel => exact ⟨_, (((rd l0 0) != 0)), rr, H', ⟨om⟩, ⟨bo BK699.out⟩, ⟨bw⟩⟩
  have H' := am H
  clear H
  go_wp2_with (first | ((with_reducible refine gate_callee (f := 139) rfl ?_); refine gl (some 14) Try.func139 #[.int .i64 (l0.length : Int), .int .i64 1, .int .i64 60] ?_; (with_reducible refine (impl_within.calls (l0.length : Int) 1 60 false _ A4.out).mono ?_); rintro e w' ⟨rfl, ⟨nd, rfl⟩⟩; refine ⟨_, rfl, ?_⟩))
  go_meet
  case rel => exact ⟨_, (true), rr, H', ⟨om⟩, ⟨bo BK699.out⟩, ⟨bw⟩⟩
 case rest =>
  clear HC2
  try clear c6; try clear c6b0; try clear c6b1; try clear hx701_0; try clear p701; try clear q701
  obtain ⟨kq, x21_1, rfl, HA, HJ1, BK699, HB⟩ := hcut
  cases kq with
  | zero => exact absurd HA.out (by simp [impl_FromApery.j0])
  | succ kj1 =>
   have H := HA.out
   clear HA
   simp only [impl_FromApery.j0] at H
   replace H := gb H; obtain ⟨rfl, H⟩ | ⟨rfl, H⟩ := H
   ·simp only [Option.some.injEq, Prod.mk.injEq] at H
    obtain ⟨rfl, rfl⟩ := H
    have hcz8_0 := bc BK699 0 (.slice none 0 0)
    have hfz8_0 := blk_frozen BK699.out 0
    go_wp2
    refine bodyPost_ret (results_ct rfl _ _ gb699 26 #[.slice none 0 0] (0, 0) _ rfl (by (with_reducible repeat (first | refine blk_drewN ?_ _ | refine blk_drew ?_ | refine blk_alloc ?_ _)); refine blk_put (cs := #[.slice none 0 0]) ?_ 0 _ rfl; (with_reducible repeat (first | refine blk_drewN ?_ _ | refine blk_drew ?_ | refine blk_alloc ?_ _)); exact BK699.out) Try.underlying26 rfl (by kernel_rfl)) rfl ?_
    exact ⟨_, re, by first | exact Kd.R_nil _ _ _ _ _ | exact Kd.N_nil _ _ _ _ _ | exact Kd.V_nil _ _ _ _ _ | exact Kd.Q_nil _ _ _ _ _ | exact Kd.S_nil _ _ _ _ _, bw⟩
   obtain ⟨y702, hy702⟩ : ∃ y_ : List Int, y_ = (([] : List Int)) := ⟨_, rfl⟩
   replace H : (impl_FromApery.l0 kj1 l0 (l0.length : Int) y702 l0 (l0.length : Int) 0) = some (r1, r2) := by first | (rw [hy702]; with_reducible first | exact H | exact bs H) | (with_reducible first | exact bs H | exact H) | (rw [hy702]; exact H) | exact H
   have Ny702 := am hy702
   clear hy702
   have H' := am H
   clear H
   go_wp2_with (first | ((with_reducible refine gate_dst (N := 23) rfl ?_); refine Kd.R_lit (Kd.int .i64) _ 3 ?hg (N := 23) ?hd (xs := ([] : List Int)) (inner := []) (ok := fun _ => True) (okp := fun _ => True) ?hr ?hp (fun _ hk => hk) trivial (Below.refl _ _) (Nat.le_refl _) (by simp) ?_; (case hd => rfl); (case hg => rfl); (case hr => first | (go_simp; done) | (go_simp; rfl)); (case hp => exact (Reps.none _ _)); intro v703 w9 ho10 hb hg_ hnew_; clear hg_ hnew_; (first | rw [← Ny702.out] at ho10 | (simp only [Int.reduceToNat] at ho10; rw [← Ny702.out] at ho10)); have HO704 := am (Kd.R_lower ho10 (below_size bw)); replace BK699 := kb BK699 hb; replace HB := am (below_step bw hb); clear hb ho10))
   go_loopg [5, 26] kj1 (fun kq v5 v26 w' => ∃ (x5_2 : List Int) (x26_2 : Int), v26 = .int .i64 x26_2 ∧ Aside0 (impl_FromApery.l0 kq l0 (l0.length : Int) x5_2 l0 (l0.length : Int) x26_2 = some (r1, r2)) ∧ Aside0 (kq ≤ kj1) ∧ Aside0 (Kd.R (Kd.int .i64) 3 w' w.heap.size (fun _ => True) v5 x5_2) ∧ Aside0 (w'.heap[gb699]? = some (.cells #[(.slice none 0 0)] 26 (0, 0))) ∧ Aside0 (Below w.heap.size w w'))
   case atStart => exact ⟨(y702), (0), rr, H', ⟨Nat.le_refl _⟩, ⟨ro HO704.out⟩, ⟨bo BK699.out⟩, ⟨bw⟩⟩
   case round =>
    clear H'
    try clear c6; try clear c6b0; try clear c6b1; try clear hcz8_0; try clear hfz8_0; try clear hx701_0; try clear p701; try clear q701
    obtain ⟨x5_2, x26_2, rfl, HA, HK2, HO_5, BK699, HB⟩ := hrel
    cases gk with
    | zero => exact absurd HA.out (by simp [impl_FromApery.l0])
    | succ k2 =>
     have H := HA.out
     clear HA
     simp only [impl_FromApery.l0] at H
     replace H := gi H; obtain ⟨c11b0, H⟩ | ⟨c11b0, H⟩ := H
     ·replace H := gd H; obtain ⟨c12b0, H⟩ := H
      replace H := gd H; obtain ⟨c13b0, H⟩ := H
      have HC14 := am H
      clear H
      obtain ⟨⟨ad705, e705, hx705_0⟩, p705, q705⟩ := pq (Kd.at_int HR0.out x26_2)
      cases e705
      replace hx705_0 := hw HB hx705_0
      go_upto_region 8 with (fail)
      go_cut [45] (fun v45 wc => ∃ (kq : Nat) (x45_13 : Bool), v45 = .bool x45_13 ∧ Aside0 (impl_FromApery.j2 kq l0 (l0.length : Int) x5_2 x26_2 (rd l0 x26_2) l0 (l0.length : Int) x26_2 x45_13 = some (r1, r2)) ∧ Aside0 (kq ≤ k2) ∧ Aside0 (Kd.R (Kd.int .i64) 3 wc w.heap.size (fun _ => True) u5 x5_2) ∧ Aside0 (wc.heap[gb699]? = some (.cells #[(.slice none 0 0)] 26 (0, 0))) ∧ Aside0 (Below w.heap.size w wc))
      case first =>
       have H := HC14.out
       clear HC14
       replace H := gi H; obtain ⟨c15b0, H⟩ | ⟨c15b0, H⟩ := H
       ·(first | rw [c15b0] | (simp only [i64_w, i32_w]; rw [c15b0]) | skip)
        have H' := am H
        clear H
        go_wp2
        any_goals (first | (exfalso; have h_ := of_decide_eq_true c6b1; contradiction) | skip)
        go_meet
        case rel => exact ⟨_, (true), rr, H', ⟨by have := HJ1.out; have := HK2.out; first | omega | exact Nat.le_refl _⟩, ⟨ro HO_5.out⟩, ⟨bo BK699.out⟩, ⟨bw⟩⟩
       ·(first | rw [c15b0] | (simp only [i64_w, i32_w]; rw [c15b0]) | skip)
        by_cases c16 : (l0.length : Int) = 0
        ·rw [if_pos c16] at H
         exact absurd H (by simp)
        rw [if_neg c16] at H
        have c16b0 : ((l0.length : Int) == 0) = false := beq_eq_false_iff_ne.mpr c16
        have c16b1 : ((l0.length : Int) != 0) = true := bne_iff_ne.mpr c16
        have c16b2 : ¬ (l0 = []) := fun h_ => c16 (by rw [h_]; rfl)
        by_cases c17 : (Int.tmod (rd l0 x26_2) (l0.length : Int)) = x26_2
        ·rw [if_pos c17] at H
         have c17b0 : ((Int.tmod (rd l0 x26_2) (l0.length : Int)) == x26_2) = true := beq_iff_eq.mpr c17
         have c17b1 : ((Int.tmod (rd l0 x26_2) (l0.length : Int)) != x26_2) = false := bne_eq_false_iff_eq.mpr c17
         clear c17
         have H' := am H
         clear H
         go_wp2
         go_meet
         case rel => exact ⟨_, (decide ((wrap64 ((rd l0 x26_2) - (l0.length : Int))) ≥ 200)), rr, H', ⟨by have := HJ1.out; have := HK2.out; first | omega | exact Nat.le_refl _⟩, ⟨ro HO_5.out⟩, ⟨bo BK699.out⟩, ⟨bw⟩⟩
        rw [if_neg c17] at H
        have c17b0 : ((Int.tmod (rd l0 x26_2) (l0.length : Int)) == x26_2) = false := beq_eq_false_iff_ne.mpr c17
        have c17b1 : ((Int.tmod (rd l0 x26_2) (l0.length : Int)) != x26_2) = true := bne_iff_ne.mpr c17
        have H' := am H
        clear H
        go_wp2
        go_meet
        case rel => exact ⟨_, (true), rr, H', ⟨by have := HJ1.out; have := HK2.out; first | omega | exact Nat.le_refl _⟩, ⟨ro HO_5.out⟩, ⟨bo BK699.out⟩, ⟨bw⟩⟩
      case rest =>
       clear HC14
       try clear c6; try clear c6b0; try clear c6b1; try clear c11b0; try clear c12b0; try clear c13b0; try clear c15b0; try clear c16; try clear c16b0; try clear c16b1; try clear c16b2; try clear c17; try clear c17b0; try clear c17b1; try clear hcz8_0; try clear hfz8_0; try clear hx701_0; try clear hx705_0; try clear p701; try clear p705; try clear q701; try clear q705
       obtain ⟨kq, x45_13, rfl, HA, HJ13, HO_5, BK699, HB⟩ := hcut
       cases kq with
       | zero => exact absurd HA.out (by simp [impl_FromApery.j2])
       | succ kj13 =>
        have H := HA.out
        clear HA
        simp only [impl_FromApery.j2] at H
        replace H := gb H; obtain ⟨rfl, H⟩ | ⟨rfl, H⟩ := H
        ·simp only [Option.some.injEq, Prod.mk.injEq] at H
         obtain ⟨rfl, rfl⟩ := H
         have hcz19_0 := bc BK699 0 (.slice none 0 0)
         have hfz19_0 := blk_frozen BK699.out 0
         go_wp2
         refine bodyPost_ret (results_ct rfl _ _ gb699 26 #[.slice none 0 0] (0, 0) _ rfl (by (with_reducible repeat (first | refine blk_drewN ?_ _ | refine blk_drew ?_ | refine blk_alloc ?_ _)); refine blk_put (cs := #[.slice none 0 0]) ?_ 0 _ rfl; (with_reducible repeat (first | refine blk_drewN ?_ _ | refine blk_drew ?_ | refine blk_alloc ?_ _)); exact BK699.out) Try.underlying26 rfl (by kernel_rfl)) rfl ?_
         exact ⟨_, re, by first | exact Kd.R_nil _ _ _ _ _ | exact Kd.N_nil _ _ _ _ _ | exact Kd.V_nil _ _ _ _ _ | exact Kd.Q_nil _ _ _ _ _ | exact Kd.S_nil _ _ _ _ _, bw⟩
        have H' := am H
        clear H
        go_wp2
        go_loopg [5, 8] kj13 (fun kq v5 v8 w' => ∃ (x5_4 : List Int) (x8_4 : Int), v8 = .int .i64 x8_4 ∧ Aside0 (impl_FromApery.l1 kq l0 (l0.length : Int) x5_4 (rd l0 x26_2) x8_4 l0 (l0.length : Int) x26_2 = some (r1, r2)) ∧ Aside0 (kq ≤ kj13) ∧ Aside0 (Kd.R (Kd.int .i64) 3 w' w.heap.size (fun _ => True) v5 x5_4) ∧ Aside0 (w'.heap[gb699]? = some (.cells #[(.slice none 0 0)] 26 (0, 0))) ∧ Aside0 (Below w.heap.size w w'))
        case atStart => exact ⟨(x5_2), (x26_2), rr, H', ⟨Nat.le_refl _⟩, ⟨ro HO_5.out⟩, ⟨bo BK699.out⟩, ⟨bw⟩⟩
        case round =>
         clear H'
         try clear c6; try clear c6b0; try clear c6b1; try clear c11b0; try clear c12b0; try clear c13b0; try clear c15b0; try clear c16; try clear c16b0; try clear c16b1; try clear c16b2; try clear c17; try clear c17b0; try clear c17b1; try clear hcz19_0; try clear hcz8_0; try clear hfz19_0; try clear hfz8_0; try clear hx701_0; try clear hx705_0; try clear p701; try clear p705; try clear q701; try clear q705
         obtain ⟨x5_4, x8_4, rfl, HA, HK4, HO_5, BK699, HB⟩ := hrel
         cases gk with
         | zero => exact absurd HA.out (by simp [impl_FromApery.l1])
         | succ k4 =>
          have H := HA.out
          clear HA
          simp only [impl_FromApery.l1] at H
          replace H := gi H; obtain ⟨c20b0, H⟩ | ⟨c20b0, H⟩ := H
          ·by_cases c21 : x5_4.length < 17592186044416
           rotate_left
           ·rw [if_neg c21] at H
            exact absurd H (by simp)
           rw [if_pos c21] at H
           have LMc21 := am c21
           clear c21
           obtain ⟨y706, hy706⟩ : ∃ y_ : List Int, y_ = (x5_4 ++ [x8_4]) := ⟨_, rfl⟩
           replace H : (impl_FromApery.l1 k4 l0 (l0.length : Int) y706 (rd l0 x26_2) (wrap64 (x8_4 + (l0.length : Int))) l0 (l0.length : Int) x26_2) = some (r1, r2) := by first | (rw [hy706]; with_reducible first | exact H | exact bs H) | (with_reducible first | exact bs H | exact H) | (rw [hy706]; exact H) | exact H
           have Ny706 := am hy706
           clear hy706
           have H' := am H
           clear H
           go_wp2_with (first | ((with_reducible refine gate_builtin (b := .append) (xs := #[.tmp 54, .tmp 56]) rfl ?_); at_builtin; refine Kd.R_append (Kd.int .i64) (w0 := w) w.heap.size rfl (.tmp 54) (.tmp 56) 24 3 (.int .i64 0) 8 rfl Try.underlying24 info3 rfl (by decide) (by omega) u5 x5_4 x8_4 [.int .i64 x8_4] (fun _ => True) (fun _ => False) rfl rfl ?aP (fun _ hk => hk.elim) ?aF ?aO ?aB ?aS ?aL ?_; (case aP => exact rfl); (case aB => exact bw); (case aF => exact (fun _ _ => trivial)); (case aO => exact (ro HO_5.out)); (case aS => exact (below_size bw)); (case aL => have := LMc21.out; omega); intro v707 w22 ho hb hg hat; rw [← Ny706.out] at ho; replace BK699 := am (blk_grown (g := gb699) (o := .cells #[.slice none 0 0] 26 (0, 0)) (bo BK699.out) hg (Kd.R_ne HO_5.out BK699.out (by decide))); replace HB := am (hb); have HO708 := am (ho); clear HO_5 ho hb hg hat))
           go_roundg k4
           case measure => have := HJ1.out; have := HK2.out; have := HJ13.out; have := HK4.out; omega
           case rel => exact ⟨(y706), (wrap64 (x8_4 + (l0.length : Int))), rr, H', ⟨by have := HJ1.out; have := HK2.out; have := HJ13.out; have := HK4.out; omega⟩, ⟨ro HO708.out⟩, ⟨bo BK699.out⟩, ⟨bw⟩⟩
          have H' := am H
          clear H
          go_wp2
          go_roundg k4
          case measure => have := HJ1.out; have := HK2.out; have := HJ13.out; have := HK4.out; omega
          case rel => exact ⟨(x5_4), (wrap64 (x26_2 + 1)), rr, H', ⟨by have := HJ1.out; have := HK2.out; have := HJ13.out; have := HK4.out; omega⟩, ⟨ro HO_5.out⟩, ⟨bo BK699.out⟩, ⟨bw⟩⟩
     replace H := ga H; obtain ⟨t709, A23, H⟩ := H
     replace H := ga H; obtain ⟨⟨t712, t715⟩, A24, H⟩ := H
     replace H : (if t715 = true then ((impl_AperySet.f k2 t712 (l0.length : Int)).bind fun t717 => ((slices_Equal_int_int.f k2 t717 l0).bind fun t720 => (if t720 = true then (some (t712, true)) else (some (([] : List Int), false))))) else (some (([] : List Int), false))) = some (r1, r2) := H
     replace H := gb H; obtain ⟨rfl, H⟩ | ⟨rfl, H⟩ := H
     ·replace H := ga H; obtain ⟨t717, A26, H⟩ := H
      replace H := ga H; obtain ⟨t720, A27, H⟩ := H
      replace H := gb H; obtain ⟨rfl, H⟩ | ⟨rfl, H⟩ := H
      ·simp only [Option.some.injEq, Prod.mk.injEq] at H
       obtain ⟨rfl, rfl⟩ := H
       obtain ⟨Ao29, co29, eo29⟩ := Kd.R_slice HO_5.out
       subst eo29
       go_wp2_with (first | ((with_reducible refine gate_callee (f := 89) rfl ?_); refine gl (some 61) Try.func89 #[.slice Ao29 x5_2.length co29] ?_; (with_reducible refine (impl_SortList.calls _ _ x5_2 t709 _ ?side1 ?side2 A23.out).mono ?_); (case side1 => exact co (Kd.R_reads' HO_5.out).2.2); (case side2 => exact (Kd.R_reads' HO_5.out).2.1); rintro e w30 ⟨v710, rfl, ho0, hb⟩; refine ⟨_, rfl, ?_⟩; have HO711 := am (Kd.R_lower (Kd.R_new' ho0 (Kd.R_lt (ro HO_5.out))) (below_size bw)); replace HO_5 := am (Kd.R_elder' (ro HO_5.out) (Kd.R_base ho0) hb); replace BK699 := kb BK699 hb; replace HB := am (below_step bw hb); clear hb ho0; obtain ⟨Ao31, co31, eo31⟩ := Kd.R_slice HO711.out; subst eo31) | ((with_reducible refine gate_callee (f := 153) rfl ?_); refine gl (some 62) Try.func153 #[.slice Ao31 t709.length co31] ?_; (with_reducible refine (impl_FromGaps.calls k2 _ _ t709 t712 true _ ?side1 ?side2 A24.out).mono ?_); (case side1 => exact co (Kd.R_reads' HO711.out).2.2); (case side2 => exact (Kd.R_reads' HO711.out).2.1); rintro e w32 ⟨v713, rfl, ho0, hb⟩; refine ⟨_, rfl, ?_⟩; have HO714 := am (Kd.R_lower (Kd.R_new' (Kd.R_new' ho0 (Kd.R_lt (ro HO_5.out))) (Kd.R_lt (ro HO711.out))) (below_size bw)); replace HO_5 := am (Kd.R_elder' (ro HO_5.out) (Kd.R_base ho0) hb); replace HO711 := am (Kd.R_elder' (ro HO711.out) (Kd.R_base ho0) hb); replace BK699 := kb BK699 hb; replace HB := am (below_step bw hb); clear hb ho0) | ((with_reducible refine gate_dst (N := 9) rfl ?_); refine bx 9 #[.slice none 0 0] 26 ?_; intro gb716 hg w33 hbox hb; replace HO_5 := rK HO_5 hb; replace HO711 := rK HO711 hb; replace HO714 := rK HO714 hb; have BK716 := am (hbox); have GW716 := am (gs hg : w.heap.size ≤ gb716); have GE716 := GW716; replace HB := am (below_step bw hb); have NB699_716 := nl hg BK699; have NB716_699 := ns NB699_716; replace BK699 := kb BK699 hb; clear hb hbox hg; obtain ⟨Ao34, co34, eo34⟩ := Kd.R_slice HO714.out; subst eo34; have hnb35 := NB716_699.out; have hnc35 := NB699_716.out; have hcz36_0 := bc BK716 0 (.slice none 0 0); have hfz36_0 := blk_frozen BK716.out 0) | (go_at_call 133; (with_reducible refine (impl_AperySet.calls k2 _ _ t712 (l0.length : Int) t717 _ ?side1 ?side2 A26.out).mono ?_); (case side1 => refine (Kd.R_reads' (e := 3) (base := w.heap.size) (ok := fun k_ => ((True ∧ nb k_ Ao29 x5_2 co29) ∧ nb k_ Ao31 t709 co31)) (n := t712.length) (c := co34) ?_).2.2; exact (rF HO714 BK716 (.slice Ao34 t712.length co34))); (case side2 => exact (Kd.R_reads' HO714.out).2.1); rintro e w37 ⟨v718, rfl, ho0, hb⟩; have HO719 := am (Kd.R_lower (Kd.R_new' (Kd.R_new' (Kd.R_new' ho0 (Kd.R_lt (rF HO_5 BK716 (.slice Ao34 t712.length co34)))) (Kd.R_lt (rF HO711 BK716 (.slice Ao34 t712.length co34)))) (Kd.R_lt (rF HO714 BK716 (.slice Ao34 t712.length co34)))) (below_size bw)); replace HO_5 := am (Kd.R_elder' (rF HO_5 BK716 (.slice Ao34 t712.length co34)) (Kd.R_base ho0) hb); replace HO711 := am (Kd.R_elder' (rF HO711 BK716 (.slice Ao34 t712.length co34)) (Kd.R_base ho0) hb); replace HO714 := am (Kd.R_elder' (rF HO714 BK716 (.slice Ao34 t712.length co34)) (Kd.R_base ho0) hb); replace BK699 := kb BK699 hb; replace BK716 := am (blk_below (g := gb716) (o := .cells #[.slice Ao34 t712.length co34] 26 (0, 0)) (by (with_reducible repeat (first | refine blk_drewN ?_ _ | refine blk_drew ?_ | refine blk_alloc ?_ _)); refine blk_put (cs := #[.slice none 0 0]) ?_ 0 _ rfl; (with_reducible repeat (first | refine blk_drewN ?_ _ | refine blk_drew ?_ | refine blk_alloc ?_ _)); exact BK716.out) hb); replace HB := am (below_step bw hb); clear hb ho0; obtain ⟨Ao38, co38, eo38⟩ := Kd.R_slice HO719.out; subst eo38) | (go_at_call 137; (with_reducible refine (slices_Equal_int_int.calls k2 _ _ t717 _ _ l0 true _ ?side1 ?side2 ?side3 ?side4 A27.out).mono ?_); (case side1 => exact co (Kd.R_reads' HO719.out).2.2); (case side2 => exact (Kd.R_reads' HO719.out).2.1); (case side3 => exact co (Kd.C_below HR0.out HB.out)); (case side4 => exact HC0.out); rintro e w' ⟨rfl, ⟨nd, rfl⟩⟩; (try (rw [drewN_self w37]; generalize hq_ : World.drewN w37 _ = w37; have n0_ : Aside0 (Kd.R (Kd.int .i64) 3 w37 w.heap.size (fun k_ => nb k_ Ao34 t712 co34 ∧ nb k_ Ao38 t717 co38 ∧ nb k_ Ao29 x5_2 co29) (.slice Ao31 t709.length co31) t709) := ⟨by rw [← hq_]; exact (by (with_reducible repeat (first | apply Kd.R_alloc | apply Kd.R_drewN | apply Kd.R_drew)); exact Kd.R_mono HO711.out (fun _ hk => ⟨hk.1.2, ⟨hk.2, hk.1.1.2⟩⟩))⟩; have n1_ : Aside0 (Kd.R (Kd.int .i64) 3 w37 w.heap.size (fun k_ => nb k_ Ao31 t709 co31 ∧ nb k_ Ao38 t717 co38 ∧ nb k_ Ao29 x5_2 co29) (.slice Ao34 t712.length co34) t712) := ⟨by rw [← hq_]; exact (by (with_reducible repeat (first | apply Kd.R_alloc | apply Kd.R_drewN | apply Kd.R_drew)); exact Kd.R_mono HO714.out (fun _ hk => ⟨hk.1.2, ⟨hk.2, hk.1.1.2⟩⟩))⟩; have n2_ : Aside0 (Kd.R (Kd.int .i64) 3 w37 w.heap.size (fun k_ => nb k_ Ao31 t709 co31 ∧ nb k_ Ao34 t712 co34 ∧ nb k_ Ao29 x5_2 co29) (.slice Ao38 t717.length co38) t717) := ⟨by rw [← hq_]; exact (by (with_reducible repeat (first | apply Kd.R_alloc | apply Kd.R_drewN | apply Kd.R_drew)); exact Kd.R_mono HO719.out (fun _ hk => ⟨hk.1.2, ⟨hk.2, hk.1.1.2⟩⟩))⟩; have n3_ : Aside0 (Kd.R (Kd.int .i64) 3 w37 w.heap.size (fun k_ => nb k_ Ao31 t709 co31 ∧ nb k_ Ao34 t712 co34 ∧ nb k_ Ao38 t717 co38) (.slice Ao29 x5_2.length co29) x5_2) := ⟨by rw [← hq_]; exact (by (with_reducible repeat (first | apply Kd.R_alloc | apply Kd.R_drewN | apply Kd.R_drew)); exact Kd.R_mono HO_5.out (fun _ hk => ⟨hk.1.1.2, ⟨hk.1.2, hk.2⟩⟩))⟩; have n4_ : Aside0 (w37.heap[gb699]? = some (.cells #[.slice none 0 0] 26 (0, 0))) := ⟨by rw [← hq_]; exact (bo BK699.out)⟩; have n5_ : Aside0 (w37.heap[gb716]? = some (.cells #[.slice Ao34 t712.length co34] 26 (0, 0))) := ⟨by rw [← hq_]; exact (bo BK716.out)⟩; have n6_ : Aside0 (Below w.heap.size w w37) := ⟨by rw [← hq_]; exact bw⟩; clear HO711 HO714 HO719 HO_5 BK699 BK716 HB hq_; have HO711 := n0_; have HO714 := n1_; have HO719 := n2_; have HO_5 := n3_; have BK699 := n4_; have BK716 := n5_; have HB := n6_; clear n0_ n1_ n2_ n3_ n4_ n5_ n6_)); have hcz39_0 := bc BK716 0 (.slice Ao34 t712.length co34); have hfz39_0 := blk_frozen BK716.out 0; have hcz40_0 := bc BK699 0 (.slice none 0 0); have hfz40_0 := blk_frozen BK699.out 0))
       refine bodyPost_ret (results_ct rfl _ _ gb699 26 #[.slice Ao34 t712.length co34] (0, 0) _ rfl (by (with_reducible repeat (first | refine blk_drewN ?_ _ | refine blk_drew ?_ | refine blk_alloc ?_ _)); refine blk_put (cs := #[.slice none 0 0]) ?_ 0 _ rfl; (with_reducible repeat (first | refine blk_drewN ?_ _ | refine blk_drew ?_ | refine blk_alloc ?_ _)); exact BK699.out) Try.underlying26 rfl (by kernel_rfl)) rfl ?_
       exact ⟨_, re, by (with_reducible repeat (first | apply Kd.R_alloc | apply Kd.R_drewN | apply Kd.R_drew)); exact Kd.R_mono (Kd.R_far (p := ⟨gb699, 0, none⟩) (Kd.R_types HO714.out BK699.out (by decide)) (fun _ hk => hk.2) (.slice Ao34 t712.length co34)) (fun _ hk => trivial), bw⟩
      simp only [Option.some.injEq, Prod.mk.injEq] at H
      obtain ⟨rfl, rfl⟩ := H
      obtain ⟨Ao41, co41, eo41⟩ := Kd.R_slice HO_5.out
      subst eo41
      go_wp2_with (first | ((with_reducible refine gate_callee (f := 89) rfl ?_); refine gl (some 61) Try.func89 #[.slice Ao41 x5_2.length co41] ?_; (with_reducible refine (impl_SortList.calls _ _ x5_2 t709 _ ?side1 ?side2 A23.out).mono ?_); (case side1 => exact co (Kd.R_reads' HO_5.out).2.2); (case side2 => exact (Kd.R_reads' HO_5.out).2.1); rintro e w42 ⟨v710, rfl, ho0, hb⟩; refine ⟨_, rfl, ?_⟩; have HO711 := am (Kd.R_lower (Kd.R_new' ho0 (Kd.R_lt (ro HO_5.out))) (below_size bw)); replace HO_5 := am (Kd.R_elder' (ro HO_5.out) (Kd.R_base ho0) hb); replace BK699 := kb BK699 hb; replace HB := am (below_step bw hb); clear hb ho0; obtain ⟨Ao43, co43, eo43⟩ := Kd.R_slice HO711.out; subst eo43) | ((with_reducible refine gate_callee (f := 153) rfl ?_); refine gl (some 62) Try.func153 #[.slice Ao43 t709.length co43] ?_; (with_reducible refine (impl_FromGaps.calls k2 _ _ t709 t712 true _ ?side1 ?side2 A24.out).mono ?_); (case side1 => exact co (Kd.R_reads' HO711.out).2.2); (case side2 => exact (Kd.R_reads' HO711.out).2.1); rintro e w44 ⟨v713, rfl, ho0, hb⟩; refine ⟨_, rfl, ?_⟩; have HO714 := am (Kd.R_lower (Kd.R_new' (Kd.R_new' ho0 (Kd.R_lt (ro HO_5.out))) (Kd.R_lt (ro HO711.out))) (below_size bw)); replace HO_5 := am (Kd.R_elder' (ro HO_5.out) (Kd.R_base ho0) hb); replace HO711 := am (Kd.R_elder' (ro HO711.out) (Kd.R_base ho0) hb); replace BK699 := kb BK699 hb; replace HB := am (below_step bw hb); clear hb ho0) | ((with_reducible refine gate_dst (N := 9) rfl ?_); refine bx 9 #[.slice none 0 0] 26 ?_; intro gb716 hg w45 hbox hb; replace HO_5 := rK HO_5 hb; replace HO711 := rK HO711 hb; replace HO714 := rK HO714 hb; have BK716 := am (hbox); have GW716 := am (gs hg : w.heap.size ≤ gb716); have GE716 := GW716; replace HB := am (below_step bw hb); have NB699_716 := nl hg BK699; have NB716_699 := ns NB699_716; replace BK699 := kb BK699 hb; clear hb hbox hg; obtain ⟨Ao46, co46, eo46⟩ := Kd.R_slice HO714.out; subst eo46; have hnb47 := NB716_699.out; have hnc47 := NB699_716.out; have hcz48_0 := bc BK716 0 (.slice none 0 0); have hfz48_0 := blk_frozen BK716.out 0) | (go_at_call 133; (with_reducible refine (impl_AperySet.calls k2 _ _ t712 (l0.length : Int) t717 _ ?side1 ?side2 A26.out).mono ?_); (case side1 => refine (Kd.R_reads' (e := 3) (base := w.heap.size) (ok := fun k_ => ((True ∧ nb k_ Ao41 x5_2 co41) ∧ nb k_ Ao43 t709 co43)) (n := t712.length) (c := co46) ?_).2.2; exact (rF HO714 BK716 (.slice Ao46 t712.length co46))); (case side2 => exact (Kd.R_reads' HO714.out).2.1); rintro e w49 ⟨v718, rfl, ho0, hb⟩; have HO719 := am (Kd.R_lower (Kd.R_new' (Kd.R_new' (Kd.R_new' ho0 (Kd.R_lt (rF HO_5 BK716 (.slice Ao46 t712.length co46)))) (Kd.R_lt (rF HO711 BK716 (.slice Ao46 t712.length co46)))) (Kd.R_lt (rF HO714 BK716 (.slice Ao46 t712.length co46)))) (below_size bw)); replace HO_5 := am (Kd.R_elder' (rF HO_5 BK716 (.slice Ao46 t712.length co46)) (Kd.R_base ho0) hb); replace HO711 := am (Kd.R_elder' (rF HO711 BK716 (.slice Ao46 t712.length co46)) (Kd.R_base ho0) hb); replace HO714 := am (Kd.R_elder' (rF HO714 BK716 (.slice Ao46 t712.length co46)) (Kd.R_base ho0) hb); replace BK699 := kb BK699 hb; replace BK716 := am (blk_below (g := gb716) (o := .cells #[.slice Ao46 t712.length co46] 26 (0, 0)) (by (with_reducible repeat (first | refine blk_drewN ?_ _ | refine blk_drew ?_ | refine blk_alloc ?_ _)); refine blk_put (cs := #[.slice none 0 0]) ?_ 0 _ rfl; (with_reducible repeat (first | refine blk_drewN ?_ _ | refine blk_drew ?_ | refine blk_alloc ?_ _)); exact BK716.out) hb); replace HB := am (below_step bw hb); clear hb ho0; obtain ⟨Ao50, co50, eo50⟩ := Kd.R_slice HO719.out; subst eo50) | (go_at_call 137; (with_reducible refine (slices_Equal_int_int.calls k2 _ _ t717 _ _ l0 false _ ?side1 ?side2 ?side3 ?side4 A27.out).mono ?_); (case side1 => exact co (Kd.R_reads' HO719.out).2.2); (case side2 => exact (Kd.R_reads' HO719.out).2.1); (case side3 => exact co (Kd.C_below HR0.out HB.out)); (case side4 => exact HC0.out); rintro e w' ⟨rfl, ⟨nd, rfl⟩⟩; (try (rw [drewN_self w49]; generalize hq_ : World.drewN w49 _ = w49; have n0_ : Aside0 (Kd.R (Kd.int .i64) 3 w49 w.heap.size (fun k_ => nb k_ Ao46 t712 co46 ∧ nb k_ Ao50 t717 co50 ∧ nb k_ Ao41 x5_2 co41) (.slice Ao43 t709.length co43) t709) := ⟨by rw [← hq_]; exact (by (with_reducible repeat (first | apply Kd.R_alloc | apply Kd.R_drewN | apply Kd.R_drew)); exact Kd.R_mono HO711.out (fun _ hk => ⟨hk.1.2, ⟨hk.2, hk.1.1.2⟩⟩))⟩; have n1_ : Aside0 (Kd.R (Kd.int .i64) 3 w49 w.heap.size (fun k_ => nb k_ Ao43 t709 co43 ∧ nb k_ Ao50 t717 co50 ∧ nb k_ Ao41 x5_2 co41) (.slice Ao46 t712.length co46) t712) := ⟨by rw [← hq_]; exact (by (with_reducible repeat (first | apply Kd.R_alloc | apply Kd.R_drewN | apply Kd.R_drew)); exact Kd.R_mono HO714.out (fun _ hk => ⟨hk.1.2, ⟨hk.2, hk.1.1.2⟩⟩))⟩; have n2_ : Aside0 (Kd.R (Kd.int .i64) 3 w49 w.heap.size (fun k_ => nb k_ Ao43 t709 co43 ∧ nb k_ Ao46 t712 co46 ∧ nb k_ Ao41 x5_2 co41) (.slice Ao50 t717.length co50) t717) := ⟨by rw [← hq_]; exact (by (with_reducible repeat (first | apply Kd.R_alloc | apply Kd.R_drewN | apply Kd.R_drew)); exact Kd.R_mono HO719.out (fun _ hk => ⟨hk.1.2, ⟨hk.2, hk.1.1.2⟩⟩))⟩; have n3_ : Aside0 (Kd.R (Kd.int .i64) 3 w49 w.heap.size (fun k_ => nb k_ Ao43 t709 co43 ∧ nb k_ Ao46 t712 co46 ∧ nb k_ Ao50 t717 co50) (.slice Ao41 x5_2.length co41) x5_2) := ⟨by rw [← hq_]; exact (by (with_reducible repeat (first | apply Kd.R_alloc | apply Kd.R_drewN | apply Kd.R_drew)); exact Kd.R_mono HO_5.out (fun _ hk => ⟨hk.1.1.2, ⟨hk.1.2, hk.2⟩⟩))⟩; have n4_ : Aside0 (w49.heap[gb699]? = some (.cells #[.slice none 0 0] 26 (0, 0))) := ⟨by rw [← hq_]; exact (bo BK699.out)⟩; have n5_ : Aside0 (w49.heap[gb716]? = some (.cells #[.slice Ao46 t712.length co46] 26 (0, 0))) := ⟨by rw [← hq_]; exact (bo BK716.out)⟩; have n6_ : Aside0 (Below w.heap.size w w49) := ⟨by rw [← hq_]; exact bw⟩; clear HO711 HO714 HO719 HO_5 BK699 BK716 HB hq_; have HO711 := n0_; have HO714 := n1_; have HO719 := n2_; have HO_5 := n3_; have BK699 := n4_; have BK716 := n5_; have HB := n6_; clear n0_ n1_ n2_ n3_ n4_ n5_ n6_)); have hcz51_0 := bc BK699 0 (.slice none 0 0); have hfz51_0 := blk_frozen BK699.out 0))
      refine bodyPost_ret (results_ct rfl _ _ gb699 26 #[.slice none 0 0] (0, 0) _ rfl (by (with_reducible repeat (first | refine blk_drewN ?_ _ | refine blk_drew ?_ | refine blk_alloc ?_ _)); refine blk_put (cs := #[.slice none 0 0]) ?_ 0 _ rfl; (with_reducible repeat (first | refine blk_drewN ?_ _ | refine blk_drew ?_ | refine blk_alloc ?_ _)); exact BK699.out) Try.underlying26 rfl (by kernel_rfl)) rfl ?_
      exact ⟨_, re, by first | exact Kd.R_nil _ _ _ _ _ | exact Kd.N_nil _ _ _ _ _ | exact Kd.V_nil _ _ _ _ _ | exact Kd.Q_nil _ _ _ _ _ | exact Kd.S_nil _ _ _ _ _, bw⟩
     simp only [Option.some.injEq, Prod.mk.injEq] at H
     obtain ⟨rfl, rfl⟩ := H
     obtain ⟨Ao52, co52, eo52⟩ := Kd.R_slice HO_5.out
     subst eo52
     go_wp2_with (first | ((with_reducible refine gate_callee (f := 89) rfl ?_); refine gl (some 61) Try.func89 #[.slice Ao52 x5_2.length co52] ?_; (with_reducible refine (impl_SortList.calls _ _ x5_2 t709 _ ?side1 ?side2 A23.out).mono ?_); (case side1 => exact co (Kd.R_reads' HO_5.out).2.2); (case side2 => exact (Kd.R_reads' HO_5.out).2.1); rintro e w53 ⟨v710, rfl, ho0, hb⟩; refine ⟨_, rfl, ?_⟩; have HO711 := am (Kd.R_lower (Kd.R_new' ho0 (Kd.R_lt (ro HO_5.out))) (below_size bw)); replace HO_5 := am (Kd.R_elder' (ro HO_5.out) (Kd.R_base ho0) hb); replace BK699 := kb BK699 hb; replace HB := am (below_step bw hb); clear hb ho0; obtain ⟨Ao54, co54, eo54⟩ := Kd.R_slice HO711.out; subst eo54) | ((with_reducible refine gate_callee (f := 153) rfl ?_); refine gl (some 62) Try.func153 #[.slice Ao54 t709.length co54] ?_; (with_reducible refine (impl_FromGaps.calls k2 _ _ t709 t712 false _ ?side1 ?side2 A24.out).mono ?_); (case side1 => exact co (Kd.R_reads' HO711.out).2.2); (case side2 => exact (Kd.R_reads' HO711.out).2.1); rintro e w55 ⟨v713, rfl, ho0, hb⟩; refine ⟨_, rfl, ?_⟩; have HO714 := am (Kd.R_lower (Kd.R_new' (Kd.R_new' ho0 (Kd.R_lt (ro HO_5.out))) (Kd.R_lt (ro HO711.out))) (below_size bw)); replace HO_5 := am (Kd.R_elder' (ro HO_5.out) (Kd.R_base ho0) hb); replace HO711 := am (Kd.R_elder' (ro HO711.out) (Kd.R_base ho0) hb); replace BK699 := kb BK699 hb; replace HB := am (below_step bw hb); clear hb ho0) | ((with_reducible refine gate_dst (N := 9) rfl ?_); refine bx 9 #[.slice none 0 0] 26 ?_; intro gb716 hg w56 hbox hb; replace HO_5 := rK HO_5 hb; replace HO711 := rK HO711 hb; replace HO714 := rK HO714 hb; have BK716 := am (hbox); have GW716 := am (gs hg : w.heap.size ≤ gb716); have GE716 := GW716; replace HB := am (below_step bw hb); have NB699_716 := nl hg BK699; have NB716_699 := ns NB699_716; replace BK699 := kb BK699 hb; clear hb hbox hg; obtain ⟨Ao57, co57, eo57⟩ := Kd.R_slice HO714.out; subst eo57; have hnb58 := NB716_699.out; have hnc58 := NB699_716.out; have hcz59_0 := bc BK716 0 (.slice none 0 0); have hfz59_0 := blk_frozen BK716.out 0; have hcz60_0 := bc BK699 0 (.slice none 0 0); have hfz60_0 := blk_frozen BK699.out 0))
     refine bodyPost_ret (results_ct rfl _ _ gb699 26 #[.slice none 0 0] (0, 0) _ rfl (by (with_reducible repeat (first | refine blk_drewN ?_ _ | refine blk_drew ?_ | refine blk_alloc ?_ _)); refine blk_put (cs := #[.slice none 0 0]) ?_ 0 _ rfl; (with_reducible repeat (first | refine blk_drewN ?_ _ | refine blk_drew ?_ | refine blk_alloc ?_ _)); refine blk_far ?_ NB699_716.out _; (with_reducible repeat (first | refine blk_drewN ?_ _ | refine blk_drew ?_ | refine blk_alloc ?_ _)); exact BK699.out) Try.underlying26 rfl (by kernel_rfl)) rfl ?_
     exact ⟨_, re, by first | exact Kd.R_nil _ _ _ _ _ | exact Kd.N_nil _ _ _ _ _ | exact Kd.V_nil _ _ _ _ _ | exact Kd.Q_nil _ _ _ _ _ | exact Kd.S_nil _ _ _ _ _, bw⟩


/-! ### impl_FromCoordinates: function 16 -/
mutual
def impl_FromCoordinates.j0 : Nat → List Int → Int → Bool → Option (List Int × Bool)
 | 0, _, _, _ => none
 | k + 1, x0, x4, x19 => if x19 = true then (some (([] : List Int), false)) else (impl_FromCoordinates.l0 k x0 x4 (([0] : List Int)) x0 (x0.length : Int) 0)
def impl_FromCoordinates.l0 : Nat → List Int → Int → List Int → List Int → Int → Int → Option (List Int × Bool)
 | 0, _, _, _, _, _, _ => none
 | k + 1, x0, x4, x5, x22, x23, x24 => if x24 < x23 then (if 0 ≤ x24 then (if x24 < (x22.length : Int) then (if x5.length < 17592186044416 then (impl_FromCoordinates.l0 k x0 x4 (x5 ++ [wrap64 ((wrap64 (x24 + 1)) + (wrap64 (x4 * (rd x22 x24))))]) x22 x23 (wrap64 (x24 + 1))) else (none)) else (none)) else (none)) else ((impl_FromApery.f k x5).bind fun bt730 => (if bt730.2 = true then ((impl_CoordinatesOf.f k bt730.1).bind fun t735 => ((slices_Equal_int_int.f k t735 x0).bind fun t738 => (if t738 = true then (some (bt730.1, true)) else (some (([] : List Int), false))))) else (some (([] : List Int), false))))
end
def impl_FromCoordinates.f (k : Nat) (l0 : List Int) : Option (List Int × Bool) := if (wrap64 ((l0.length : Int) + 1)) > 60 then (impl_FromCoordinates.j0 k l0 (wrap64 ((l0.length : Int) + 1)) true) else ((impl_allWithin.f k l0 1 200).bind fun t722 => (impl_FromCoordinates.j0 k l0 (wrap64 ((l0.length : Int) + 1)) (!t722)))
set_option maxHeartbeats 8000000 in
set_option maxRecDepth 100000 in
theorem impl_FromCoordinates.calls (k : Nat) (A0 : Option Addr) (c0 : Nat) (l0 : List Int) (r1 : List Int) (r2 : Bool) (w : World) (hr0 : Kd.C (Kd.int .i64) w A0 l0.length l0) (hc0 : l0.length ≤ c0) (h : impl_FromCoordinates.f k l0 = some (r1, r2)) :
  Calls Try.prog 16 #[.slice A0 l0.length c0] w fun e w' => ∃ v0_ : Value, e = .returned (.tuple #[.agg #[v0_], .bool r2]) ∧ Kd.R (Kd.int .i64) 3 w' w.heap.size (fun _ => True) v0_ r1 ∧ Below w.heap.size w w' := by
 have hu26 := Try.underlying26
 have HR0 := am hr0
 have HC0 := am hc0
 clear hr0 hc0
 have HB := am (Below.refl w.heap.size w)
 have H : (if (wrap64 ((l0.length : Int) + 1)) > 60 then (impl_FromCoordinates.j0 k l0 (wrap64 ((l0.length : Int) + 1)) true) else ((impl_allWithin.f k l0 1 200).bind fun t722 => (impl_FromCoordinates.j0 k l0 (wrap64 ((l0.length : Int) + 1)) (!t722)))) = some (r1, r2) := h
 clear h
 have HC2 := am H
 clear H
 go_enter Try.func16, Try.ntmps16
 go_upto_region 2 with (first | ((with_reducible refine gate_dst (N := 2) rfl ?_); refine bx 2 #[.slice none 0 0] 26 ?_; intro gb721 hg w3 hbox hb; have BK721 := am (hbox); have GW721 := am (gs hg : w.heap.size ≤ gb721); have GE721 := GW721; replace HB := am (below_step bw hb); clear hb hbox hg))
 (try simp only [Act.put, List.setIfInBounds_toArray, List.set_cons_zero, List.set_cons_succ])
 go_cut [19] (fun v19 wc => ∃ (kq : Nat) (x19_1 : Bool), v19 = .bool x19_1 ∧ Aside0 (impl_FromCoordinates.j0 kq l0 (wrap64 ((l0.length : Int) + 1)) x19_1 = some (r1, r2)) ∧ Aside0 (kq ≤ k) ∧ Aside0 (wc.heap[gb721]? = some (.cells #[(.slice none 0 0)] 26 (0, 0))) ∧ Aside0 (Below w.heap.size w wc))
 case first =>
  have H := HC2.out
  clear HC2
  replace H := gj H; obtain ⟨c4, H⟩ | ⟨c4, H⟩ := H
  ·have c4b0 : decide (60 < (wrap64 ((l0.length : Int) + 1))) = true := decide_eq_true c4
   clear c4
   (first | rw [c4b0] | (simp only [i64_w, i32_w]; rw [c4b0]) | skip)
   have H' := am H
   clear H
   go_wp2
   go_meet
   case rel => exact ⟨_, (true), rr, H', ⟨om⟩, ⟨bo BK721.out⟩, ⟨bw⟩⟩
  have c4b0 : decide (60 < (wrap64 ((l0.length : Int) + 1))) = false := decide_eq_false c4
  clear c4
  (first | rw [c4b0] | (simp only [i64_w, i32_w]; rw [c4b0]) | skip)
  replace H := ga H; obtain ⟨t722, A5, H⟩ := H
  have H' := am H
  clear H
  go_wp2_with (first | (go_at_call 135; (with_reducible refine (impl_allWithin.calls k _ _ l0 1 200 t722 _ ?side1 ?side2 A5.out).mono ?_); (case side1 => exact co (Kd.C_below HR0.out HB.out)); (case side2 => exact HC0.out); rintro e w' ⟨rfl, ⟨nd, rfl⟩⟩))
  go_meet
  case rel => exact ⟨_, (!t722), rr, H', ⟨om⟩, ⟨bo BK721.out⟩, ⟨bw⟩⟩
 case rest =>
  clear HC2
  try clear c4; try clear c4b0
  obtain ⟨kq, x19_1, rfl, HA, HJ1, BK721, HB⟩ := hcut
  cases kq with
  | zero => exact absurd HA.out (by simp [impl_FromCoordinates.j0])
  | succ kj1 =>
   have H := HA.out
   clear HA
   simp only [impl_FromCoordinates.j0] at H
   replace H := gb H; obtain ⟨rfl, H⟩ | ⟨rfl, H⟩ := H
   ·simp only [Option.some.injEq, Prod.mk.injEq] at H
    obtain ⟨rfl, rfl⟩ := H
    have hcz7_0 := bc BK721 0 (.slice none 0 0)
    have hfz7_0 := blk_frozen BK721.out 0
    go_wp2
    refine bodyPost_ret (results_ct rfl _ _ gb721 26 #[.slice none 0 0] (0, 0) _ rfl (by (with_reducible repeat (first | refine blk_drewN ?_ _ | refine blk_drew ?_ | refine blk_alloc ?_ _)); refine blk_put (cs := #[.slice none 0 0]) ?_ 0 _ rfl; (with_reducible repeat (first | refine blk_drewN ?_ _ | refine blk_drew ?_ | refine blk_alloc ?_ _)); exact BK721.out) Try.underlying26 rfl (by kernel_rfl)) rfl ?_
    exact ⟨_, re, by first | exact Kd.R_nil _ _ _ _ _ | exact Kd.N_nil _ _ _ _ _ | exact Kd.V_nil _ _ _ _ _ | exact Kd.Q_nil _ _ _ _ _ | exact Kd.S_nil _ _ _ _ _, bw⟩
   obtain ⟨y723, hy723⟩ : ∃ y_ : List Int, y_ = (([0] : List Int)) := ⟨_, rfl⟩
   replace H : (impl_FromCoordinates.l0 kj1 l0 (wrap64 ((l0.length : Int) + 1)) y723 l0 (l0.length : Int) 0) = some (r1, r2) := by first | (rw [hy723]; with_reducible first | exact H | exact bs H) | (with_reducible first | exact bs H | exact H) | (rw [hy723]; exact H) | exact H
   have Ny723 := am hy723
   clear hy723
   have H' := am H
   clear H
   go_wp2_with (first | ((with_reducible refine gate_dst (N := 21) rfl ?_); refine Kd.R_lit (Kd.int .i64) _ 3 ?hg (N := 21) ?hd (xs := ([0] : List Int)) (inner := [.int .i64 0]) (ok := fun _ => True) (okp := fun _ => True) ?hr ?hp (fun _ hk => hk) trivial (Below.refl _ _) (Nat.le_refl _) (by simp) ?_; (case hd => rfl); (case hg => rfl); (case hr => first | (go_simp; done) | (go_simp; rfl)); (case hp => exact (Reps.one (show Kd.M (Kd.int .i64) _ _ _ 0 [.int .i64 0] from rfl) (Reps.none _ _))); intro v724 w8 ho9 hb hg_ hnew_; clear hg_ hnew_; (first | rw [← Ny723.out] at ho9 | (simp only [Int.reduceToNat] at ho9; rw [← Ny723.out] at ho9)); have HO725 := am (Kd.R_lower ho9 (below_size bw)); replace BK721 := kb BK721 hb; replace HB := am (below_step bw hb); clear hb ho9))
   go_loopg [5, 24] kj1 (fun kq v5 v24 w' => ∃ (x5_2 : List Int) (x24_2 : Int), v24 = .int .i64 x24_2 ∧ Aside0 (impl_FromCoordinates.l0 kq l0 (wrap64 ((l0.length : Int) + 1)) x5_2 l0 (l0.length : Int) x24_2 = some (r1, r2)) ∧ Aside0 (kq ≤ kj1) ∧ Aside0 (Kd.R (Kd.int .i64) 3 w' w.heap.size (fun _ => True) v5 x5_2) ∧ Aside0 (w'.heap[gb721]? = some (.cells #[(.slice none 0 0)] 26 (0, 0))) ∧ Aside0 (Below w.heap.size w w'))
   case atStart => exact ⟨(y723), (0), rr, H', ⟨Nat.le_refl _⟩, ⟨ro HO725.out⟩, ⟨bo BK721.out⟩, ⟨bw⟩⟩
   case round =>
    clear H'
    try clear c4; try clear c4b0; try clear hcz7_0; try clear hfz7_0
    obtain ⟨x5_2, x24_2, rfl, HA, HK2, HO_5, BK721, HB⟩ := hrel
    cases gk with
    | zero => exact absurd HA.out (by simp [impl_FromCoordinates.l0])
    | succ k2 =>
     have H := HA.out
     clear HA
     simp only [impl_FromCoordinates.l0] at H
     replace H := gi H; obtain ⟨c10b0, H⟩ | ⟨c10b0, H⟩ := H
     ·replace H := gd H; obtain ⟨c11b0, H⟩ := H
      replace H := gd H; obtain ⟨c12b0, H⟩ := H
      by_cases c13 : x5_2.length < 17592186044416
      rotate_left
      ·rw [if_neg c13] at H
       exact absurd H (by simp)
      rw [if_pos c13] at H
      have LMc13 := am c13
      clear c13
      obtain ⟨y727, hy727⟩ : ∃ y_ : List Int, y_ = (x5_2 ++ [wrap64 ((wrap64 (x24_2 + 1)) + (wrap64 ((wrap64 ((l0.length : Int) + 1)) * (rd l0 x24_2))))]) := ⟨_, rfl⟩
      replace H : (impl_FromCoordinates.l0 k2 l0 (wrap64 ((l0.length : Int) + 1)) y727 l0 (l0.length : Int) (wrap64 (x24_2 + 1))) = some (r1, r2) := by first | (rw [hy727]; with_reducible first | exact H | exact bs H) | (with_reducible first | exact bs H | exact H) | (rw [hy727]; exact H) | exact H
      have Ny727 := am hy727
      clear hy727
      have H' := am H
      clear H
      obtain ⟨⟨ad726, e726, hx726_0⟩, p726, q726⟩ := pq (Kd.at_int HR0.out x24_2)
      cases e726
      replace hx726_0 := hw HB hx726_0
      go_wp2_with (first | ((with_reducible refine gate_builtin (b := .append) (xs := #[.tmp 29, .tmp 36]) rfl ?_); at_builtin; refine Kd.R_append (Kd.int .i64) (w0 := w) w.heap.size rfl (.tmp 29) (.tmp 36) 24 3 (.int .i64 0) 8 rfl Try.underlying24 info3 rfl (by decide) (by omega) u5 x5_2 (wrap64 ((wrap64 (x24_2 + 1)) + (wrap64 ((wrap64 ((l0.length : Int) + 1)) * (rd l0 x24_2))))) [.int .i64 (wrap64 ((wrap64 (x24_2 + 1)) + (wrap64 ((wrap64 ((l0.length : Int) + 1)) * (rd l0 x24_2)))))] (fun _ => True) (fun _ => False) rfl rfl ?aP (fun _ hk => hk.elim) ?aF ?aO ?aB ?aS ?aL ?_; (case aP => exact rfl); (case aB => exact bw); (case aF => exact (fun _ _ => trivial)); (case aO => exact (ro HO_5.out)); (case aS => exact (below_size bw)); (case aL => have := LMc13.out; omega); intro v728 w14 ho hb hg hat; rw [← Ny727.out] at ho; replace BK721 := am (blk_grown (g := gb721) (o := .cells #[.slice none 0 0] 26 (0, 0)) (bo BK721.out) hg (Kd.R_ne HO_5.out BK721.out (by decide))); replace HB := am (hb); have HO729 := am (ho); clear HO_5 ho hb hg hat))
      go_roundg k2
      case measure => have := HJ1.out; have := HK2.out; omega
      case rel => exact ⟨(y727), (wrap64 (x24_2 + 1)), rr, H', ⟨by have := HJ1.out; have := HK2.out; omega⟩, ⟨ro HO729.out⟩, ⟨bo BK721.out⟩, ⟨bw⟩⟩
     replace H := ga H; obtain ⟨⟨t730, t733⟩, A15, H⟩ := H
     replace H : (if t733 = true then ((impl_CoordinatesOf.f k2 t730).bind fun t735 => ((slices_Equal_int_int.f k2 t735 l0).bind fun t738 => (if t738 = true then (some (t730, true)) else (some (([] : List Int), false))))) else (some (([] : List Int), false))) = some (r1, r2) := H
     replace H := gb H; obtain ⟨rfl, H⟩ | ⟨rfl, H⟩ := H
     ·replace H := ga H; obtain ⟨t735, A17, H⟩ := H
      replace H := ga H; obtain ⟨t738, A18, H⟩ := H
      replace H := gb H; obtain ⟨rfl, H⟩ | ⟨rfl, H⟩ := H
      ·simp only [Option.some.injEq, Prod.mk.injEq] at H
       obtain ⟨rfl, rfl⟩ := H
       obtain ⟨Ao20, co20, eo20⟩ := Kd.R_slice HO_5.out
       subst eo20
       go_wp2_with (first | ((with_reducible refine gate_callee (f := 136) rfl ?_); refine gl (some 41) Try.func136 #[.slice Ao20 x5_2.length co20] ?_; (with_reducible refine (impl_FromApery.calls k2 _ _ x5_2 t730 true _ ?side1 ?side2 A15.out).mono ?_); (case side1 => exact co (Kd.R_reads' HO_5.out).2.2); (case side2 => exact (Kd.R_reads' HO_5.out).2.1); rintro e w21 ⟨v731, rfl, ho0, hb⟩; refine ⟨_, rfl, ?_⟩; have HO732 := am (Kd.R_lower (Kd.R_new' ho0 (Kd.R_lt (ro HO_5.out))) (below_size bw)); replace HO_5 := am (Kd.R_elder' (ro HO_5.out) (Kd.R_base ho0) hb); replace BK721 := kb BK721 hb; replace HB := am (below_step bw hb); clear hb ho0) | ((with_reducible refine gate_dst (N := 8) rfl ?_); refine bx 8 #[.slice none 0 0] 26 ?_; intro gb734 hg w22 hbox hb; replace HO_5 := rK HO_5 hb; replace HO732 := rK HO732 hb; have BK734 := am (hbox); have GW734 := am (gs hg : w.heap.size ≤ gb734); have GE734 := GW734; replace HB := am (below_step bw hb); have NB721_734 := nl hg BK721; have NB734_721 := ns NB721_734; replace BK721 := kb BK721 hb; clear hb hbox hg; obtain ⟨Ao23, co23, eo23⟩ := Kd.R_slice HO732.out; subst eo23; have hnb24 := NB734_721.out; have hnc24 := NB721_734.out; have hcz25_0 := bc BK734 0 (.slice none 0 0); have hfz25_0 := blk_frozen BK734.out 0) | (go_at_call 14; (with_reducible refine (impl_CoordinatesOf.calls k2 _ _ t730 t735 _ ?side1 ?side2 A17.out).mono ?_); (case side1 => refine (Kd.R_reads' (e := 3) (base := w.heap.size) (ok := fun k_ => (True ∧ nb k_ Ao20 x5_2 co20)) (n := t730.length) (c := co23) ?_).2.2; exact (rF HO732 BK734 (.slice Ao23 t730.length co23))); (case side2 => exact (Kd.R_reads' HO732.out).2.1); rintro e w26 ⟨v736, rfl, ho0, hb⟩; have HO737 := am (Kd.R_lower (Kd.R_new' (Kd.R_new' ho0 (Kd.R_lt (rF HO_5 BK734 (.slice Ao23 t730.length co23)))) (Kd.R_lt (rF HO732 BK734 (.slice Ao23 t730.length co23)))) (below_size bw)); replace HO_5 := am (Kd.R_elder' (rF HO_5 BK734 (.slice Ao23 t730.length co23)) (Kd.R_base ho0) hb); replace HO732 := am (Kd.R_elder' (rF HO732 BK734 (.slice Ao23 t730.length co23)) (Kd.R_base ho0) hb); replace BK721 := kb BK721 hb; replace BK734 := am (blk_below (g := gb734) (o := .cells #[.slice Ao23 t730.length co23] 26 (0, 0)) (by (with_reducible repeat (first | refine blk_drewN ?_ _ | refine blk_drew ?_ | refine blk_alloc ?_ _)); refine blk_put (cs := #[.slice none 0 0]) ?_ 0 _ rfl; (with_reducible repeat (first | refine blk_drewN ?_ _ | refine blk_drew ?_ | refine blk_alloc ?_ _)); exact BK734.out) hb); replace HB := am (below_step bw hb); clear hb ho0; obtain ⟨Ao27, co27, eo27⟩ := Kd.R_slice HO737.out; subst eo27) | (go_at_call 137; (with_reducible refine (slices_Equal_int_int.calls k2 _ _ t735 _ _ l0 true _ ?side1 ?side2 ?side3 ?side4 A18.out).mono ?_); (case side1 => exact co (Kd.R_reads' HO737.out).2.2); (case side2 => exact (Kd.R_reads' HO737.out).2.1); (case side3 => exact co (Kd.C_below HR0.out HB.out)); (case side4 => exact HC0.out); rintro e w' ⟨rfl, ⟨nd, rfl⟩⟩; (try (rw [drewN_self w26]; generalize hq_ : World.drewN w26 _ = w26; have n0_ : Aside0 (Kd.R (Kd.int .i64) 3 w26 w.heap.size (fun k_ => nb k_ Ao27 t735 co27 ∧ nb k_ Ao20 x5_2 co20) (.slice Ao23 t730.length co23) t730) := ⟨by rw [← hq_]; exact (by (with_reducible repeat (first | apply Kd.R_alloc | apply Kd.R_drewN | apply Kd.R_drew)); exact Kd.R_mono HO732.out (fun _ hk => by first | exact ⟨hk.2, hk.1.2⟩ | simp_all))⟩; have n1_ : Aside0 (Kd.R (Kd.int .i64) 3 w26 w.heap.size (fun k_ => nb k_ Ao23 t730 co23 ∧ nb k_ Ao20 x5_2 co20) (.slice Ao27 t735.length co27) t735) := ⟨by rw [← hq_]; exact (by (with_reducible repeat (first | apply Kd.R_alloc | apply Kd.R_drewN | apply Kd.R_drew)); exact Kd.R_mono HO737.out (fun _ hk => by first | exact ⟨hk.2, hk.1.2⟩ | simp_all))⟩; have n2_ : Aside0 (Kd.R (Kd.int .i64) 3 w26 w.heap.size (fun k_ => nb k_ Ao23 t730 co23 ∧ nb k_ Ao27 t735 co27) (.slice Ao20 x5_2.length co20) x5_2) := ⟨by rw [← hq_]; exact (by (with_reducible repeat (first | apply Kd.R_alloc | apply Kd.R_drewN | apply Kd.R_drew)); exact Kd.R_mono HO_5.out (fun _ hk => by first | exact ⟨hk.1.2, hk.2⟩ | simp_all))⟩; have n3_ : Aside0 (w26.heap[gb721]? = some (.cells #[.slice none 0 0] 26 (0, 0))) := ⟨by rw [← hq_]; exact (bo BK721.out)⟩; have n4_ : Aside0 (w26.heap[gb734]? = some (.cells #[.slice Ao23 t730.length co23] 26 (0, 0))) := ⟨by rw [← hq_]; exact (bo BK734.out)⟩; have n5_ : Aside0 (Below w.heap.size w w26) := ⟨by rw [← hq_]; exact bw⟩; clear HO732 HO737 HO_5 BK721 BK734 HB hq_; have HO732 := n0_; have HO737 := n1_; have HO_5 := n2_; have BK721 := n3_; have BK734 := n4_; have HB := n5_; clear n0_ n1_ n2_ n3_ n4_ n5_)); have hcz28_0 := bc BK734 0 (.slice Ao23 t730.length co23); have hfz28_0 := blk_frozen BK734.out 0; have hcz29_0 := bc BK721 0 (.slice none 0 0); have hfz29_0 := blk_frozen BK721.out 0))
       refine bodyPost_ret (results_ct rfl _ _ gb721 26 #[.slice Ao23 t730.length co23] (0, 0) _ rfl (by (with_reducible repeat (first | refine blk_drewN ?_ _ | refine blk_drew ?_ | refine blk_alloc ?_ _)); refine blk_put (cs := #[.slice none 0 0]) ?_ 0 _ rfl; (with_reducible repeat (first | refine blk_drewN ?_ _ | refine blk_drew ?_ | refine blk_alloc ?_ _)); exact BK721.out) Try.underlying26 rfl (by kernel_rfl)) rfl ?_
       exact ⟨_, re, by (with_reducible repeat (first | apply Kd.R_alloc | apply Kd.R_drewN | apply Kd.R_drew)); exact Kd.R_mono (Kd.R_far (p := ⟨gb721, 0, none⟩) (Kd.R_types HO732.out BK721.out (by decide)) (fun _ hk => hk.2) (.slice Ao23 t730.length co23)) (fun _ hk => trivial), bw⟩
      simp only [Option.some.injEq, Prod.mk.injEq] at H
      obtain ⟨rfl, rfl⟩ := H
      obtain ⟨Ao30, co30, eo30⟩ := Kd.R_slice HO_5.out
      subst eo30
      go_wp2_with (first | ((with_reducible refine gate_callee (f := 136) rfl ?_); refine gl (some 41) Try.func136 #[.slice Ao30 x5_2.length co30] ?_; (with_reducible refine (impl_FromApery.calls k2 _ _ x5_2 t730 true _ ?side1 ?side2 A15.out).mono ?_); (case side1 => exact co (Kd.R_reads' HO_5.out).2.2); (case side2 => exact (Kd.R_reads' HO_5.out).2.1); rintro e w31 ⟨v731, rfl, ho0, hb⟩; refine ⟨_, rfl, ?_⟩; have HO732 := am (Kd.R_lower (Kd.R_new' ho0 (Kd.R_lt (ro HO_5.out))) (below_size bw)); replace HO_5 := am (Kd.R_elder' (ro HO_5.out) (Kd.R_base ho0) hb); replace BK721 := kb BK721 hb; replace HB := am (below_step bw hb); clear hb ho0) | ((with_reducible refine gate_dst (N := 8) rfl ?_); refine bx 8 #[.slice none 0 0] 26 ?_; intro gb734 hg w32 hbox hb; replace HO_5 := rK HO_5 hb; replace HO732 := rK HO732 hb; have BK734 := am (hbox); have GW734 := am (gs hg : w.heap.size ≤ gb734); have GE734 := GW734; replace HB := am (below_step bw hb); have NB721_734 := nl hg BK721; have NB734_721 := ns NB721_734; replace BK721 := kb BK721 hb; clear hb hbox hg; obtain ⟨Ao33, co33, eo33⟩ := Kd.R_slice HO732.out; subst eo33; have hnb34 := NB734_721.out; have hnc34 := NB721_734.out; have hcz35_0 := bc BK734 0 (.slice none 0 0); have hfz35_0 := blk_frozen BK734.out 0) | (go_at_call 14; (with_reducible refine (impl_CoordinatesOf.calls k2 _ _ t730 t735 _ ?side1 ?side2 A17.out).mono ?_); (case side1 => refine (Kd.R_reads' (e := 3) (base := w.heap.size) (ok := fun k_ => (True ∧ nb k_ Ao30 x5_2 co30)) (n := t730.length) (c := co33) ?_).2.2; exact (rF HO732 BK734 (.slice Ao33 t730.length co33))); (case side2 => exact (Kd.R_reads' HO732.out).2.1); rintro e w36 ⟨v736, rfl, ho0, hb⟩; have HO737 := am (Kd.R_lower (Kd.R_new' (Kd.R_new' ho0 (Kd.R_lt (rF HO_5 BK734 (.slice Ao33 t730.length co33)))) (Kd.R_lt (rF HO732 BK734 (.slice Ao33 t730.length co33)))) (below_size bw)); replace HO_5 := am (Kd.R_elder' (rF HO_5 BK734 (.slice Ao33 t730.length co33)) (Kd.R_base ho0) hb); replace HO732 := am (Kd.R_elder' (rF HO732 BK734 (.slice Ao33 t730.length co33)) (Kd.R_base ho0) hb); replace BK721 := kb BK721 hb; replace BK734 := am (blk_below (g := gb734) (o := .cells #[.slice Ao33 t730.length co33] 26 (0, 0)) (by (with_reducible repeat (first | refine blk_drewN ?_ _ | refine blk_drew ?_ | refine blk_alloc ?_ _)); refine blk_put (cs := #[.slice none 0 0]) ?_ 0 _ rfl; (with_reducible repeat (first | refine blk_drewN ?_ _ | refine blk_drew ?_ | refine blk_alloc ?_ _)); exact BK734.out) hb); replace HB := am (below_step bw hb); clear hb ho0; obtain ⟨Ao37, co37, eo37⟩ := Kd.R_slice HO737.out; subst eo37) | (go_at_call 137; (with_reducible refine (slices_Equal_int_int.calls k2 _ _ t735 _ _ l0 false _ ?side1 ?side2 ?side3 ?side4 A18.out).mono ?_); (case side1 => exact co (Kd.R_reads' HO737.out).2.2); (case side2 => exact (Kd.R_reads' HO737.out).2.1); (case side3 => exact co (Kd.C_below HR0.out HB.out)); (case side4 => exact HC0.out); rintro e w' ⟨rfl, ⟨nd, rfl⟩⟩; (try (rw [drewN_self w36]; generalize hq_ : World.drewN w36 _ = w36; have n0_ : Aside0 (Kd.R (Kd.int .i64) 3 w36 w.heap.size (fun k_ => nb k_ Ao37 t735 co37 ∧ nb k_ Ao30 x5_2 co30) (.slice Ao33 t730.length co33) t730) := ⟨by rw [← hq_]; exact (by (with_reducible repeat (first | apply Kd.R_alloc | apply Kd.R_drewN | apply Kd.R_drew)); exact Kd.R_mono HO732.out (fun _ hk => by first | exact ⟨hk.2, hk.1.2⟩ | simp_all))⟩; have n1_ : Aside0 (Kd.R (Kd.int .i64) 3 w36 w.heap.size (fun k_ => nb k_ Ao33 t730 co33 ∧ nb k_ Ao30 x5_2 co30) (.slice Ao37 t735.length co37) t735) := ⟨by rw [← hq_]; exact (by (with_reducible repeat (first | apply Kd.R_alloc | apply Kd.R_drewN | apply Kd.R_drew)); exact Kd.R_mono HO737.out (fun _ hk => by first | exact ⟨hk.2, hk.1.2⟩ | simp_all))⟩; have n2_ : Aside0 (Kd.R (Kd.int .i64) 3 w36 w.heap.size (fun k_ => nb k_ Ao33 t730 co33 ∧ nb k_ Ao37 t735 co37) (.slice Ao30 x5_2.length co30) x5_2) := ⟨by rw [← hq_]; exact (by (with_reducible repeat (first | apply Kd.R_alloc | apply Kd.R_drewN | apply Kd.R_drew)); exact Kd.R_mono HO_5.out (fun _ hk => by first | exact ⟨hk.1.2, hk.2⟩ | simp_all))⟩; have n3_ : Aside0 (w36.heap[gb721]? = some (.cells #[.slice none 0 0] 26 (0, 0))) := ⟨by rw [← hq_]; exact (bo BK721.out)⟩; have n4_ : Aside0 (w36.heap[gb734]? = some (.cells #[.slice Ao33 t730.length co33] 26 (0, 0))) := ⟨by rw [← hq_]; exact (bo BK734.out)⟩; have n5_ : Aside0 (Below w.heap.size w w36) := ⟨by rw [← hq_]; exact bw⟩; clear HO732 HO737 HO_5 BK721 BK734 HB hq_; have HO732 := n0_; have HO737 := n1_; have HO_5 := n2_; have BK721 := n3_; have BK734 := n4_; have HB := n5_; clear n0_ n1_ n2_ n3_ n4_ n5_)); have hcz38_0 := bc BK721 0 (.slice none 0 0); have hfz38_0 := blk_frozen BK721.out 0))
      refine bodyPost_ret (results_ct rfl _ _ gb721 26 #[.slice none 0 0] (0, 0) _ rfl (by (with_reducible repeat (first | refine blk_drewN ?_ _ | refine blk_drew ?_ | refine blk_alloc ?_ _)); refine blk_put (cs := #[.slice none 0 0]) ?_ 0 _ rfl; (with_reducible repeat (first | refine blk_drewN ?_ _ | refine blk_drew ?_ | refine blk_alloc ?_ _)); exact BK721.out) Try.underlying26 rfl (by kernel_rfl)) rfl ?_
      exact ⟨_, re, by first | exact Kd.R_nil _ _ _ _ _ | exact Kd.N_nil _ _ _ _ _ | exact Kd.V_nil _ _ _ _ _ | exact Kd.Q_nil _ _ _ _ _ | exact Kd.S_nil _ _ _ _ _, bw⟩
     simp only [Option.some.injEq, Prod.mk.injEq] at H
     obtain ⟨rfl, rfl⟩ := H
     obtain ⟨Ao39, co39, eo39⟩ := Kd.R_slice HO_5.out
     subst eo39
     go_wp2_with (first | ((with_reducible refine gate_callee (f := 136) rfl ?_); refine gl (some 41) Try.func136 #[.slice Ao39 x5_2.length co39] ?_; (with_reducible refine (impl_FromApery.calls k2 _ _ x5_2 t730 false _ ?side1 ?side2 A15.out).mono ?_); (case side1 => exact co (Kd.R_reads' HO_5.out).2.2); (case side2 => exact (Kd.R_reads' HO_5.out).2.1); rintro e w40 ⟨v731, rfl, ho0, hb⟩; refine ⟨_, rfl, ?_⟩; have HO732 := am (Kd.R_lower (Kd.R_new' ho0 (Kd.R_lt (ro HO_5.out))) (below_size bw)); replace HO_5 := am (Kd.R_elder' (ro HO_5.out) (Kd.R_base ho0) hb); replace BK721 := kb BK721 hb; replace HB := am (below_step bw hb); clear hb ho0) | ((with_reducible refine gate_dst (N := 8) rfl ?_); refine bx 8 #[.slice none 0 0] 26 ?_; intro gb734 hg w41 hbox hb; replace HO_5 := rK HO_5 hb; replace HO732 := rK HO732 hb; have BK734 := am (hbox); have GW734 := am (gs hg : w.heap.size ≤ gb734); have GE734 := GW734; replace HB := am (below_step bw hb); have NB721_734 := nl hg BK721; have NB734_721 := ns NB721_734; replace BK721 := kb BK721 hb; clear hb hbox hg; obtain ⟨Ao42, co42, eo42⟩ := Kd.R_slice HO732.out; subst eo42; have hnb43 := NB734_721.out; have hnc43 := NB721_734.out; have hcz44_0 := bc BK734 0 (.slice none 0 0); have hfz44_0 := blk_frozen BK734.out 0; have hcz45_0 := bc BK721 0 (.slice none 0 0); have hfz45_0 := blk_frozen BK721.out 0))
     refine bodyPost_ret (results_ct rfl _ _ gb721 26 #[.slice none 0 0] (0, 0) _ rfl (by (with_reducible repeat (first | refine blk_drewN ?_ _ | refine blk_drew ?_ | refine blk_alloc ?_ _)); refine blk_put (cs := #[.slice none 0 0]) ?_ 0 _ rfl; (with_reducible repeat (first | refine blk_drewN ?_ _ | refine blk_drew ?_ | refine blk_alloc ?_ _)); refine blk_far ?_ NB721_734.out _; (with_reducible repeat (first | refine blk_drewN ?_ _ | refine blk_drew ?_ | refine blk_alloc ?_ _)); exact BK721.out) Try.underlying26 rfl (by kernel_rfl)) rfl ?_
     exact ⟨_, re, by first | exact Kd.R_nil _ _ _ _ _ | exact Kd.N_nil _ _ _ _ _ | exact Kd.V_nil _ _ _ _ _ | exact Kd.Q_nil _ _ _ _ _ | exact Kd.S_nil _ _ _ _ _, bw⟩

end Go.Proofs.Ytkfplkdchkmgbaa.C
