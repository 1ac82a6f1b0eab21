/- Contracts of functions of the program: spec_l14Marks, spec_ClassesOf. -/
import Derived.Test.YtlfdipnhlmjiaaaC0
import Derived.Test.YtlfdipnhlmjiaaaC1
import Derived.Test.YtlfdipnhlmjiaaaC7
namespace Go.Proofs.Ytlfdipnhlmjiaaa.C
open Go.RowKit Go.Proofs.YtlfdipnhlmjiaaaW.PrintWords Go.Proofs.YtlfdipnhlmjiaaaW.PrintLast Go.Proofs.YtlfdipnhlmjiaaaW.PrintMore
attribute [local go_sem] max2_int min2_int max_two min_two max_three min_three max_four min_four
set_option linter.unusedVariables false
set_option linter.unusedSimpArgs false

/-! ### spec_l14Marks: function 81 -/
mutual
def spec_l14Marks.l0 : Nat → List (List Int) → List Int → Int → Option (List Int)
 | 0, _, _, _ => none
 | k + 1, x0, x3, x4 => if x4 < (x0.length : Int) then (if x3.length < 17592186044416 then (spec_l14Marks.l0 k x0 (x3 ++ [x4]) (wrap64 (x4 + 1))) else (none)) else (spec_l14Marks.l1 k x0 x3 0)
def spec_l14Marks.l1 : Nat → List (List Int) → List Int → Int → Option (List Int)
 | 0, _, _, _ => none
 | k + 1, x0, x3, x5 => if x5 < (x0.length : Int) then (spec_l14Marks.l2 k x0 x3 x5 0) else (some x3)
def spec_l14Marks.l2 : Nat → List (List Int) → List Int → Int → Int → Option (List Int)
 | 0, _, _, _, _ => none
 | k + 1, x0, x3, x5, x6 => if x6 < x5 then (if 0 ≤ x5 then (if x5 < (x3.length : Int) then (if 0 ≤ x6 then (if x6 < (x3.length : Int) then (if (rd x3 x5) = (rd x3 x6) then (spec_l14Marks.j3 k x0 x3 x5 x6 true) else (if x5 < (x0.length : Int) then (if x6 < (x0.length : Int) then ((spec_l14Linked.f k (rd_L2 x0 x5) (rd_L2 x0 x6)).bind fun t527 => (spec_l14Marks.j3 k x0 x3 x5 x6 (!t527))) else (none)) else (none))) else (none)) else (none)) else (none)) else (none)) else (spec_l14Marks.l1 k x0 x3 (wrap64 (x5 + 1)))
def spec_l14Marks.j3 : Nat → List (List Int) → List Int → Int → Int → Bool → Option (List Int)
 | 0, _, _, _, _, _ => none
 | k + 1, x0, x3, x5, x6, x52 => if x52 = true then (spec_l14Marks.l2 k x0 x3 x5 (wrap64 (x6 + 1))) else (if 0 ≤ x5 then (if x5 < (x3.length : Int) then (if 0 ≤ x6 then (if x6 < (x3.length : Int) then ((spec_l1Min.f (rd x3 x5) (rd x3 x6)).bind fun t530 => ((spec_l1Max.f (rd x3 x5) (rd x3 x6)).bind fun t533 => (spec_l14Marks.l3 k x0 x3 x5 x6 t530 t533 0))) else (none)) else (none)) else (none)) else (none))
def spec_l14Marks.l3 : Nat → List (List Int) → List Int → Int → Int → Int → Int → Int → Option (List Int)
 | 0, _, _, _, _, _, _, _ => none
 | k + 1, x0, x3, x5, x6, x7, x8, x9 => if x9 < (x0.length : Int) then (if 0 ≤ x9 then (if x9 < (x3.length : Int) then (if (rd x3 x9) = x8 then (spec_l14Marks.l3 k x0 (x3.set (x9 : Int).toNat x7) x5 x6 x7 x8 (wrap64 (x9 + 1))) else (spec_l14Marks.l3 k x0 x3 x5 x6 x7 x8 (wrap64 (x9 + 1)))) else (none)) else (none)) else (spec_l14Marks.l2 k x0 x3 x5 (wrap64 (x6 + 1)))
end
def spec_l14Marks.f (k : Nat) (l0 : List (List Int)) : Option (List Int) := spec_l14Marks.l0 k l0 (([] : List Int)) 0
set_option maxHeartbeats 8000000 in
set_option maxRecDepth 100000 in
theorem spec_l14Marks.calls (k : Nat) (A0 : Option Addr) (c0 : Nat) (l0 : List (List Int)) (r : List Int) (w : World) (hr0 : Kd.C (Kd.slice 3 (Kd.int .i64)) w A0 l0.length l0) (hc0 : l0.length ≤ c0) (h : spec_l14Marks.f k l0 = some r) :
  Calls Try.prog 81 #[.slice A0 l0.length c0] w fun e w' => ∃ v0_ : Value, e = .returned (v0_) ∧ Kd.R (Kd.int .i64) 3 w' w.heap.size (fun _ => True) v0_ r ∧ Below w.heap.size w w' := by
 have HR0 := am hr0
 have HC0 := am hc0
 clear hr0 hc0
 have HB := am (Below.refl w.heap.size w)
 have H : (spec_l14Marks.l0 k l0 (([] : List Int)) 0) = some r := h
 clear h
 obtain ⟨y517, hy517⟩ : ∃ y_ : List Int, y_ = (([] : List Int)) := ⟨_, rfl⟩
 replace H : (spec_l14Marks.l0 k l0 y517 0) = some r := by first | (rw [hy517]; with_reducible first | exact H | exact bs H) | (with_reducible first | exact bs H | exact H) | (rw [hy517]; exact H) | exact H
 have Ny517 := am hy517
 clear hy517
 have H' := am H
 clear H
 go_enter Try.func81, Try.ntmps81
 go_wp2_with (first | ((with_reducible refine gate_dst (N := 10) rfl ?_); refine Kd.R_lit (Kd.int .i64) _ 3 ?hg (N := 10) ?hd (xs := ([] : List Int)) (inner := []) (ok := fun _ => True) (okp := fun _ => True) ?hr ?hp (fun _ hk => hk) trivial (Below.refl _ _) (Nat.le_refl _) (by simp) ?_; (case hd => rfl); (case hg => rfl); (case hr => first | (go_simp; done) | (go_simp; rfl)); (case hp => exact (Reps.none _ _)); intro v518 w2 ho3 hb hg_ hnew_; clear hg_ hnew_; (first | rw [← Ny517.out] at ho3 | (simp only [Int.reduceToNat] at ho3; rw [← Ny517.out] at ho3)); have HO519 := am (Kd.R_lower ho3 (below_size bw)); replace HB := am (below_step bw hb); clear hb ho3))
 repeat (go_quiet (first | ((with_reducible refine gate_dst (N := 10) rfl ?_); refine Kd.R_lit (Kd.int .i64) _ 3 ?hg (N := 10) ?hd (xs := ([] : List Int)) (inner := []) (ok := fun _ => True) (okp := fun _ => True) ?hr ?hp (fun _ hk => hk) trivial (Below.refl _ _) (Nat.le_refl _) (by simp) ?_; (case hd => rfl); (case hg => rfl); (case hr => first | (go_simp; done) | (go_simp; rfl)); (case hp => exact (Reps.none _ _)); intro v518 w2 ho3 hb hg_ hnew_; clear hg_ hnew_; (first | rw [← Ny517.out] at ho3 | (simp only [Int.reduceToNat] at ho3; rw [← Ny517.out] at ho3)); have n0_ := am (Kd.R_lower ho3 (below_size bw)); have n1_ := am (below_step bw hb); clear HB; have HO519 := n0_; have HB := n1_; clear n0_ n1_; clear hb ho3)); try go_wp2_with (first | ((with_reducible refine gate_dst (N := 10) rfl ?_); refine Kd.R_lit (Kd.int .i64) _ 3 ?hg (N := 10) ?hd (xs := ([] : List Int)) (inner := []) (ok := fun _ => True) (okp := fun _ => True) ?hr ?hp (fun _ hk => hk) trivial (Below.refl _ _) (Nat.le_refl _) (by simp) ?_; (case hd => rfl); (case hg => rfl); (case hr => first | (go_simp; done) | (go_simp; rfl)); (case hp => exact (Reps.none _ _)); intro v518 w2 ho3 hb hg_ hnew_; clear hg_ hnew_; (first | rw [← Ny517.out] at ho3 | (simp only [Int.reduceToNat] at ho3; rw [← Ny517.out] at ho3)); have n0_ := am (Kd.R_lower ho3 (below_size bw)); have n1_ := am (below_step bw hb); clear HB; have HO519 := n0_; have HB := n1_; clear n0_ n1_; clear hb ho3)))
 go_loopg [3, 4] k (fun kq v3 v4 w' => ∃ (x3_1 : List Int) (x4_1 : Int), v4 = .int .i64 x4_1 ∧ Aside0 (spec_l14Marks.l0 kq l0 x3_1 x4_1 = some r) ∧ Aside0 (kq ≤ k) ∧ Aside0 (Kd.R (Kd.int .i64) 3 w' w.heap.size (fun _ => True) v3 x3_1) ∧ Aside0 (Below w.heap.size w w'))
 case atStart => exact ⟨(y517), (0), rr, H', ⟨Nat.le_refl _⟩, ⟨ro HO519.out⟩, ⟨bw⟩⟩
 case round =>
  clear H'
  obtain ⟨x3_1, x4_1, rfl, HA, HK1, HO_3, HB⟩ := hrel
  cases gk with
  | zero => exact absurd HA.out (by simp [spec_l14Marks.l0])
  | succ k1 =>
   have H := HA.out
   clear HA
   simp only [spec_l14Marks.l0] at H
   replace H := gi H; obtain ⟨c4b0, H⟩ | ⟨c4b0, H⟩ := H
   ·by_cases c5 : x3_1.length < 17592186044416
    rotate_left
    ·rw [if_neg c5] at H
     exact absurd H (by simp)
    rw [if_pos c5] at H
    have LMc5 := am c5
    clear c5
    obtain ⟨y520, hy520⟩ : ∃ y_ : List Int, y_ = (x3_1 ++ [x4_1]) := ⟨_, rfl⟩
    replace H : (spec_l14Marks.l0 k1 l0 y520 (wrap64 (x4_1 + 1))) = some r := by first | (rw [hy520]; with_reducible first | exact H | exact bs H) | (with_reducible first | exact bs H | exact H) | (rw [hy520]; exact H) | exact H
    have Ny520 := am hy520
    clear hy520
    have H' := am H
    clear H
    go_wp2_with (first | ((with_reducible refine gate_builtin (b := .append) (xs := #[.tmp 17, .tmp 19]) rfl ?_); at_builtin; refine Kd.R_append (Kd.int .i64) (w0 := w) w.heap.size rfl (.tmp 17) (.tmp 19) 22 3 (.int .i64 0) 8 rfl Try.underlying22 info3 rfl (by decide) (by omega) u3 x3_1 x4_1 [.int .i64 x4_1] (fun _ => True) (fun _ => False) rfl rfl ?aP (fun _ hk => hk.elim) ?aF ?aO ?aB ?aS ?aL ?_; (case aP => exact rfl); (case aB => exact bw); (case aF => exact (fun _ _ => trivial)); (case aO => exact (ro HO_3.out)); (case aS => exact (below_size bw)); (case aL => have := LMc5.out; omega); intro v521 w6 ho hb hg hat; rw [← Ny520.out] at ho; replace HB := am (hb); have HO522 := am (ho); clear HO_3 ho hb hg hat))
    repeat (go_quiet (first | ((with_reducible refine gate_builtin (b := .append) (xs := #[.tmp 17, .tmp 19]) rfl ?_); at_builtin; refine Kd.R_append (Kd.int .i64) (w0 := w) w.heap.size rfl (.tmp 17) (.tmp 19) 22 3 (.int .i64 0) 8 rfl Try.underlying22 info3 rfl (by decide) (by omega) u3 x3_1 x4_1 [.int .i64 x4_1] (fun _ => True) (fun _ => False) rfl rfl ?aP (fun _ hk => hk.elim) ?aF ?aO ?aB ?aS ?aL ?_; (case aP => exact rfl); (case aB => exact bw); (case aF => exact (fun _ _ => trivial)); (case aO => exact (ro HO_3.out)); (case aS => exact (below_size bw)); (case aL => have := LMc5.out; omega); intro v521 w6 ho hb hg hat; rw [← Ny520.out] at ho; have n0_ := am (hb); have n1_ := am (ho); clear HB; clear HO_3; have HB := n0_; have HO522 := n1_; clear n0_ n1_; clear ho hb hg hat)); try go_wp2_with (first | ((with_reducible refine gate_builtin (b := .append) (xs := #[.tmp 17, .tmp 19]) rfl ?_); at_builtin; refine Kd.R_append (Kd.int .i64) (w0 := w) w.heap.size rfl (.tmp 17) (.tmp 19) 22 3 (.int .i64 0) 8 rfl Try.underlying22 info3 rfl (by decide) (by omega) u3 x3_1 x4_1 [.int .i64 x4_1] (fun _ => True) (fun _ => False) rfl rfl ?aP (fun _ hk => hk.elim) ?aF ?aO ?aB ?aS ?aL ?_; (case aP => exact rfl); (case aB => exact bw); (case aF => exact (fun _ _ => trivial)); (case aO => exact (ro HO_3.out)); (case aS => exact (below_size bw)); (case aL => have := LMc5.out; omega); intro v521 w6 ho hb hg hat; rw [← Ny520.out] at ho; have n0_ := am (hb); have n1_ := am (ho); clear HB; clear HO_3; have HB := n0_; have HO522 := n1_; clear n0_ n1_; clear ho hb hg hat)))
    go_roundg k1
    case measure => have := HK1.out; omega
    case rel => exact ⟨(y520), (wrap64 (x4_1 + 1)), rr, H', ⟨by have := HK1.out; omega⟩, ⟨ro HO522.out⟩, ⟨bw⟩⟩
   have H' := am H
   clear H
   go_wp2
   repeat (go_quiet (fail); try go_wp2)
   go_loopg [5] k1 (fun kq v5 w' => ∃ (x3_2 : List Int) (x5_2 : Int), v5 = .int .i64 x5_2 ∧ Aside0 (spec_l14Marks.l1 kq l0 x3_2 x5_2 = some r) ∧ Aside0 (kq ≤ k1) ∧ Aside0 (Kd.R (Kd.int .i64) 3 w' w.heap.size (fun _ => True) u3 x3_2) ∧ Aside0 (Below w.heap.size w w'))
   case atStart => exact ⟨(x3_1), (0), rr, H', ⟨Nat.le_refl _⟩, ⟨ro HO_3.out⟩, ⟨bw⟩⟩
   case round =>
    clear H'
    try clear c4b0; try clear c5
    obtain ⟨x3_2, x5_2, rfl, HA, HK2, HO_3, HB⟩ := hrel
    cases gk with
    | zero => exact absurd HA.out (by simp [spec_l14Marks.l1])
    | succ k2 =>
     have H := HA.out
     clear HA
     simp only [spec_l14Marks.l1] at H
     replace H := gi H; obtain ⟨c7b0, H⟩ | ⟨c7b0, H⟩ := H
     ·have H' := am H
      clear H
      go_wp2
      repeat (go_quiet (fail); try go_wp2)
      go_loopg [6] k2 (fun kq v6 w' => ∃ (x3_3 : List Int) (x6_3 : Int), v6 = .int .i64 x6_3 ∧ Aside0 (spec_l14Marks.l2 kq l0 x3_3 x5_2 x6_3 = some r) ∧ Aside0 (kq ≤ k2) ∧ Aside0 (Kd.R (Kd.int .i64) 3 w' w.heap.size (fun _ => True) u3 x3_3) ∧ Aside0 (Below w.heap.size w w'))
      case atStart => exact ⟨(x3_2), (0), rr, H', ⟨Nat.le_refl _⟩, ⟨ro HO_3.out⟩, ⟨bw⟩⟩
      case round =>
       clear H'
       try clear c4b0; try clear c5; try clear c7b0
       obtain ⟨x3_3, x6_3, rfl, HA, HK3, HO_3, HB⟩ := hrel
       cases gk with
       | zero => exact absurd HA.out (by simp [spec_l14Marks.l2])
       | succ k3 =>
        have H := HA.out
        clear HA
        simp only [spec_l14Marks.l2] at H
        replace H := gi H; obtain ⟨c8b0, H⟩ | ⟨c8b0, H⟩ := H
        ·have HC9 := am H
         clear H
         go_upto_region 12 with (fail)
         repeat (go_quiet (fail); go_upto_region 12 with (fail))
         go_cut [52] (fun v52 wc => ∃ (kq : Nat) (x52_8 : Bool), v52 = .bool x52_8 ∧ Aside0 (spec_l14Marks.j3 kq l0 x3_3 x5_2 x6_3 x52_8 = some r) ∧ Aside0 (kq ≤ k3) ∧ Aside0 (Kd.R (Kd.int .i64) 3 wc w.heap.size (fun _ => True) u3 x3_3) ∧ Aside0 (Below w.heap.size w wc))
         case first =>
          have H := HC9.out
          clear HC9
          replace H := gd H; obtain ⟨c10b0, H⟩ := H
          (first | rw [c10b0] | (simp only [i64_w, i32_w]; rw [c10b0]) | skip)
          replace H := gd H; obtain ⟨c11b0, H⟩ := H
          replace H := gd H; obtain ⟨c12b0, H⟩ := H
          replace H := gd H; obtain ⟨c13b0, H⟩ := H
          by_cases c14 : (rd x3_3 x5_2) = (rd x3_3 x6_3)
          ·rw [if_pos c14] at H
           have c14b0 : ((rd x3_3 x5_2) == (rd x3_3 x6_3)) = true := beq_iff_eq.mpr c14
           have c14b1 : ((rd x3_3 x5_2) != (rd x3_3 x6_3)) = false := bne_eq_false_iff_eq.mpr c14
           clear c14
           have H' := am H
           clear H
           obtain ⟨Ao15, co15, eo15⟩ := Kd.R_slice HO_3.out
           subst eo15
           obtain ⟨⟨ad523, e523, hx523_0⟩, p523, q523⟩ := pq (Kd.at_int (Kd.R_reads' HO_3.out).2.2 x5_2)
           cases e523
           obtain ⟨⟨ad524, e524, hx524_0⟩, p524, q524⟩ := pq (Kd.at_int (Kd.R_reads' HO_3.out).2.2 x6_3)
           obtain rfl : ad523 = ad524 := (by injection e524)
           go_wp2
           repeat (go_quiet (fail); try go_wp2)
           go_meet
           case rel => exact ⟨_, (true), rr, H', ⟨by have := HK1.out; have := HK2.out; have := HK3.out; first | omega | exact Nat.le_refl _⟩, ⟨ro HO_3.out⟩, ⟨bw⟩⟩
          rw [if_neg c14] at H
          have c14b0 : ((rd x3_3 x5_2) == (rd x3_3 x6_3)) = false := beq_eq_false_iff_ne.mpr c14
          have c14b1 : ((rd x3_3 x5_2) != (rd x3_3 x6_3)) = true := bne_iff_ne.mpr c14
          replace H := gd H; obtain ⟨c16b0, H⟩ := H
          replace H := gd H; obtain ⟨c17b0, H⟩ := H
          replace H := ga H; obtain ⟨t527, A18, H⟩ := H
          have H' := am H
          clear H
          obtain ⟨Ao19, co19, eo19⟩ := Kd.R_slice HO_3.out
          subst eo19
          obtain ⟨⟨ad523, e523, hx523_0⟩, p523, q523⟩ := pq (Kd.at_int (Kd.R_reads' HO_3.out).2.2 x5_2)
          cases e523
          obtain ⟨⟨ad524, e524, hx524_0⟩, p524, q524⟩ := pq (Kd.at_int (Kd.R_reads' HO_3.out).2.2 x6_3)
          obtain rfl : ad523 = ad524 := (by injection e524)
          obtain ⟨⟨ad525, A525_0, c525_0, e525, hx525_0, hl525_0, hi525_0⟩, p525, q525⟩ := pq (at_L2 HR0.out x5_2)
          cases e525
          replace hx525_0 := hw HB hx525_0
          have HR525_0 := am hi525_0
          have HC525_0 := am hl525_0
          clear hi525_0 hl525_0
          obtain ⟨⟨ad526, A526_0, c526_0, e526, hx526_0, hl526_0, hi526_0⟩, p526, q526⟩ := pq (at_L2 HR0.out x6_3)
          obtain rfl : ad525 = ad526 := (by injection e526)
          replace hx526_0 := hw HB hx526_0
          have HR526_0 := am hi526_0
          have HC526_0 := am hl526_0
          clear hi526_0 hl526_0
          go_wp2_with (first | (go_at_call 131; (with_reducible refine (spec_l14Linked.calls k3 _ _ (rd_L2 l0 x5_2) _ _ (rd_L2 l0 x6_3) t527 _ ?side1 ?side2 ?side3 ?side4 A18.out).mono ?_); (case side1 => exact co (Kd.C_below HR525_0.out HB.out)); (case side2 => exact HC525_0.out); (case side3 => exact co (Kd.C_below HR526_0.out HB.out)); (case side4 => exact HC526_0.out); rintro e w' ⟨rfl, ⟨nd, rfl⟩⟩; (try first | exact ⟨rfl, _, World.drewN_drewN _ _ _⟩ | exact ⟨rfl, _, Eq.trans (World.drewN_drewN _ _ _) (congrArg (World.drewN _) (Nat.add_assoc _ _ _))⟩)))
          repeat (go_quiet (first | (go_at_call 131; (with_reducible refine (spec_l14Linked.calls k3 _ _ (rd_L2 l0 x5_2) _ _ (rd_L2 l0 x6_3) t527 _ ?side1 ?side2 ?side3 ?side4 A18.out).mono ?_); (case side1 => exact co (Kd.C_below HR525_0.out HB.out)); (case side2 => exact HC525_0.out); (case side3 => exact co (Kd.C_below HR526_0.out HB.out)); (case side4 => exact HC526_0.out); rintro e w' ⟨rfl, ⟨nd, rfl⟩⟩; (try first | exact ⟨rfl, _, World.drewN_drewN _ _ _⟩ | exact ⟨rfl, _, Eq.trans (World.drewN_drewN _ _ _) (congrArg (World.drewN _) (Nat.add_assoc _ _ _))⟩))); try go_wp2_with (first | (go_at_call 131; (with_reducible refine (spec_l14Linked.calls k3 _ _ (rd_L2 l0 x5_2) _ _ (rd_L2 l0 x6_3) t527 _ ?side1 ?side2 ?side3 ?side4 A18.out).mono ?_); (case side1 => exact co (Kd.C_below HR525_0.out HB.out)); (case side2 => exact HC525_0.out); (case side3 => exact co (Kd.C_below HR526_0.out HB.out)); (case side4 => exact HC526_0.out); rintro e w' ⟨rfl, ⟨nd, rfl⟩⟩; (try first | exact ⟨rfl, _, World.drewN_drewN _ _ _⟩ | exact ⟨rfl, _, Eq.trans (World.drewN_drewN _ _ _) (congrArg (World.drewN _) (Nat.add_assoc _ _ _))⟩))))
          go_meet
          case rel => exact ⟨_, (!t527), rr, H', ⟨by have := HK1.out; have := HK2.out; have := HK3.out; first | omega | exact Nat.le_refl _⟩, ⟨ro HO_3.out⟩, ⟨bw⟩⟩
         case rest =>
          clear HC9
          try clear c4b0; try clear c5; try clear c7b0; try clear c8b0; try clear c10b0; try clear c11b0; try clear c12b0; try clear c13b0; try clear c14; try clear c14b0; try clear c14b1; try clear c16b0; try clear c17b0; try clear hx523_0; try clear hx524_0; try clear hx525_0; try clear hx526_0; try clear p523; try clear p524; try clear p525; try clear p526; try clear q523; try clear q524; try clear q525; try clear q526
          obtain ⟨kq, x52_8, rfl, HA, HJ8, HO_3, HB⟩ := hcut
          cases kq with
          | zero => exact absurd HA.out (by simp [spec_l14Marks.j3])
          | succ kj8 =>
           have H := HA.out
           clear HA
           simp only [spec_l14Marks.j3] at H
           replace H := gb H; obtain ⟨rfl, H⟩ | ⟨rfl, H⟩ := H
           ·have H' := am H
            clear H
            go_wp2
            repeat (go_quiet (fail); try go_wp2)
            go_roundg kj8
            case measure => have := HK1.out; have := HK2.out; have := HK3.out; have := HJ8.out; omega
            case rel => exact ⟨(x3_3), (wrap64 (x6_3 + 1)), rr, H', ⟨by have := HK1.out; have := HK2.out; have := HK3.out; have := HJ8.out; omega⟩, ⟨ro HO_3.out⟩, ⟨bw⟩⟩
           replace H := gd H; obtain ⟨c21b0, H⟩ := H
           replace H := gd H; obtain ⟨c22b0, H⟩ := H
           replace H := gd H; obtain ⟨c23b0, H⟩ := H
           replace H := gd H; obtain ⟨c24b0, H⟩ := H
           replace H := ga H; obtain ⟨t530, A25, H⟩ := H
           replace H := ga H; obtain ⟨t533, A26, H⟩ := H
           have H' := am H
           clear H
           obtain ⟨Ao27, co27, eo27⟩ := Kd.R_slice HO_3.out
           subst eo27
           obtain ⟨⟨ad528, e528, hx528_0⟩, p528, q528⟩ := pq (Kd.at_int (Kd.R_reads' HO_3.out).2.2 x5_2)
           cases e528
           obtain ⟨⟨ad529, e529, hx529_0⟩, p529, q529⟩ := pq (Kd.at_int (Kd.R_reads' HO_3.out).2.2 x6_3)
           obtain rfl : ad528 = ad529 := (by injection e529)
           go_wp2_with (first | (go_at_call 132; (with_reducible refine (spec_l1Min.calls (rd x3_3 x5_2) (rd x3_3 x6_3) t530 _ A25.out).mono ?_); rintro e w' ⟨rfl, ⟨nd, rfl⟩⟩; (try first | exact ⟨rfl, _, World.drewN_drewN _ _ _⟩ | exact ⟨rfl, _, Eq.trans (World.drewN_drewN _ _ _) (congrArg (World.drewN _) (Nat.add_assoc _ _ _))⟩); have p531 : 0 ≤ (x5_2 : Int) := of_decide_eq_true (by first | (with_reducible assumption) | assumption); have q531 : x5_2 < (x3_3.length : Int) := of_decide_eq_true (by first | (with_reducible assumption) | assumption); obtain ⟨ad531, e531, hx531_0⟩ := Kd.at_int (Kd.R_reads' HO_3.out).2.2 x5_2 p531 q531; obtain rfl : ad528 = ad531 := (by injection e531); replace p531 := eq_true p531; replace q531 := eq_true q531; have p532 : 0 ≤ (x6_3 : Int) := of_decide_eq_true (by first | (with_reducible assumption) | assumption); have q532 : x6_3 < (x3_3.length : Int) := of_decide_eq_true (by first | (with_reducible assumption) | assumption); obtain ⟨ad532, e532, hx532_0⟩ := Kd.at_int (Kd.R_reads' HO_3.out).2.2 x6_3 p532 q532; obtain rfl : ad528 = ad532 := (by injection e532); replace p532 := eq_true p532; replace q532 := eq_true q532) | (go_at_call 60; (with_reducible refine (spec_l1Max.calls (rd x3_3 x5_2) (rd x3_3 x6_3) t533 _ A26.out).mono ?_); rintro e w' ⟨rfl, ⟨nd, rfl⟩⟩; (try first | exact ⟨rfl, _, World.drewN_drewN _ _ _⟩ | exact ⟨rfl, _, Eq.trans (World.drewN_drewN _ _ _) (congrArg (World.drewN _) (Nat.add_assoc _ _ _))⟩)))
           repeat (go_quiet (first | (go_at_call 132; (with_reducible refine (spec_l1Min.calls (rd x3_3 x5_2) (rd x3_3 x6_3) t530 _ A25.out).mono ?_); rintro e w' ⟨rfl, ⟨nd, rfl⟩⟩; (try first | exact ⟨rfl, _, World.drewN_drewN _ _ _⟩ | exact ⟨rfl, _, Eq.trans (World.drewN_drewN _ _ _) (congrArg (World.drewN _) (Nat.add_assoc _ _ _))⟩); have p531 : 0 ≤ (x5_2 : Int) := of_decide_eq_true (by first | (with_reducible assumption) | assumption); have q531 : x5_2 < (x3_3.length : Int) := of_decide_eq_true (by first | (with_reducible assumption) | assumption); obtain ⟨ad531, e531, hx531_0⟩ := Kd.at_int (Kd.R_reads' HO_3.out).2.2 x5_2 p531 q531; obtain rfl : ad528 = ad531 := (by injection e531); replace p531 := eq_true p531; replace q531 := eq_true q531; have p532 : 0 ≤ (x6_3 : Int) := of_decide_eq_true (by first | (with_reducible assumption) | assumption); have q532 : x6_3 < (x3_3.length : Int) := of_decide_eq_true (by first | (with_reducible assumption) | assumption); obtain ⟨ad532, e532, hx532_0⟩ := Kd.at_int (Kd.R_reads' HO_3.out).2.2 x6_3 p532 q532; obtain rfl : ad528 = ad532 := (by injection e532); replace p532 := eq_true p532; replace q532 := eq_true q532) | (go_at_call 60; (with_reducible refine (spec_l1Max.calls (rd x3_3 x5_2) (rd x3_3 x6_3) t533 _ A26.out).mono ?_); rintro e w' ⟨rfl, ⟨nd, rfl⟩⟩; (try first | exact ⟨rfl, _, World.drewN_drewN _ _ _⟩ | exact ⟨rfl, _, Eq.trans (World.drewN_drewN _ _ _) (congrArg (World.drewN _) (Nat.add_assoc _ _ _))⟩))); try go_wp2_with (first | (go_at_call 132; (with_reducible refine (spec_l1Min.calls (rd x3_3 x5_2) (rd x3_3 x6_3) t530 _ A25.out).mono ?_); rintro e w' ⟨rfl, ⟨nd, rfl⟩⟩; (try first | exact ⟨rfl, _, World.drewN_drewN _ _ _⟩ | exact ⟨rfl, _, Eq.trans (World.drewN_drewN _ _ _) (congrArg (World.drewN _) (Nat.add_assoc _ _ _))⟩); have p531 : 0 ≤ (x5_2 : Int) := of_decide_eq_true (by first | (with_reducible assumption) | assumption); have q531 : x5_2 < (x3_3.length : Int) := of_decide_eq_true (by first | (with_reducible assumption) | assumption); obtain ⟨ad531, e531, hx531_0⟩ := Kd.at_int (Kd.R_reads' HO_3.out).2.2 x5_2 p531 q531; obtain rfl : ad528 = ad531 := (by injection e531); replace p531 := eq_true p531; replace q531 := eq_true q531; have p532 : 0 ≤ (x6_3 : Int) := of_decide_eq_true (by first | (with_reducible assumption) | assumption); have q532 : x6_3 < (x3_3.length : Int) := of_decide_eq_true (by first | (with_reducible assumption) | assumption); obtain ⟨ad532, e532, hx532_0⟩ := Kd.at_int (Kd.R_reads' HO_3.out).2.2 x6_3 p532 q532; obtain rfl : ad528 = ad532 := (by injection e532); replace p532 := eq_true p532; replace q532 := eq_true q532) | (go_at_call 60; (with_reducible refine (spec_l1Max.calls (rd x3_3 x5_2) (rd x3_3 x6_3) t533 _ A26.out).mono ?_); rintro e w' ⟨rfl, ⟨nd, rfl⟩⟩; (try first | exact ⟨rfl, _, World.drewN_drewN _ _ _⟩ | exact ⟨rfl, _, Eq.trans (World.drewN_drewN _ _ _) (congrArg (World.drewN _) (Nat.add_assoc _ _ _))⟩))))
           go_loopg [9] kj8 (fun kq v9 w' => ∃ (x3_5 : List Int) (x9_5 : Int), v9 = .int .i64 x9_5 ∧ Aside0 (spec_l14Marks.l3 kq l0 x3_5 x5_2 x6_3 t530 t533 x9_5 = some r) ∧ Aside0 (kq ≤ kj8) ∧ Aside0 (Kd.R (Kd.int .i64) 3 w' w.heap.size (fun _ => True) (.slice (some ad528) x3_3.length co27) x3_5) ∧ Aside0 (Below w.heap.size w w'))
           case atStart => exact ⟨(x3_3), (0), rr, H', ⟨Nat.le_refl _⟩, ⟨ro HO_3.out⟩, ⟨bw⟩⟩
           case round =>
            clear H'
            try clear c4b0; try clear c5; try clear c7b0; try clear c8b0; try clear c10b0; try clear c11b0; try clear c12b0; try clear c13b0; try clear c14; try clear c14b0; try clear c14b1; try clear c16b0; try clear c17b0; try clear c21b0; try clear c22b0; try clear c23b0; try clear c24b0; try clear hx523_0; try clear hx524_0; try clear hx525_0; try clear hx526_0; try clear hx528_0; try clear hx529_0; try clear hx531_0; try clear hx532_0; try clear p523; try clear p524; try clear p525; try clear p526; try clear p528; try clear p529; try clear p531; try clear p532; try clear q523; try clear q524; try clear q525; try clear q526; try clear q528; try clear q529; try clear q531; try clear q532
            obtain ⟨x3_5, x9_5, rfl, HA, HK5, HO_3, HB⟩ := hrel
            have hl3_5 := (Kd.R_reads' HO_3.out).1
            rw [hl3_5] at HO_3
            (try simp only [hl3_5])
            cases gk with
            | zero => exact absurd HA.out (by simp [spec_l14Marks.l3])
            | succ k5 =>
             have H := HA.out
             clear HA
             simp only [spec_l14Marks.l3] at H
             replace H := gi H; obtain ⟨c28b0, H⟩ | ⟨c28b0, H⟩ := H
             ·replace H := gd H; obtain ⟨c29b0, H⟩ := H
              by_cases c30 : x9_5 < (x3_5.length : Int)
              rotate_left
              ·rw [if_neg c30] at H
               exact absurd H (by simp)
              rw [if_pos c30] at H
              have c30b0 : decide (x9_5 < (x3_5.length : Int)) = true := decide_eq_true c30
              (try simp only [hl3_5] at c30b0)
              clear c30
              by_cases c31 : (rd x3_5 x9_5) = t533
              ·rw [if_pos c31] at H
               have c31b0 : ((rd x3_5 x9_5) == t533) = true := beq_iff_eq.mpr c31
               have c31b1 : ((rd x3_5 x9_5) != t533) = false := bne_eq_false_iff_eq.mpr c31
               clear c31
               obtain ⟨y535, hy535⟩ : ∃ y_ : List Int, y_ = (x3_5.set (x9_5 : Int).toNat t530) := ⟨_, rfl⟩
               replace H : (spec_l14Marks.l3 k5 l0 y535 x5_2 x6_3 t530 t533 (wrap64 (x9_5 + 1))) = some r := by first | (rw [hy535]; with_reducible first | exact H | exact bs H) | (with_reducible first | exact bs H | exact H) | (rw [hy535]; exact H) | exact H
               have Ny535 := am hy535
               clear hy535
               have H' := am H
               clear H
               obtain ⟨⟨ad534, e534, hx534_0⟩, p534, q534⟩ := pq (Kd.at_int (Kd.R_reads' HO_3.out).2.2 x9_5)
               obtain rfl : ad528 = ad534 := (by injection e534)
               have p32 : 0 ≤ (x9_5 : Int) := of_decide_eq_true (by first | (with_reducible assumption) | assumption)
               have q32 : (x9_5 : Int) < ((x3_5.length : Int) : Int) := of_decide_eq_true (by first | (with_reducible assumption) | assumption)
               obtain ⟨go32, co32, eo32, gb32, gl32, cl32, HG32⟩ := Kd.R_form HO_3.out (by omega)
               (first | cases eo32 | (injection eo32 with ea_ en_ ec_; (first | subst ea_ | (injection ea_ with ea_; subst ea_)); subst ec_; clear en_))
               have GB32 := am gb32
               have GG32 := am HG32
               clear gb32 gl32 HG32
               (first | simp only [add_plain] at hx528_0 | skip)
               (first | simp only [add_plain] at hx529_0 | skip)
               (first | simp only [add_plain] at hx531_0 | skip)
               (first | simp only [add_plain] at hx532_0 | skip)
               (first | simp only [add_plain] at hx534_0 | skip)
               obtain ⟨hx32_0, hf32_0⟩ := Kd.R_celln 0 HO_3.out (x9_5 : Int) p32 q32
               replace p32 := eq_true p32
               replace q32 := eq_true q32
               have HP33 := Kd.R_putg HO_3.out (x9_5 : Int) t530
               go_wp2_with (first | ((with_reducible refine gate_store (t := 3) (p := 86) rfl ?_); (try (rw [drewN_self wr]; generalize hq_ : World.drewN wr _ = wr; have n0_ := am (Kd.R_at hq_ HO_3.out); have n1_ := am (below_at hq_ HB.out); clear hq_ HO_3 HB; have HO_3 := n0_; have HB := n1_; clear n0_ n1_; (try (have HP33 := Kd.R_putg HO_3.out (x9_5 : Int) t530)))); refine store_event (t := 3) (p := 86) (v := ?vo_w34) (w1 := (wr.setCell ⟨go32, (x9_5 : Int).toNat, none⟩ (.int .i64 t530))) ?hg ?ho ?hn ?hr ?_; (case ho => rfl); (case hg => rfl); (case hn => rfl); (case hr => first | (go_simp; done) | (go_simp; rfl)); intro w34 hw; have hg : wr.grownBy w34 (some go32) := (by rw [hw]; exact HP33.2); have hp_ : Kd.R (Kd.int .i64) 3 w34 w.heap.size (fun _ => True) (.slice (some ⟨go32, 0, none⟩) x3_5.length co27) y535 := (by rw [hw, Ny535.out]; exact HP33.1); clear HP33; replace HO_3 := am (hp_); replace HB := am ((by rw [hw]; exact below_set (HB.out) GB32.out : Below w.heap.size w w34)); clear hg hw hp_))
               repeat (go_quiet (first | ((with_reducible refine gate_store (t := 3) (p := 86) rfl ?_); (try (rw [drewN_self wr]; generalize hq_ : World.drewN wr _ = wr; have n0_ := am (Kd.R_at hq_ HO_3.out); have n1_ := am (below_at hq_ HB.out); clear hq_ HO_3 HB; have HO_3 := n0_; have HB := n1_; clear n0_ n1_; (try (have HP33 := Kd.R_putg HO_3.out (x9_5 : Int) t530)))); refine store_event (t := 3) (p := 86) (v := ?vo_w34) (w1 := (wr.setCell ⟨go32, (x9_5 : Int).toNat, none⟩ (.int .i64 t530))) ?hg ?ho ?hn ?hr ?_; (case ho => rfl); (case hg => rfl); (case hn => rfl); (case hr => first | (go_simp; done) | (go_simp; rfl)); intro w34 hw; have hg : wr.grownBy w34 (some go32) := (by rw [hw]; exact HP33.2); have hp_ : Kd.R (Kd.int .i64) 3 w34 w.heap.size (fun _ => True) (.slice (some ⟨go32, 0, none⟩) x3_5.length co27) y535 := (by rw [hw, Ny535.out]; exact HP33.1); clear HP33; have n0_ := am (hp_); have n1_ := am ((by rw [hw]; exact below_set (HB.out) GB32.out : Below w.heap.size w w34)); clear HO_3; clear HB; have HO_3 := n0_; have HB := n1_; clear n0_ n1_; clear hg hw hp_)); try go_wp2_with (first | ((with_reducible refine gate_store (t := 3) (p := 86) rfl ?_); (try (rw [drewN_self wr]; generalize hq_ : World.drewN wr _ = wr; have n0_ := am (Kd.R_at hq_ HO_3.out); have n1_ := am (below_at hq_ HB.out); clear hq_ HO_3 HB; have HO_3 := n0_; have HB := n1_; clear n0_ n1_; (try (have HP33 := Kd.R_putg HO_3.out (x9_5 : Int) t530)))); refine store_event (t := 3) (p := 86) (v := ?vo_w34) (w1 := (wr.setCell ⟨go32, (x9_5 : Int).toNat, none⟩ (.int .i64 t530))) ?hg ?ho ?hn ?hr ?_; (case ho => rfl); (case hg => rfl); (case hn => rfl); (case hr => first | (go_simp; done) | (go_simp; rfl)); intro w34 hw; have hg : wr.grownBy w34 (some go32) := (by rw [hw]; exact HP33.2); have hp_ : Kd.R (Kd.int .i64) 3 w34 w.heap.size (fun _ => True) (.slice (some ⟨go32, 0, none⟩) x3_5.length co27) y535 := (by rw [hw, Ny535.out]; exact HP33.1); clear HP33; have n0_ := am (hp_); have n1_ := am ((by rw [hw]; exact below_set (HB.out) GB32.out : Below w.heap.size w w34)); clear HO_3; clear HB; have HO_3 := n0_; have HB := n1_; clear n0_ n1_; clear hg hw hp_)))
               (try simp only [← hl3_5])
               (try rw [← add_plain _ (x5_2 : Int).toNat]); (try rw [← add_plain _ (x6_3 : Int).toNat]); go_roundg k5
               case measure => have := HK1.out; have := HK2.out; have := HK3.out; have := HJ8.out; have := HK5.out; omega
               case rel => exact ⟨(y535), (wrap64 (x9_5 + 1)), rr, H', ⟨by have := HK1.out; have := HK2.out; have := HK3.out; have := HJ8.out; have := HK5.out; omega⟩, ⟨by (try simp only [hl3_5]); (with_reducible repeat (first | apply Kd.R_alloc | apply Kd.R_drewN | apply Kd.R_drew)); exact HO_3.out⟩, ⟨bw⟩⟩
              rw [if_neg c31] at H
              have c31b0 : ((rd x3_5 x9_5) == t533) = false := beq_eq_false_iff_ne.mpr c31
              have c31b1 : ((rd x3_5 x9_5) != t533) = true := bne_iff_ne.mpr c31
              have H' := am H
              clear H
              obtain ⟨⟨ad534, e534, hx534_0⟩, p534, q534⟩ := pq (Kd.at_int (Kd.R_reads' HO_3.out).2.2 x9_5)
              obtain rfl : ad528 = ad534 := (by injection e534)
              go_wp2
              repeat (go_quiet (fail); try go_wp2)
              (try simp only [← hl3_5])
              (try rw [← add_plain _ (x5_2 : Int).toNat]); (try rw [← add_plain _ (x6_3 : Int).toNat]); go_roundg k5
              case measure => have := HK1.out; have := HK2.out; have := HK3.out; have := HJ8.out; have := HK5.out; omega
              case rel => exact ⟨(x3_5), (wrap64 (x9_5 + 1)), rr, H', ⟨by have := HK1.out; have := HK2.out; have := HK3.out; have := HJ8.out; have := HK5.out; omega⟩, ⟨by (try simp only [hl3_5]); (with_reducible repeat (first | apply Kd.R_alloc | apply Kd.R_drewN | apply Kd.R_drew)); exact HO_3.out⟩, ⟨bw⟩⟩
             have H' := am H
             clear H
             go_wp2
             repeat (go_quiet (fail); try go_wp2)
             (try simp only [← hl3_5])
             (try rw [← add_plain _ (x5_2 : Int).toNat]); (try rw [← add_plain _ (x6_3 : Int).toNat]); go_roundg k5
             case measure => have := HK1.out; have := HK2.out; have := HK3.out; have := HJ8.out; have := HK5.out; omega
             case rel => exact ⟨(x3_5), (wrap64 (x6_3 + 1)), rr, H', ⟨by have := HK1.out; have := HK2.out; have := HK3.out; have := HJ8.out; have := HK5.out; omega⟩, ⟨by (try simp only [hl3_5]); (with_reducible repeat (first | apply Kd.R_alloc | apply Kd.R_drewN | apply Kd.R_drew)); exact HO_3.out⟩, ⟨bw⟩⟩
        have H' := am H
        clear H
        go_wp2
        repeat (go_quiet (fail); try go_wp2)
        go_roundg k3
        case measure => have := HK1.out; have := HK2.out; have := HK3.out; omega
        case rel => exact ⟨(x3_3), (wrap64 (x5_2 + 1)), rr, H', ⟨by have := HK1.out; have := HK2.out; have := HK3.out; omega⟩, ⟨ro HO_3.out⟩, ⟨bw⟩⟩
     obtain rfl := Option.some.inj H
     go_wp2
     repeat (go_quiet (fail); try go_wp2)
     go_ret
     exact ⟨_, re, ro HO_3.out, bw⟩


/-! ### spec_ClassesOf: function 30 -/
mutual
def spec_ClassesOf.l0 : Nat → List (List (List Int)) → List (List Int) → List Int → Int → Option ((List (List (List Int))))
 | 0, _, _, _, _ => none
 | k + 1, x5, x6, x7, x8 => if x8 < (x6.length : Int) then (if 0 ≤ x8 then (if x8 < (x7.length : Int) then (if (rd x7 x8) = x8 then (spec_ClassesOf.l1 k x5 x6 x7 x8 (([] : List (List Int))) 0) else (spec_ClassesOf.l0 k x5 x6 x7 (wrap64 (x8 + 1)))) else (none)) else (none)) else (some x5)
def spec_ClassesOf.l1 : Nat → List (List (List Int)) → List (List Int) → List Int → Int → List (List Int) → Int → Option ((List (List (List Int))))
 | 0, _, _, _, _, _, _ => none
 | k + 1, x5, x6, x7, x8, x9, x10 => if x10 < (x6.length : Int) then (if 0 ≤ x10 then (if x10 < (x7.length : Int) then (if (rd x7 x10) = x8 then ((some (([] : List Int) : List Int)).bind fun y551 => (if y551.length + (rd_L2 x6 x10).length < 17592186044416 then (if x9.length < 5864062014805 then (spec_ClassesOf.l1 k x5 x6 x7 x8 (x9 ++ [(y551 ++ (rd_L2 x6 x10))]) (wrap64 (x10 + 1))) else (none)) else (none))) else (spec_ClassesOf.l1 k x5 x6 x7 x8 x9 (wrap64 (x10 + 1)))) else (none)) else (none)) else (if x5.length < 5864062014805 then (spec_ClassesOf.l0 k (x5 ++ [x9]) x6 x7 (wrap64 (x8 + 1))) else (none))
end
def spec_ClassesOf.f (k : Nat) (l0_0 : List Int) (a1 : Int) : Option ((List (List (List Int)))) := (spec_Factorizations.f k l0_0 a1).bind fun t540 => ((spec_l14Marks.f k t540).bind fun t543 => (spec_ClassesOf.l0 k (([] : List (List (List Int)))) t540 t543 0))
set_option maxHeartbeats 8000000 in
set_option maxRecDepth 100000 in
theorem spec_ClassesOf.calls (k : Nat) (A0_0 : Option Addr) (c0_0 : Nat) (l0_0 : List Int) (a1 : Int) (r : List (List (List Int))) (w : World) (hr0_0 : Kd.C (Kd.int .i64) w A0_0 l0_0.length l0_0) (hc0_0 : l0_0.length ≤ c0_0) (h : spec_ClassesOf.f k l0_0 a1 = some r) :
  Calls Try.prog 30 #[.agg #[.slice A0_0 l0_0.length c0_0], .int .i64 a1] w fun e w' => ∃ v0_ : Value, e = .returned (v0_) ∧ Kd.N (Kd.slice 22 (Kd.slice 3 (Kd.int .i64))) 49 w' w.heap.size (fun k_ => (w.heap.size ≤ k_)) v0_ r ∧ Below w.heap.size w w' := by
 have hu27 := Try.underlying27
 have HR0_0 := am hr0_0
 have HC0_0 := am hc0_0
 clear hr0_0 hc0_0
 have HB := am (Below.refl w.heap.size w)
 have H : ((spec_Factorizations.f k l0_0 a1).bind fun t540 => ((spec_l14Marks.f k t540).bind fun t543 => (spec_ClassesOf.l0 k (([] : List (List (List Int)))) t540 t543 0))) = some r := h
 clear h
 obtain ⟨y537, hy537⟩ : ∃ y_ : List (List (List Int)), y_ = (([] : List (List (List Int)))) := ⟨_, rfl⟩
 replace H : ((spec_Factorizations.f k l0_0 a1).bind fun t540 => ((spec_l14Marks.f k t540).bind fun t543 => (spec_ClassesOf.l0 k y537 t540 t543 0))) = some r := by first | (rw [hy537]; with_reducible first | exact H | exact bs H) | (with_reducible first | exact bs H | exact H) | (rw [hy537]; exact H) | exact H
 have Ny537 := am hy537
 clear hy537
 replace H := ga H; obtain ⟨t540, A3, H⟩ := H
 replace H := ga H; obtain ⟨t543, A4, H⟩ := H
 have H' := am H
 clear H
 go_enter Try.func30, Try.ntmps30
 go_wp2_with (first | ((with_reducible refine gate_dst (N := 2) rfl ?_); refine bx 2 #[.slice A0_0 l0_0.length c0_0] 27 ?_; intro gb536 hg w5 hbox hb; have BK536 := am (hbox); have GW536 := am (gs hg : w.heap.size ≤ gb536); have GE536 := GW536; replace HB := am (below_step bw hb); clear hb hbox hg) | ((with_reducible refine gate_dst (N := 11) rfl ?_); refine Kd.N_lit (Kd.slice 22 (Kd.slice 3 (Kd.int .i64))) _ 49 ?hg (N' := 11) ?hd (xs := ([] : List (List (List Int)))) (inner := []) (ok := (fun k_ => (w.heap.size ≤ k_) ∧ k_ ≠ gb536)) (okp := (fun k_ => (w.heap.size ≤ k_) ∧ k_ ≠ gb536)) ?hr ?hp (fun _ hk => hk) ((show ∀ k_, w5.heap.size ≤ k_ → (fun k_ => (w.heap.size ≤ k_) ∧ k_ ≠ gb536) k_ from fun k_ hk => ⟨(Nat.le_trans (below_size bw) hk), Kd.freshB (g := gb536) (o := .cells #[.slice A0_0 l0_0.length c0_0] 27 (0, 0)) (bo BK536.out) k_ hk⟩) _ (Nat.le_refl _)) (Below.refl _ _) (Nat.le_refl _) (by simp) ?_; (case hd => rfl); (case hg => rfl); (case hr => first | (go_simp; done) | (go_simp; rfl)); (case hp => exact (Reps.none _ _)); intro v538 w6 ho7 hb hg_ hnew_; clear hg_ hnew_; (first | rw [← Ny537.out] at ho7 | (simp only [Int.reduceToNat] at ho7; rw [← Ny537.out] at ho7)); have HO539 := am (Kd.N_lower ho7 (below_size bw)); replace BK536 := kb BK536 hb; replace HB := am (below_step bw hb); clear hb ho7; have hcz8_0 := bc BK536 0 (.slice A0_0 l0_0.length c0_0); have hfz8_0 := blk_frozen BK536.out 0) | ((with_reducible refine gate_callee (f := 80) rfl ?_); refine gl (some 14) Try.func80 #[.agg #[.slice A0_0 l0_0.length c0_0], .int .i64 a1] ?_; (with_reducible refine (spec_Factorizations.calls k _ _ l0_0 a1 t540 _ ?side1 ?side2 A3.out).mono ?_); (case side1 => exact co (Kd.C_below HR0_0.out HB.out)); (case side2 => exact HC0_0.out); rintro e w9 ⟨v541, rfl, ho0, hb⟩; refine ⟨_, rfl, ?_⟩; have HO542 := am (Kd.N_lower (Kd.N_mono (ok' := fun k_ => (w.heap.size ≤ k_) ∧ some k_ ≠ (v538 : Value).ownBlock ∧ k_ ≠ gb536) ho0 (fun k_ hk_ => ⟨(Nat.le_trans (below_size bw) hk_), (Kd.fresh' (Kd.N_lt (no HO539.out)) k_ hk_), (Kd.freshB (g := gb536) (o := .cells #[.slice A0_0 l0_0.length c0_0] 27 (0, 0)) (bo BK536.out) k_ hk_)⟩)) (below_size bw)); replace HO539 := am (Kd.N_elder' (no HO539.out) (Kd.N_base ho0) hb); replace BK536 := kb BK536 hb; replace HB := am (below_step bw hb); clear hb ho0; obtain ⟨Ao10, co10, eo10⟩ := Kd.N_slice HO542.out; subst eo10) | ((with_reducible refine gate_callee (f := 81) rfl ?_); refine gl (some 16) Try.func81 #[.slice Ao10 t540.length co10] ?_; (with_reducible refine (spec_l14Marks.calls k _ _ t540 t543 _ ?side1 ?side2 A4.out).mono ?_); (case side1 => exact co (Kd.N_reads' HO542.out).2.2); (case side2 => exact (Kd.N_reads' HO542.out).2.1); rintro e w11 ⟨v544, rfl, ho0, hb⟩; refine ⟨_, rfl, ?_⟩; replace HO539 := am (Kd.N_elder' (no HO539.out) (Kd.R_base ho0) hb); replace HO542 := am (Kd.N_elder' (no HO542.out) (Kd.R_base ho0) hb); have HO545 := am (Kd.R_lower (Kd.R_newM (M := fun k_ => (w.heap.size ≤ k_)) ho0 (below_size bw) (fun k_ h_ => h_)) (below_size bw)); replace BK536 := kb BK536 hb; replace HB := am (below_step bw hb); clear hb ho0))
 go_loopg [5, 8] k (fun kq v5 v8 w' => ∃ (x5_1 : List (List (List Int))) (x8_1 : Int), v8 = .int .i64 x8_1 ∧ Aside0 (spec_ClassesOf.l0 kq x5_1 t540 t543 x8_1 = some r) ∧ Aside0 (kq ≤ k) ∧ Aside0 (Kd.N (Kd.slice 22 (Kd.slice 3 (Kd.int .i64))) 49 w' w.heap.size (fun k_ => (w.heap.size ≤ k_) ∧ nb k_ Ao10 t540 co10 ∧ some k_ ≠ (v544 : Value).ownBlock ∧ k_ ≠ gb536) v5 x5_1) ∧ Aside0 (Kd.N (Kd.slice 3 (Kd.int .i64)) 22 w' w.heap.size (fun k_ => (w.heap.size ≤ k_) ∧ some k_ ≠ (v5 : Value).ownBlock ∧ some k_ ≠ (v544 : Value).ownBlock ∧ k_ ≠ gb536) (.slice Ao10 t540.length co10) t540) ∧ Aside0 (Kd.R (Kd.int .i64) 3 w' w.heap.size (fun k_ => (w.heap.size ≤ k_)) v544 t543) ∧ Aside0 (w'.heap[gb536]? = some (.cells #[(.slice A0_0 l0_0.length c0_0)] 27 (0, 0))) ∧ Aside0 (Below w.heap.size w w'))
 case atStart => exact ⟨(y537), (0), rr, H', ⟨Nat.le_refl _⟩, ⟨by (with_reducible repeat (first | apply Kd.N_alloc | apply Kd.N_drewN | apply Kd.N_drew)); exact Kd.N_mono HO539.out (fun _ hk => ⟨hk.1.1.1, ⟨hk.1.2, ⟨hk.2, hk.1.1.2⟩⟩⟩)⟩, ⟨by (with_reducible repeat (first | apply Kd.N_alloc | apply Kd.N_drewN | apply Kd.N_drew)); exact Kd.N_mono HO542.out (fun _ hk => ⟨hk.1.1, ⟨hk.1.2.1, ⟨hk.2, hk.1.2.2⟩⟩⟩)⟩, ⟨by (with_reducible repeat (first | apply Kd.R_alloc | apply Kd.R_drewN | apply Kd.R_drew)); exact Kd.R_mono HO545.out (fun _ hk => hk.1)⟩, ⟨bo BK536.out⟩, ⟨bw⟩⟩
 case round =>
  clear H'
  try clear hcz8_0; try clear hfz8_0
  obtain ⟨x5_1, x8_1, rfl, HA, HK1, HO_5, HO_6, HO_7, BK536, HB⟩ := hrel
  cases gk with
  | zero => exact absurd HA.out (by simp [spec_ClassesOf.l0])
  | succ k1 =>
   have H := HA.out
   clear HA
   simp only [spec_ClassesOf.l0] at H
   replace H := gi H; obtain ⟨c12b0, H⟩ | ⟨c12b0, H⟩ := H
   ·replace H := gd H; obtain ⟨c13b0, H⟩ := H
    replace H := gd H; obtain ⟨c14b0, H⟩ := H
    by_cases c15 : (rd t543 x8_1) = x8_1
    ·rw [if_pos c15] at H
     have c15b0 : ((rd t543 x8_1) == x8_1) = true := beq_iff_eq.mpr c15
     have c15b1 : ((rd t543 x8_1) != x8_1) = false := bne_eq_false_iff_eq.mpr c15
     clear c15
     obtain ⟨y547, hy547⟩ : ∃ y_ : List (List Int), y_ = (([] : List (List Int))) := ⟨_, rfl⟩
     replace H : (spec_ClassesOf.l1 k1 x5_1 t540 t543 x8_1 y547 0) = some r := by first | (rw [hy547]; with_reducible first | exact H | exact bs H) | (with_reducible first | exact bs H | exact H) | (rw [hy547]; exact H) | exact H
     have Ny547 := am hy547
     clear hy547
     have H' := am H
     clear H
     obtain ⟨Ao16, co16, eo16⟩ := Kd.R_slice HO_7.out
     subst eo16
     obtain ⟨⟨ad546, e546, hx546_0⟩, p546, q546⟩ := pq (Kd.at_int (Kd.R_reads' HO_7.out).2.2 x8_1)
     cases e546
     go_wp2_with (first | ((with_reducible refine gate_dst (N := 29) rfl ?_); refine Kd.N_lit (Kd.slice 3 (Kd.int .i64)) _ 22 ?hg (N' := 29) ?hd (xs := ([] : List (List Int))) (inner := []) (ok := (fun k_ => (w.heap.size ≤ k_) ∧ some k_ ≠ (u5 : Value).ownBlock ∧ nb k_ Ao10 t540 co10 ∧ some k_ ≠ (.slice (some ad546) t543.length co16 : Value).ownBlock ∧ k_ ≠ gb536)) (okp := (fun k_ => (w.heap.size ≤ k_) ∧ some k_ ≠ (u5 : Value).ownBlock ∧ nb k_ Ao10 t540 co10 ∧ some k_ ≠ (.slice (some ad546) t543.length co16 : Value).ownBlock ∧ k_ ≠ gb536)) ?hr ?hp (fun _ hk => hk) ((show ∀ k_, wr.heap.size ≤ k_ → (fun k_ => (w.heap.size ≤ k_) ∧ some k_ ≠ (u5 : Value).ownBlock ∧ nb k_ Ao10 t540 co10 ∧ some k_ ≠ (.slice (some ad546) t543.length co16 : Value).ownBlock ∧ k_ ≠ gb536) k_ from fun k_ hk => ⟨(Nat.le_trans (below_size bw) hk), Kd.fresh' (Kd.N_lt (no HO_5.out)) k_ hk, Kd.fresh' (Kd.N_lt (no HO_6.out)) k_ hk, Kd.fresh' (Kd.R_lt (ro HO_7.out)) k_ hk, Kd.freshB (g := gb536) (o := .cells #[.slice A0_0 l0_0.length c0_0] 27 (0, 0)) (bo BK536.out) k_ hk⟩) _ (Nat.le_refl _)) (Below.refl _ _) (Nat.le_refl _) (by simp) ?_; (case hd => rfl); (case hg => rfl); (case hr => first | (go_simp; done) | (go_simp; rfl)); (case hp => exact (Reps.none _ _)); intro v548 w17 ho18 hb hg_ hnew_; clear hg_ hnew_; (first | rw [← Ny547.out] at ho18 | (simp only [Int.reduceToNat] at ho18; rw [← Ny547.out] at ho18)); replace HO_5 := am (Kd.N_elder' (no HO_5.out) (Kd.N_base ho18) hb); replace HO_6 := am (Kd.N_elder' (no HO_6.out) (Kd.N_base ho18) hb); replace HO_7 := rK HO_7 hb; have HO549 := am (Kd.N_lower ho18 (below_size bw)); replace BK536 := kb BK536 hb; replace HB := am (below_step bw hb); clear hb ho18))
     go_loopg [9, 10] k1 (fun kq v9 v10 w' => ∃ (x9_2 : List (List Int)) (x10_2 : Int), v10 = .int .i64 x10_2 ∧ Aside0 (spec_ClassesOf.l1 kq x5_1 t540 t543 x8_1 x9_2 x10_2 = some r) ∧ Aside0 (kq ≤ k1) ∧ Aside0 (Kd.N (Kd.slice 22 (Kd.slice 3 (Kd.int .i64))) 49 w' w.heap.size (fun k_ => (w.heap.size ≤ k_) ∧ nb k_ Ao10 t540 co10 ∧ some k_ ≠ ((.slice (some ad546) t543.length co16) : Value).ownBlock ∧ some k_ ≠ (v9 : Value).ownBlock ∧ k_ ≠ gb536) u5 x5_1) ∧ Aside0 (Kd.N (Kd.slice 3 (Kd.int .i64)) 22 w' w.heap.size (fun k_ => (w.heap.size ≤ k_) ∧ some k_ ≠ (u5 : Value).ownBlock ∧ some k_ ≠ ((.slice (some ad546) t543.length co16) : Value).ownBlock ∧ some k_ ≠ (v9 : Value).ownBlock ∧ k_ ≠ gb536) (.slice Ao10 t540.length co10) t540) ∧ Aside0 (Kd.R (Kd.int .i64) 3 w' w.heap.size (fun k_ => (w.heap.size ≤ k_)) (.slice (some ad546) t543.length co16) t543) ∧ Aside0 (Kd.N (Kd.slice 3 (Kd.int .i64)) 22 w' w.heap.size (fun k_ => (w.heap.size ≤ k_) ∧ some k_ ≠ (u5 : Value).ownBlock ∧ nb k_ Ao10 t540 co10 ∧ some k_ ≠ ((.slice (some ad546) t543.length co16) : Value).ownBlock ∧ k_ ≠ gb536) v9 x9_2) ∧ Aside0 (w'.heap[gb536]? = some (.cells #[(.slice A0_0 l0_0.length c0_0)] 27 (0, 0))) ∧ Aside0 (Below w.heap.size w w'))
     case atStart => exact ⟨(y547), (0), rr, H', ⟨Nat.le_refl _⟩, ⟨by (with_reducible repeat (first | apply Kd.N_alloc | apply Kd.N_drewN | apply Kd.N_drew)); exact Kd.N_mono HO_5.out (fun _ hk => ⟨hk.1.1, ⟨hk.1.2.1, ⟨hk.1.2.2.1, ⟨hk.2, hk.1.2.2.2⟩⟩⟩⟩)⟩, ⟨by (with_reducible repeat (first | apply Kd.N_alloc | apply Kd.N_drewN | apply Kd.N_drew)); exact Kd.N_mono HO_6.out (fun _ hk => ⟨hk.1.1, ⟨hk.1.2.1, ⟨hk.1.2.2.1, ⟨hk.2, hk.1.2.2.2⟩⟩⟩⟩)⟩, ⟨ro HO_7.out⟩, ⟨no HO549.out⟩, ⟨bo BK536.out⟩, ⟨bw⟩⟩
     case round =>
      clear H'
      try clear c12b0; try clear c13b0; try clear c14b0; try clear c15; try clear c15b0; try clear c15b1; try clear hcz8_0; try clear hfz8_0; try clear hx546_0; try clear p546; try clear q546
      obtain ⟨x9_2, x10_2, rfl, HA, HK2, HO_5, HO_6, HO_7, HO_9, BK536, HB⟩ := hrel
      cases gk with
      | zero => exact absurd HA.out (by simp [spec_ClassesOf.l1])
      | succ k2 =>
       have H := HA.out
       clear HA
       simp only [spec_ClassesOf.l1] at H
       replace H := gi H; obtain ⟨c19b0, H⟩ | ⟨c19b0, H⟩ := H
       ·replace H := gd H; obtain ⟨c20b0, H⟩ := H
        replace H := gd H; obtain ⟨c21b0, H⟩ := H
        by_cases c22 : (rd t543 x10_2) = x8_1
        ·rw [if_pos c22] at H
         have c22b0 : ((rd t543 x10_2) == x8_1) = true := beq_iff_eq.mpr c22
         have c22b1 : ((rd t543 x10_2) != x8_1) = false := bne_eq_false_iff_eq.mpr c22
         clear c22
         obtain ⟨y551, hy551⟩ : ∃ y_ : List Int, y_ = (([] : List Int)) := ⟨_, rfl⟩
         replace H : (if y551.length + (rd_L2 t540 x10_2).length < 17592186044416 then (if x9_2.length < 5864062014805 then (spec_ClassesOf.l1 k2 x5_1 t540 t543 x8_1 (x9_2 ++ [(y551 ++ (rd_L2 t540 x10_2))]) (wrap64 (x10_2 + 1))) else (none)) else (none)) = some r := by first | (rw [hy551]; with_reducible first | exact H | exact bs H) | (with_reducible first | exact bs H | exact H) | (rw [hy551]; exact H) | exact H
         have Ny551 := am hy551
         clear hy551
         by_cases c23 : y551.length + (rd_L2 t540 x10_2).length < 17592186044416
         rotate_left
         ·rw [if_neg c23] at H
          exact absurd H (by simp)
         rw [if_pos c23] at H
         have LMc23 := am c23
         clear c23
         obtain ⟨y555, hy555⟩ : ∃ y_ : List Int, y_ = (y551 ++ (rd_L2 t540 x10_2)) := ⟨_, rfl⟩
         replace H : (if x9_2.length < 5864062014805 then (spec_ClassesOf.l1 k2 x5_1 t540 t543 x8_1 (x9_2 ++ [y555]) (wrap64 (x10_2 + 1))) else (none)) = some r := by first | (rw [hy555]; with_reducible first | exact H | exact bs H) | (with_reducible first | exact bs H | exact H) | (rw [hy555]; exact H) | exact H
         have Ny555 := am hy555
         clear hy555
         by_cases c24 : x9_2.length < 5864062014805
         rotate_left
         ·rw [if_neg c24] at H
          exact absurd H (by simp)
         rw [if_pos c24] at H
         have LMc24 := am c24
         clear c24
         obtain ⟨y558, hy558⟩ : ∃ y_ : List (List Int), y_ = (x9_2 ++ [y555]) := ⟨_, rfl⟩
         replace H : (spec_ClassesOf.l1 k2 x5_1 t540 t543 x8_1 y558 (wrap64 (x10_2 + 1))) = some r := by first | (rw [hy558]; with_reducible first | exact H | exact bs H) | (with_reducible first | exact bs H | exact H) | (rw [hy558]; exact H) | exact H
         have Ny558 := am hy558
         clear hy558
         have H' := am H
         clear H
         obtain ⟨⟨ad550, e550, hx550_0⟩, p550, q550⟩ := pq (Kd.at_int (Kd.R_reads' HO_7.out).2.2 x10_2)
         obtain rfl : ad546 = ad550 := (by injection e550)
         go_wp2_with (first | ((with_reducible refine gate_dst (N := 43) rfl ?_); refine Kd.R_lit (Kd.int .i64) _ 3 ?hg (N := 43) ?hd (xs := ([] : List Int)) (inner := []) (ok := fun _ => True) (okp := fun _ => True) ?hr ?hp (fun _ hk => hk) trivial (Below.refl _ _) (Nat.le_refl _) (by simp) ?_; (case hd => rfl); (case hg => rfl); (case hr => first | (go_simp; done) | (go_simp; rfl)); (case hp => exact (Reps.none _ _)); intro v552 w25 ho26 hb hg_ hnew_; clear hg_ hnew_; (first | rw [← Ny551.out] at ho26 | (simp only [Int.reduceToNat] at ho26; rw [← Ny551.out] at ho26)); replace HO_5 := am (Kd.N_elder' (no HO_5.out) (Kd.R_base ho26) hb); replace HO_6 := am (Kd.N_elder' (no HO_6.out) (Kd.R_base ho26) hb); replace HO_9 := am (Kd.N_elder' (no HO_9.out) (Kd.R_base ho26) hb); have HO553 := am (Kd.R_lower (Kd.R_new' (Kd.R_newM (M := fun k_ => (w.heap.size ≤ k_)) ho26 (below_size bw) (fun k_ h_ => h_)) (Kd.R_lt (ro HO_7.out))) (below_size bw)); replace HO_7 := am (Kd.R_elder' (ro HO_7.out) (Kd.R_base ho26) hb); replace BK536 := kb BK536 hb; replace HB := am (below_step bw hb); clear hb ho26; have p554 : 0 ≤ (x10_2 : Int) := of_decide_eq_true (by first | (with_reducible assumption) | assumption); have q554 : x10_2 < (t540.length : Int) := of_decide_eq_true (by first | (with_reducible assumption) | assumption); obtain ⟨ad554, A554_0, c554_0, e554, hx554_0, hl554_0, hi554_0⟩ := at_L2 (Kd.N_reads' HO_6.out).2.2 x10_2 p554 q554; cases e554; obtain ⟨ce554, hce554, hMe554, hcc554⟩ := Kd.N_get HO_6.out [] x10_2 p554 (by first | exact q554 | exact of_decide_eq_true (by first | (with_reducible assumption) | assumption) | (have e_ := (Kd.N_reads' HO_6.out).1; omega)); obtain ⟨ua554_0, uc554_0, rfl, ul554_0, ge554_0⟩ := Kd.FK_slice_open hMe554; have hv554_0 := hcc554 0 _ rfl; rw [Nat.add_zero, show ((Kd.slice 3 (Kd.int .i64))).sz = 1 from rfl, Nat.mul_one] at hv554_0; replace hv554_0 := Option.some.inj (hv554_0.symm.trans hx554_0); injection hv554_0 with hva_ hvn_ hvc_; rw [hva_] at ge554_0; rw [hvc_] at ul554_0; have HL554_0 := am (show Kd.V (Kd.int .i64) 3 _ w.heap.size _ _ (rd_L2 t540 x10_2) from Kd.V_mk ul554_0 ge554_0); clear hva_ hvn_ hvc_ ge554_0 ul554_0 hcc554 hce554; have HR554_0 := am hi554_0; have HC554_0 := am hl554_0; clear hi554_0 hl554_0; replace p554 := eq_true p554; replace q554 := eq_true q554) | ((with_reducible refine gate_builtin (b := .append) (xs := #[.tmp 43, .tmp 47]) rfl ?_); at_builtin; refine Kd.R_append_rows (Kd.int .i64) (w0 := w) w.heap.size rfl (.tmp 43) (.tmp 47) 22 3 (.int .i64 0) 8 rfl Try.underlying22 info3 rfl (by decide) (by omega) v552 y551 (rd_L2 t540 x10_2) _ _ _ (fun k_ => (w.heap.size ≤ k_) ∧ some k_ ≠ (.slice (some ad546) t543.length co16 : Value).ownBlock) (fun _ => False) rfl rfl ?aO ?aR (fun _ _ h => h) (fun _ h => h.elim) ?aF ?aB ?aS ?aL ?_; (case aR => repeat (first | exact (by repeat (first | (with_reducible exact HR554_0.out) | (with_reducible refine Kd.C_alloc ?_ _) | (with_reducible refine Kd.C_drewN ?_ _) | (with_reducible refine Kd.C_drew ?_) | exact HR554_0.out)) | (with_reducible refine Kd.C_alloc ?_ _) | (with_reducible refine Kd.C_drewN ?_ _) | (with_reducible refine Kd.C_drew ?_))); (case aB => exact bw); (case aF => exact (fun k_ hk => ⟨(Nat.le_trans (below_size bw) hk), Kd.fresh' (Kd.R_lt (ro HO_7.out)) k_ hk⟩)); (case aO => exact (by (with_reducible repeat (first | apply Kd.R_alloc | apply Kd.R_drewN | apply Kd.R_drew)); exact Kd.R_mono HO553.out (fun _ hk => by first | exact ⟨hk.1.1, hk.2⟩ | simp_all))); (case aS => exact (below_size bw)); (case aL => have := LMc23.out; omega); intro v556 w27 ho hb hg hat; rw [← Ny555.out] at ho; replace HO_5 := am (Kd.N_afterv (ok := (fun k_ => (w.heap.size ≤ k_) ∧ some k_ ≠ (.slice (some ad554) t540.length co10 : Value).ownBlock ∧ some k_ ≠ (.slice (some ad546) t543.length co16 : Value).ownBlock ∧ some k_ ≠ (u9 : Value).ownBlock ∧ k_ ≠ gb536)) (no HO_5.out) hg hat); replace HO_6 := am (Kd.N_afterv (ok := (fun k_ => (w.heap.size ≤ k_) ∧ some k_ ≠ (u5 : Value).ownBlock ∧ some k_ ≠ (.slice (some ad546) t543.length co16 : Value).ownBlock ∧ some k_ ≠ (u9 : Value).ownBlock ∧ k_ ≠ gb536)) (no HO_6.out) hg hat); replace HO_7 := am (Kd.R_after (ok := (fun k_ => (w.heap.size ≤ k_))) (ro HO_7.out) hg hat); replace HO_9 := am (Kd.N_afterv (ok := (fun k_ => (w.heap.size ≤ k_) ∧ some k_ ≠ (u5 : Value).ownBlock ∧ some k_ ≠ (.slice (some ad554) t540.length co10 : Value).ownBlock ∧ some k_ ≠ (.slice (some ad546) t543.length co16 : Value).ownBlock ∧ k_ ≠ gb536)) (no HO_9.out) hg hat); replace BK536 := am (blk_grown (g := gb536) (o := .cells #[.slice A0_0 l0_0.length c0_0] 27 (0, 0)) (bo BK536.out) hg (Kd.R_ne HO553.out BK536.out (by decide))); replace HL554_0 := am (Kd.V_afterv (ok := (fun k_ => (w.heap.size ≤ k_) ∧ some k_ ≠ (u5 : Value).ownBlock ∧ some k_ ≠ (.slice (some ad554) t540.length co10 : Value).ownBlock ∧ some k_ ≠ (.slice (some ad546) t543.length co16 : Value).ownBlock ∧ some k_ ≠ (u9 : Value).ownBlock ∧ k_ ≠ gb536)) (by (with_reducible repeat (first | apply Kd.V_alloc | apply Kd.V_drewN | apply Kd.V_drew)); exact Kd.V_mono HL554_0.out (fun _ hk => ⟨⟨hk.1.1.1, ⟨hk.1.1.2.1, ⟨hk.2, ⟨hk.1.1.2.2.1, ⟨hk.1.1.2.2.2.1, hk.1.1.2.2.2.2⟩⟩⟩⟩⟩, hk.1.2⟩)) hg hat); replace HB := am (hb); have HO557 := am (ho); clear HO553 ho hb hg hat; obtain ⟨Ao29, co29, eo29⟩ := Kd.R_slice HO557.out; subst eo29) | ((with_reducible refine gate_builtin (b := .append) (xs := #[.tmp 42, .tmp 49]) rfl ?_); at_builtin; refine Kd.N_append (Kd.slice 3 (Kd.int .i64)) (w0 := w) w.heap.size rfl (.tmp 42) (.tmp 49) 49 22 (.slice none 0 0) 24 rfl Try.underlying49 info22 rfl (by decide) (by omega) u9 x9_2 y555 [.slice Ao29 y555.length co29] (fun k_ => (w.heap.size ≤ k_) ∧ some k_ ≠ (u5 : Value).ownBlock ∧ some k_ ≠ (.slice (some ad554) t540.length co10 : Value).ownBlock ∧ some k_ ≠ (.slice (some ad546) t543.length co16 : Value).ownBlock ∧ k_ ≠ gb536) (fun k_ => ((fun k_ => (w.heap.size ≤ k_) ∧ some k_ ≠ (u5 : Value).ownBlock ∧ some k_ ≠ (.slice (some ad554) t540.length co10 : Value).ownBlock ∧ some k_ ≠ (.slice (some ad546) t543.length co16 : Value).ownBlock ∧ k_ ≠ gb536)) k_ ∧ some k_ ≠ (u9 : Value).ownBlock) rfl rfl ?aP (fun _ hk => hk) ?aF ?aO ?aB ?aS ?aL ?_; (case aP => exact (Kd.FK_slice_mk (Kd.R_reads' (Kd.R_mono (ok' := (fun k_ => ((fun k_ => (w.heap.size ≤ k_) ∧ some k_ ≠ (u5 : Value).ownBlock ∧ some k_ ≠ (.slice (some ad554) t540.length co10 : Value).ownBlock ∧ some k_ ≠ (.slice (some ad546) t543.length co16 : Value).ownBlock ∧ k_ ≠ gb536)) k_ ∧ some k_ ≠ (u9 : Value).ownBlock)) (Kd.R_types (Kd.R_apart' (Kd.R_apart' (Kd.R_apart' (HO557.out) (Kd.N_typed HO_5.out) (by decide)) (Kd.N_typed HO_6.out) (by decide)) (Kd.N_typed HO_9.out) (by decide)) BK536.out (by decide)) (fun k_ hk => ⟨⟨hk.1.1.1.1.1, ⟨hk.1.1.1.2, ⟨hk.1.1.2, ⟨hk.1.1.1.1.2, hk.2⟩⟩⟩⟩, hk.1.2⟩))).2.1 (Kd.R_F (Kd.R_mono (ok' := (fun k_ => ((fun k_ => (w.heap.size ≤ k_) ∧ some k_ ≠ (u5 : Value).ownBlock ∧ some k_ ≠ (.slice (some ad554) t540.length co10 : Value).ownBlock ∧ some k_ ≠ (.slice (some ad546) t543.length co16 : Value).ownBlock ∧ k_ ≠ gb536)) k_ ∧ some k_ ≠ (u9 : Value).ownBlock)) (Kd.R_types (Kd.R_apart' (Kd.R_apart' (Kd.R_apart' (HO557.out) (Kd.N_typed HO_5.out) (by decide)) (Kd.N_typed HO_6.out) (by decide)) (Kd.N_typed HO_9.out) (by decide)) BK536.out (by decide)) (fun k_ hk => ⟨⟨hk.1.1.1.1.1, ⟨hk.1.1.1.2, ⟨hk.1.1.2, ⟨hk.1.1.1.1.2, hk.2⟩⟩⟩⟩, hk.1.2⟩))))); (case aB => exact bw); (case aF => exact (fun k_ hk => ⟨(Nat.le_trans (below_size bw) hk), Kd.fresh' (Kd.N_lt (no HO_5.out)) k_ hk, Kd.fresh' (Kd.N_lt (no HO_6.out)) k_ hk, Kd.fresh' (Kd.R_lt (ro HO_7.out)) k_ hk, Kd.freshB (g := gb536) (o := .cells #[.slice A0_0 l0_0.length c0_0] 27 (0, 0)) (bo BK536.out) k_ hk⟩)); (case aO => exact (by (with_reducible repeat (first | apply Kd.N_alloc | apply Kd.N_drewN | apply Kd.N_drew)); exact Kd.N_mono HO_9.out (fun _ hk => ⟨hk.1.1, ⟨hk.1.2.1, ⟨hk.1.2.2.1, ⟨hk.1.2.2.2.1, hk.1.2.2.2.2⟩⟩⟩⟩))); (case aS => exact (below_size bw)); (case aL => have := LMc24.out; omega); intro v559 w28 ho hb hg hat; rw [← Ny558.out] at ho; replace HO_5 := am (Kd.N_afterv (ok := (fun k_ => (w.heap.size ≤ k_) ∧ some k_ ≠ (.slice (some ad554) t540.length co10 : Value).ownBlock ∧ some k_ ≠ (.slice (some ad546) t543.length co16 : Value).ownBlock ∧ nb k_ Ao29 y555 co29 ∧ k_ ≠ gb536)) (by (with_reducible repeat (first | apply Kd.N_alloc | apply Kd.N_drewN | apply Kd.N_drew)); exact Kd.N_mono HO_5.out (fun _ hk => ⟨⟨hk.1.1, ⟨hk.1.2.1, ⟨hk.1.2.2.1, ⟨hk.2, hk.1.2.2.2.2⟩⟩⟩⟩, hk.1.2.2.2.1⟩)) hg hat); replace HO_6 := am (Kd.N_afterv (ok := (fun k_ => (w.heap.size ≤ k_) ∧ some k_ ≠ (u5 : Value).ownBlock ∧ some k_ ≠ (.slice (some ad546) t543.length co16 : Value).ownBlock ∧ nb k_ Ao29 y555 co29 ∧ k_ ≠ gb536)) (by (with_reducible repeat (first | apply Kd.N_alloc | apply Kd.N_drewN | apply Kd.N_drew)); exact Kd.N_mono HO_6.out (fun _ hk => ⟨⟨hk.1.1, ⟨hk.1.2.1, ⟨hk.1.2.2.1, ⟨hk.2, hk.1.2.2.2.2⟩⟩⟩⟩, hk.1.2.2.2.1⟩)) hg hat); replace HO_7 := am (Kd.R_over' (ro HO_7.out) (Kd.N_typed (no HO_9.out)) (by decide) hg); replace BK536 := am (blk_grown (g := gb536) (o := .cells #[.slice A0_0 l0_0.length c0_0] 27 (0, 0)) (bo BK536.out) hg (Kd.N_ne HO_9.out BK536.out (by decide))); replace HL554_0 := am (Kd.V_afterv (ok := (fun k_ => (w.heap.size ≤ k_) ∧ some k_ ≠ (u5 : Value).ownBlock ∧ some k_ ≠ (.slice (some ad554) t540.length co10 : Value).ownBlock ∧ some k_ ≠ (.slice (some ad546) t543.length co16 : Value).ownBlock ∧ nb k_ Ao29 y555 co29 ∧ k_ ≠ gb536)) (by (with_reducible repeat (first | apply Kd.V_alloc | apply Kd.V_drewN | apply Kd.V_drew)); exact Kd.V_mono HL554_0.out (fun _ hk => ⟨⟨hk.1.1, ⟨hk.1.2.1, ⟨hk.1.2.2.1, ⟨hk.1.2.2.2.1, ⟨hk.2, hk.1.2.2.2.2.2⟩⟩⟩⟩⟩, hk.1.2.2.2.2.1⟩)) hg hat); replace HB := am (hb); have HO560 := am (ho); clear HO_9 HO557 ho hb hg hat))
         go_roundg k2
         case measure => have := HK1.out; have := HK2.out; omega
         case rel => exact ⟨(y558), (wrap64 (x10_2 + 1)), rr, H', ⟨by have := HK1.out; have := HK2.out; omega⟩, ⟨by (with_reducible repeat (first | apply Kd.N_alloc | apply Kd.N_drewN | apply Kd.N_drew)); exact Kd.N_mono HO_5.out (fun _ hk => ⟨hk.1.1, ⟨hk.1.2.1, ⟨hk.1.2.2.1, ⟨hk.2, hk.1.2.2.2.2⟩⟩⟩⟩)⟩, ⟨by (with_reducible repeat (first | apply Kd.N_alloc | apply Kd.N_drewN | apply Kd.N_drew)); exact Kd.N_mono HO_6.out (fun _ hk => ⟨hk.1.1, ⟨hk.1.2.1, ⟨hk.1.2.2.1, ⟨hk.2, hk.1.2.2.2.2⟩⟩⟩⟩)⟩, ⟨by (with_reducible repeat (first | apply Kd.R_alloc | apply Kd.R_drewN | apply Kd.R_drew)); exact Kd.R_mono HO_7.out (fun _ hk => hk.1)⟩, ⟨no HO560.out⟩, ⟨bo BK536.out⟩, ⟨bw⟩⟩
        rw [if_neg c22] at H
        have c22b0 : ((rd t543 x10_2) == x8_1) = false := beq_eq_false_iff_ne.mpr c22
        have c22b1 : ((rd t543 x10_2) != x8_1) = true := bne_iff_ne.mpr c22
        have H' := am H
        clear H
        obtain ⟨⟨ad550, e550, hx550_0⟩, p550, q550⟩ := pq (Kd.at_int (Kd.R_reads' HO_7.out).2.2 x10_2)
        obtain rfl : ad546 = ad550 := (by injection e550)
        go_wp2
        go_roundg k2
        case measure => have := HK1.out; have := HK2.out; omega
        case rel => exact ⟨(x9_2), (wrap64 (x10_2 + 1)), rr, H', ⟨by have := HK1.out; have := HK2.out; omega⟩, ⟨no HO_5.out⟩, ⟨no HO_6.out⟩, ⟨ro HO_7.out⟩, ⟨no HO_9.out⟩, ⟨bo BK536.out⟩, ⟨bw⟩⟩
       by_cases c30 : x5_1.length < 5864062014805
       rotate_left
       ·rw [if_neg c30] at H
        exact absurd H (by simp)
       rw [if_pos c30] at H
       have LMc30 := am c30
       clear c30
       obtain ⟨y561, hy561⟩ : ∃ y_ : List (List (List Int)), y_ = (x5_1 ++ [x9_2]) := ⟨_, rfl⟩
       replace H : (spec_ClassesOf.l0 k2 y561 t540 t543 (wrap64 (x8_1 + 1))) = some r := by first | (rw [hy561]; with_reducible first | exact H | exact bs H) | (with_reducible first | exact bs H | exact H) | (rw [hy561]; exact H) | exact H
       have Ny561 := am hy561
       clear hy561
       have H' := am H
       clear H
       obtain ⟨Ao32, co32, eo32⟩ := Kd.N_slice HO_9.out
       subst eo32
       go_wp2_with (first | ((with_reducible refine gate_builtin (b := .append) (xs := #[.tmp 51, .tmp 53]) rfl ?_); at_builtin; refine Kd.N_append (Kd.slice 22 (Kd.slice 3 (Kd.int .i64))) (w0 := w) w.heap.size rfl (.tmp 51) (.tmp 53) 38 49 (.slice none 0 0) 24 rfl Try.underlying38 info49 rfl (by decide) (by omega) u5 x5_1 x9_2 [.slice Ao32 x9_2.length co32] (fun k_ => (w.heap.size ≤ k_) ∧ nb k_ Ao10 t540 co10 ∧ some k_ ≠ (.slice (some ad546) t543.length co16 : Value).ownBlock ∧ k_ ≠ gb536) (fun k_ => ((fun k_ => (w.heap.size ≤ k_) ∧ nb k_ Ao10 t540 co10 ∧ some k_ ≠ (.slice (some ad546) t543.length co16 : Value).ownBlock ∧ k_ ≠ gb536)) k_ ∧ some k_ ≠ (u5 : Value).ownBlock) rfl rfl ?aP (fun _ hk => hk) ?aF ?aO ?aB ?aS ?aL ?_; (case aP => exact (Kd.FK_slice_mk (Kd.N_reads' (Kd.N_mono (ok' := (fun k_ => ((fun k_ => (w.heap.size ≤ k_) ∧ nb k_ Ao10 t540 co10 ∧ some k_ ≠ (.slice (some ad546) t543.length co16 : Value).ownBlock ∧ k_ ≠ gb536)) k_ ∧ some k_ ≠ (u5 : Value).ownBlock)) (HO_9.out) (fun k_ hk => ⟨⟨hk.1, ⟨hk.2.2.1, ⟨hk.2.2.2.1, hk.2.2.2.2⟩⟩⟩, hk.2.1⟩))).2.1 (Kd.N_F (Kd.N_mono (ok' := (fun k_ => ((fun k_ => (w.heap.size ≤ k_) ∧ nb k_ Ao10 t540 co10 ∧ some k_ ≠ (.slice (some ad546) t543.length co16 : Value).ownBlock ∧ k_ ≠ gb536)) k_ ∧ some k_ ≠ (u5 : Value).ownBlock)) (HO_9.out) (fun k_ hk => ⟨⟨hk.1, ⟨hk.2.2.1, ⟨hk.2.2.2.1, hk.2.2.2.2⟩⟩⟩, hk.2.1⟩))))); (case aB => exact bw); (case aF => exact (fun k_ hk => ⟨(Nat.le_trans (below_size bw) hk), Kd.fresh' (Kd.N_lt (no HO_6.out)) k_ hk, Kd.fresh' (Kd.R_lt (ro HO_7.out)) k_ hk, Kd.freshB (g := gb536) (o := .cells #[.slice A0_0 l0_0.length c0_0] 27 (0, 0)) (bo BK536.out) k_ hk⟩)); (case aO => exact (by (with_reducible repeat (first | apply Kd.N_alloc | apply Kd.N_drewN | apply Kd.N_drew)); exact Kd.N_mono HO_5.out (fun _ hk => ⟨hk.1, ⟨hk.2.1, ⟨hk.2.2.1, hk.2.2.2.2⟩⟩⟩))); (case aS => exact (below_size bw)); (case aL => have := LMc30.out; omega); intro v562 w31 ho hb hg hat; rw [← Ny561.out] at ho; replace HO_6 := am (Kd.N_afterv (ok := (fun k_ => (w.heap.size ≤ k_) ∧ some k_ ≠ (.slice (some ad546) t543.length co16 : Value).ownBlock ∧ nb k_ Ao32 x9_2 co32 ∧ k_ ≠ gb536)) (by (with_reducible repeat (first | apply Kd.N_alloc | apply Kd.N_drewN | apply Kd.N_drew)); exact Kd.N_mono HO_6.out (fun _ hk => ⟨⟨hk.1, ⟨hk.2.2.1, ⟨hk.2.2.2.1, hk.2.2.2.2⟩⟩⟩, hk.2.1⟩)) hg hat); replace HO_7 := am (Kd.R_over' (ro HO_7.out) (Kd.N_typed (no HO_5.out)) (by decide) hg); replace BK536 := am (blk_grown (g := gb536) (o := .cells #[.slice A0_0 l0_0.length c0_0] 27 (0, 0)) (bo BK536.out) hg (Kd.N_ne HO_5.out BK536.out (by decide))); replace HB := am (hb); have HO563 := am (ho); clear HO_5 HO_9 ho hb hg hat))
       go_roundg k2
       case measure => have := HK1.out; have := HK2.out; omega
       case rel => exact ⟨(y561), (wrap64 (x8_1 + 1)), rr, H', ⟨by have := HK1.out; have := HK2.out; omega⟩, ⟨no HO563.out⟩, ⟨by (with_reducible repeat (first | apply Kd.N_alloc | apply Kd.N_drewN | apply Kd.N_drew)); exact Kd.N_mono HO_6.out (fun _ hk => ⟨hk.1.1, ⟨hk.2, ⟨hk.1.2.1, hk.1.2.2.2⟩⟩⟩)⟩, ⟨ro HO_7.out⟩, ⟨bo BK536.out⟩, ⟨bw⟩⟩
    rw [if_neg c15] at H
    have c15b0 : ((rd t543 x8_1) == x8_1) = false := beq_eq_false_iff_ne.mpr c15
    have c15b1 : ((rd t543 x8_1) != x8_1) = true := bne_iff_ne.mpr c15
    have H' := am H
    clear H
    obtain ⟨Ao33, co33, eo33⟩ := Kd.R_slice HO_7.out
    subst eo33
    obtain ⟨⟨ad546, e546, hx546_0⟩, p546, q546⟩ := pq (Kd.at_int (Kd.R_reads' HO_7.out).2.2 x8_1)
    cases e546
    go_wp2
    go_roundg k1
    case measure => have := HK1.out; omega
    case rel => exact ⟨(x5_1), (wrap64 (x8_1 + 1)), rr, H', ⟨by have := HK1.out; omega⟩, ⟨no HO_5.out⟩, ⟨no HO_6.out⟩, ⟨ro HO_7.out⟩, ⟨bo BK536.out⟩, ⟨bw⟩⟩
   obtain rfl := Option.some.inj H
   go_wp2
   go_ret
   exact ⟨_, re, by (with_reducible repeat (first | apply Kd.N_alloc | apply Kd.N_drewN | apply Kd.N_drew)); exact Kd.N_mono HO_5.out (fun _ hk => hk.1), bw⟩

end Go.Proofs.Ytlfdipnhlmjiaaa.C
