/- Contracts of functions of the program: spec_l14Marks, spec_ClassesOf, spec_l4Gaps, spec_Gaps, spec_FrobeniusOf. -/
import Derived.Test.YtlfdipnhlmjiaaaC0
import Derived.Test.YtlfdipnhlmjiaaaC1
import Derived.Test.YtlfdipnhlmjiaaaC3
import Derived.Test.YtlfdipnhlmjiaaaC4
namespace Go.Proofs.Ytlfdipnhlmjiaaa.C
open Go.RowKit Go.Proofs.YtlfdipnhlmjiaaaW.PrintWords Go.Proofs.YtlfdipnhlmjiaaaW.PrintLast Go.Proofs.YtlfdipnhlmjiaaaW.PrintMore
attribute [local go_sem] max2_int min2_int max_two min_two max_three min_three max_four min_four
set_option linter.unusedVariables false
set_option linter.unusedSimpArgs false

/-! ### spec_l14Marks: function 81 -/
mutual
def spec_l14Marks.l0 : Nat → List (List Int) → List Int → Int → Option (List Int)
 | 0, _, _, _ => none
 | k + 1, x0, x3, x4 => if x4 < (x0.length : Int) then (if x3.length < 17592186044416 then (spec_l14Marks.l0 k x0 (x3 ++ [x4]) (wrap64 (x4 + 1))) else (none)) else (spec_l14Marks.l1 k x0 x3 0)
def spec_l14Marks.l1 : Nat → List (List Int) → List Int → Int → Option (List Int)
 | 0, _, _, _ => none
 | k + 1, x0, x3, x5 => if x5 < (x0.length : Int) then (spec_l14Marks.l2 k x0 x3 x5 0) else (some x3)
def spec_l14Marks.l2 : Nat → List (List Int) → List Int → Int → Int → Option (List Int)
 | 0, _, _, _, _ => none
 | k + 1, x0, x3, x5, x6 => if x6 < x5 then (if 0 ≤ x5 then (if x5 < (x3.length : Int) then (if 0 ≤ x6 then (if x6 < (x3.length : Int) then (if (rd x3 x5) = (rd x3 x6) then (spec_l14Marks.j3 k x0 x3 x5 x6 true) else (if x5 < (x0.length : Int) then (if x6 < (x0.length : Int) then ((spec_l14Linked.f k (rd_L2 x0 x5) (rd_L2 x0 x6)).bind fun t312 => (spec_l14Marks.j3 k x0 x3 x5 x6 (!t312))) else (none)) else (none))) else (none)) else (none)) else (none)) else (none)) else (spec_l14Marks.l1 k x0 x3 (wrap64 (x5 + 1)))
def spec_l14Marks.j3 : Nat → List (List Int) → List Int → Int → Int → Bool → Option (List Int)
 | 0, _, _, _, _, _ => none
 | k + 1, x0, x3, x5, x6, x52 => if x52 = true then (spec_l14Marks.l2 k x0 x3 x5 (wrap64 (x6 + 1))) else (if 0 ≤ x5 then (if x5 < (x3.length : Int) then (if 0 ≤ x6 then (if x6 < (x3.length : Int) then ((spec_l1Min.f (rd x3 x5) (rd x3 x6)).bind fun t315 => ((spec_l1Max.f (rd x3 x5) (rd x3 x6)).bind fun t318 => (spec_l14Marks.l3 k x0 x3 x5 x6 t315 t318 0))) else (none)) else (none)) else (none)) else (none))
def spec_l14Marks.l3 : Nat → List (List Int) → List Int → Int → Int → Int → Int → Int → Option (List Int)
 | 0, _, _, _, _, _, _, _ => none
 | k + 1, x0, x3, x5, x6, x7, x8, x9 => if x9 < (x0.length : Int) then (if 0 ≤ x9 then (if x9 < (x3.length : Int) then (if (rd x3 x9) = x8 then (spec_l14Marks.l3 k x0 (x3.set (x9 : Int).toNat x7) x5 x6 x7 x8 (wrap64 (x9 + 1))) else (spec_l14Marks.l3 k x0 x3 x5 x6 x7 x8 (wrap64 (x9 + 1)))) else (none)) else (none)) else (spec_l14Marks.l2 k x0 x3 x5 (wrap64 (x6 + 1)))
end
def spec_l14Marks.f (k : Nat) (l0 : List (List Int)) : Option (List Int) := spec_l14Marks.l0 k l0 (([] : List Int)) 0
set_option maxHeartbeats 8000000 in
set_option maxRecDepth 100000 in
theorem spec_l14Marks.calls (k : Nat) (A0 : Option Addr) (c0 : Nat) (l0 : List (List Int)) (r : List Int) (w : World) (hr0 : Kd.C (Kd.slice 3 (Kd.int .i64)) w A0 l0.length l0) (hc0 : l0.length ≤ c0) (h : spec_l14Marks.f k l0 = some r) :
  Calls Try.prog 81 #[.slice A0 l0.length c0] w fun e w' => ∃ v0_ : Value, e = .returned (v0_) ∧ Kd.R (Kd.int .i64) 3 w' w.heap.size (fun _ => True) v0_ r ∧ Below w.heap.size w w' := by
 have HR0 := am hr0
 have HC0 := am hc0
 clear hr0 hc0
 have HB := am (Below.refl w.heap.size w)
 have H : (spec_l14Marks.l0 k l0 (([] : List Int)) 0) = some r := h
 clear h
 obtain ⟨y302, hy302⟩ : ∃ y_ : List Int, y_ = (([] : List Int)) := ⟨_, rfl⟩
 replace H : (spec_l14Marks.l0 k l0 y302 0) = some r := by first | (rw [hy302]; with_reducible first | exact H | exact bs H) | (with_reducible first | exact bs H | exact H) | (rw [hy302]; exact H) | exact H
 have Ny302 := am hy302
 clear hy302
 have H' := am H
 clear H
 go_enter Try.func81, Try.ntmps81
 go_wp2_with (first | ((with_reducible refine gate_dst (N := 10) rfl ?_); refine Kd.R_lit (Kd.int .i64) _ 3 ?hg (N := 10) ?hd (xs := ([] : List Int)) (inner := []) (ok := fun _ => True) (okp := fun _ => True) ?hr ?hp (fun _ hk => hk) trivial (Below.refl _ _) (Nat.le_refl _) (by simp) ?_; (case hd => rfl); (case hg => rfl); (case hr => first | (go_simp; done) | (go_simp; rfl)); (case hp => exact (Reps.none _ _)); intro v303 w2 ho3 hb hg_ hnew_; clear hg_ hnew_; (first | rw [← Ny302.out] at ho3 | (simp only [Int.reduceToNat] at ho3; rw [← Ny302.out] at ho3)); have HO304 := am (Kd.R_lower ho3 (below_size bw)); replace HB := am (below_step bw hb); clear hb ho3))
 repeat (go_quiet (fail); try go_wp2_with (first | ((with_reducible refine gate_dst (N := 10) rfl ?_); refine Kd.R_lit (Kd.int .i64) _ 3 ?hg (N := 10) ?hd (xs := ([] : List Int)) (inner := []) (ok := fun _ => True) (okp := fun _ => True) ?hr ?hp (fun _ hk => hk) trivial (Below.refl _ _) (Nat.le_refl _) (by simp) ?_; (case hd => rfl); (case hg => rfl); (case hr => first | (go_simp; done) | (go_simp; rfl)); (case hp => exact (Reps.none _ _)); intro v303 w2 ho3 hb hg_ hnew_; clear hg_ hnew_; (first | rw [← Ny302.out] at ho3 | (simp only [Int.reduceToNat] at ho3; rw [← Ny302.out] at ho3)); have n0_ := am (Kd.R_lower ho3 (below_size bw)); have n1_ := am (below_step bw hb); clear HB; have HO304 := n0_; have HB := n1_; clear n0_ n1_; clear hb ho3)))
 go_loopg [3, 4] k (fun kq v3 v4 w' => ∃ (x3_1 : List Int) (x4_1 : Int), v4 = .int .i64 x4_1 ∧ Aside0 (spec_l14Marks.l0 kq l0 x3_1 x4_1 = some r) ∧ Aside0 (kq ≤ k) ∧ Aside0 (Kd.R (Kd.int .i64) 3 w' w.heap.size (fun _ => True) v3 x3_1) ∧ Aside0 (Below w.heap.size w w'))
 case atStart => exact ⟨(y302), (0), rr, H', ⟨Nat.le_refl _⟩, ⟨ro HO304.out⟩, ⟨bw⟩⟩
 case round =>
  clear H'
  obtain ⟨x3_1, x4_1, rfl, HA, HK1, HO_3, HB⟩ := hrel
  cases gk with
  | zero => exact absurd HA.out (by simp [spec_l14Marks.l0])
  | succ k1 =>
   have H := HA.out
   clear HA
   simp only [spec_l14Marks.l0] at H
   replace H := gi H; obtain ⟨c4b0, H⟩ | ⟨c4b0, H⟩ := H
   ·by_cases c5 : x3_1.length < 17592186044416
    rotate_left
    ·rw [if_neg c5] at H
     exact absurd H (by simp)
    rw [if_pos c5] at H
    have LMc5 := am c5
    clear c5
    obtain ⟨y305, hy305⟩ : ∃ y_ : List Int, y_ = (x3_1 ++ [x4_1]) := ⟨_, rfl⟩
    replace H : (spec_l14Marks.l0 k1 l0 y305 (wrap64 (x4_1 + 1))) = some r := by first | (rw [hy305]; with_reducible first | exact H | exact bs H) | (with_reducible first | exact bs H | exact H) | (rw [hy305]; exact H) | exact H
    have Ny305 := am hy305
    clear hy305
    have H' := am H
    clear H
    go_wp2_with (first | ((with_reducible refine gate_builtin (b := .append) (xs := #[.tmp 17, .tmp 19]) rfl ?_); at_builtin; refine Kd.R_append (Kd.int .i64) (w0 := w) w.heap.size rfl (.tmp 17) (.tmp 19) 22 3 (.int .i64 0) 8 rfl Try.underlying22 info3 rfl (by decide) (by omega) u3 x3_1 x4_1 [.int .i64 x4_1] (fun _ => True) (fun _ => False) rfl rfl ?aP (fun _ hk => hk.elim) ?aF ?aO ?aB ?aS ?aL ?_; (case aP => exact rfl); (case aB => exact bw); (case aF => exact (fun _ _ => trivial)); (case aO => exact (ro HO_3.out)); (case aS => exact (below_size bw)); (case aL => have := LMc5.out; omega); intro v306 w6 ho hb hg hat; rw [← Ny305.out] at ho; replace HB := am (hb); have HO307 := am (ho); clear HO_3 ho hb hg hat))
    repeat (go_quiet (fail); try go_wp2_with (first | ((with_reducible refine gate_builtin (b := .append) (xs := #[.tmp 17, .tmp 19]) rfl ?_); at_builtin; refine Kd.R_append (Kd.int .i64) (w0 := w) w.heap.size rfl (.tmp 17) (.tmp 19) 22 3 (.int .i64 0) 8 rfl Try.underlying22 info3 rfl (by decide) (by omega) u3 x3_1 x4_1 [.int .i64 x4_1] (fun _ => True) (fun _ => False) rfl rfl ?aP (fun _ hk => hk.elim) ?aF ?aO ?aB ?aS ?aL ?_; (case aP => exact rfl); (case aB => exact bw); (case aF => exact (fun _ _ => trivial)); (case aO => exact (ro HO_3.out)); (case aS => exact (below_size bw)); (case aL => have := LMc5.out; omega); intro v306 w6 ho hb hg hat; rw [← Ny305.out] at ho; have n0_ := am (hb); have n1_ := am (ho); clear HB; clear HO_3; have HB := n0_; have HO307 := n1_; clear n0_ n1_; clear ho hb hg hat)))
    go_roundg k1
    case measure => have := HK1.out; omega
    case rel => exact ⟨(y305), (wrap64 (x4_1 + 1)), rr, H', ⟨by have := HK1.out; omega⟩, ⟨ro HO307.out⟩, ⟨bw⟩⟩
   have H' := am H
   clear H
   go_wp2
   repeat (go_quiet (fail); try go_wp2)
   go_loopg [5] k1 (fun kq v5 w' => ∃ (x3_2 : List Int) (x5_2 : Int), v5 = .int .i64 x5_2 ∧ Aside0 (spec_l14Marks.l1 kq l0 x3_2 x5_2 = some r) ∧ Aside0 (kq ≤ k1) ∧ Aside0 (Kd.R (Kd.int .i64) 3 w' w.heap.size (fun _ => True) u3 x3_2) ∧ Aside0 (Below w.heap.size w w'))
   case atStart => exact ⟨(x3_1), (0), rr, H', ⟨Nat.le_refl _⟩, ⟨ro HO_3.out⟩, ⟨bw⟩⟩
   case round =>
    clear H'
    try clear c4b0; try clear c5
    obtain ⟨x3_2, x5_2, rfl, HA, HK2, HO_3, HB⟩ := hrel
    cases gk with
    | zero => exact absurd HA.out (by simp [spec_l14Marks.l1])
    | succ k2 =>
     have H := HA.out
     clear HA
     simp only [spec_l14Marks.l1] at H
     replace H := gi H; obtain ⟨c7b0, H⟩ | ⟨c7b0, H⟩ := H
     ·have H' := am H
      clear H
      go_wp2
      repeat (go_quiet (fail); try go_wp2)
      go_loopg [6] k2 (fun kq v6 w' => ∃ (x3_3 : List Int) (x6_3 : Int), v6 = .int .i64 x6_3 ∧ Aside0 (spec_l14Marks.l2 kq l0 x3_3 x5_2 x6_3 = some r) ∧ Aside0 (kq ≤ k2) ∧ Aside0 (Kd.R (Kd.int .i64) 3 w' w.heap.size (fun _ => True) u3 x3_3) ∧ Aside0 (Below w.heap.size w w'))
      case atStart => exact ⟨(x3_2), (0), rr, H', ⟨Nat.le_refl _⟩, ⟨ro HO_3.out⟩, ⟨bw⟩⟩
      case round =>
       clear H'
       try clear c4b0; try clear c5; try clear c7b0
       obtain ⟨x3_3, x6_3, rfl, HA, HK3, HO_3, HB⟩ := hrel
       cases gk with
       | zero => exact absurd HA.out (by simp [spec_l14Marks.l2])
       | succ k3 =>
        have H := HA.out
        clear HA
        simp only [spec_l14Marks.l2] at H
        replace H := gi H; obtain ⟨c8b0, H⟩ | ⟨c8b0, H⟩ := H
        ·have HC9 := am H
         clear H
         go_upto_region 12 with (fail)
         repeat (go_quiet (fail); go_upto_region 12 with (fail))
         go_cut [52] (fun v52 wc => ∃ (kq : Nat) (x52_8 : Bool), v52 = .bool x52_8 ∧ Aside0 (spec_l14Marks.j3 kq l0 x3_3 x5_2 x6_3 x52_8 = some r) ∧ Aside0 (kq ≤ k3) ∧ Aside0 (Kd.R (Kd.int .i64) 3 wc w.heap.size (fun _ => True) u3 x3_3) ∧ Aside0 (Below w.heap.size w wc))
         case first =>
          have H := HC9.out
          clear HC9
          replace H := gd H; obtain ⟨c10b0, H⟩ := H
          (first | rw [c10b0] | (simp only [i64_w, i32_w]; rw [c10b0]) | skip)
          replace H := gd H; obtain ⟨c11b0, H⟩ := H
          replace H := gd H; obtain ⟨c12b0, H⟩ := H
          replace H := gd H; obtain ⟨c13b0, H⟩ := H
          by_cases c14 : (rd x3_3 x5_2) = (rd x3_3 x6_3)
          ·rw [if_pos c14] at H
           have c14b0 : ((rd x3_3 x5_2) == (rd x3_3 x6_3)) = true := beq_iff_eq.mpr c14
           have c14b1 : ((rd x3_3 x5_2) != (rd x3_3 x6_3)) = false := bne_eq_false_iff_eq.mpr c14
           clear c14
           have H' := am H
           clear H
           obtain ⟨Ao15, co15, eo15⟩ := Kd.R_slice HO_3.out
           subst eo15
           obtain ⟨⟨ad308, e308, hx308_0⟩, p308, q308⟩ := pq (Kd.at_int (Kd.R_reads' HO_3.out).2.2 x5_2)
           cases e308
           obtain ⟨⟨ad309, e309, hx309_0⟩, p309, q309⟩ := pq (Kd.at_int (Kd.R_reads' HO_3.out).2.2 x6_3)
           obtain rfl : ad308 = ad309 := (by injection e309)
           go_wp2
           repeat (go_quiet (fail); try go_wp2)
           go_meet
           case rel => exact ⟨_, (true), rr, H', ⟨by have := HK1.out; have := HK2.out; have := HK3.out; first | omega | exact Nat.le_refl _⟩, ⟨ro HO_3.out⟩, ⟨bw⟩⟩
          rw [if_neg c14] at H
          have c14b0 : ((rd x3_3 x5_2) == (rd x3_3 x6_3)) = false := beq_eq_false_iff_ne.mpr c14
          have c14b1 : ((rd x3_3 x5_2) != (rd x3_3 x6_3)) = true := bne_iff_ne.mpr c14
          replace H := gd H; obtain ⟨c16b0, H⟩ := H
          replace H := gd H; obtain ⟨c17b0, H⟩ := H
          replace H := ga H; obtain ⟨t312, A18, H⟩ := H
          have H' := am H
          clear H
          obtain ⟨Ao19, co19, eo19⟩ := Kd.R_slice HO_3.out
          subst eo19
          obtain ⟨⟨ad308, e308, hx308_0⟩, p308, q308⟩ := pq (Kd.at_int (Kd.R_reads' HO_3.out).2.2 x5_2)
          cases e308
          obtain ⟨⟨ad309, e309, hx309_0⟩, p309, q309⟩ := pq (Kd.at_int (Kd.R_reads' HO_3.out).2.2 x6_3)
          obtain rfl : ad308 = ad309 := (by injection e309)
          obtain ⟨⟨ad310, A310_0, c310_0, e310, hx310_0, hl310_0, hi310_0⟩, p310, q310⟩ := pq (at_L2 HR0.out x5_2)
          cases e310
          replace hx310_0 := hw HB hx310_0
          have HR310_0 := am hi310_0
          have HC310_0 := am hl310_0
          clear hi310_0 hl310_0
          obtain ⟨⟨ad311, A311_0, c311_0, e311, hx311_0, hl311_0, hi311_0⟩, p311, q311⟩ := pq (at_L2 HR0.out x6_3)
          obtain rfl : ad310 = ad311 := (by injection e311)
          replace hx311_0 := hw HB hx311_0
          have HR311_0 := am hi311_0
          have HC311_0 := am hl311_0
          clear hi311_0 hl311_0
          go_wp2_with (first | (go_at_call 131; (with_reducible refine (spec_l14Linked.calls k3 _ _ (rd_L2 l0 x5_2) _ _ (rd_L2 l0 x6_3) t312 _ ?side1 ?side2 ?side3 ?side4 A18.out).mono ?_); (case side1 => exact co (Kd.C_below HR310_0.out HB.out)); (case side2 => exact HC310_0.out); (case side3 => exact co (Kd.C_below HR311_0.out HB.out)); (case side4 => exact HC311_0.out); rintro e w' ⟨rfl, ⟨nd, rfl⟩⟩; (try first | exact ⟨rfl, _, World.drewN_drewN _ _ _⟩ | exact ⟨rfl, _, Eq.trans (World.drewN_drewN _ _ _) (congrArg (World.drewN _) (Nat.add_assoc _ _ _))⟩)))
          repeat (go_quiet (first | (go_at_call 131; (with_reducible refine (spec_l14Linked.calls k3 _ _ (rd_L2 l0 x5_2) _ _ (rd_L2 l0 x6_3) t312 _ ?side1 ?side2 ?side3 ?side4 A18.out).mono ?_); (case side1 => exact co (Kd.C_below HR310_0.out HB.out)); (case side2 => exact HC310_0.out); (case side3 => exact co (Kd.C_below HR311_0.out HB.out)); (case side4 => exact HC311_0.out); rintro e w' ⟨rfl, ⟨nd, rfl⟩⟩; (try first | exact ⟨rfl, _, World.drewN_drewN _ _ _⟩ | exact ⟨rfl, _, Eq.trans (World.drewN_drewN _ _ _) (congrArg (World.drewN _) (Nat.add_assoc _ _ _))⟩))); try go_wp2_with (first | (go_at_call 131; (with_reducible refine (spec_l14Linked.calls k3 _ _ (rd_L2 l0 x5_2) _ _ (rd_L2 l0 x6_3) t312 _ ?side1 ?side2 ?side3 ?side4 A18.out).mono ?_); (case side1 => exact co (Kd.C_below HR310_0.out HB.out)); (case side2 => exact HC310_0.out); (case side3 => exact co (Kd.C_below HR311_0.out HB.out)); (case side4 => exact HC311_0.out); rintro e w' ⟨rfl, ⟨nd, rfl⟩⟩; (try first | exact ⟨rfl, _, World.drewN_drewN _ _ _⟩ | exact ⟨rfl, _, Eq.trans (World.drewN_drewN _ _ _) (congrArg (World.drewN _) (Nat.add_assoc _ _ _))⟩))))
          go_meet
          case rel => exact ⟨_, (!t312), rr, H', ⟨by have := HK1.out; have := HK2.out; have := HK3.out; first | omega | exact Nat.le_refl _⟩, ⟨ro HO_3.out⟩, ⟨bw⟩⟩
         case rest =>
          clear HC9
          try clear c4b0; try clear c5; try clear c7b0; try clear c8b0; try clear c10b0; try clear c11b0; try clear c12b0; try clear c13b0; try clear c14; try clear c14b0; try clear c14b1; try clear c16b0; try clear c17b0; try clear hx308_0; try clear hx309_0; try clear hx310_0; try clear hx311_0; try clear p308; try clear p309; try clear p310; try clear p311; try clear q308; try clear q309; try clear q310; try clear q311
          obtain ⟨kq, x52_8, rfl, HA, HJ8, HO_3, HB⟩ := hcut
          cases kq with
          | zero => exact absurd HA.out (by simp [spec_l14Marks.j3])
          | succ kj8 =>
           have H := HA.out
           clear HA
           simp only [spec_l14Marks.j3] at H
           replace H := gb H; obtain ⟨rfl, H⟩ | ⟨rfl, H⟩ := H
           ·have H' := am H
            clear H
            go_wp2
            repeat (go_quiet (fail); try go_wp2)
            go_roundg kj8
            case measure => have := HK1.out; have := HK2.out; have := HK3.out; have := HJ8.out; omega
            case rel => exact ⟨(x3_3), (wrap64 (x6_3 + 1)), rr, H', ⟨by have := HK1.out; have := HK2.out; have := HK3.out; have := HJ8.out; omega⟩, ⟨ro HO_3.out⟩, ⟨bw⟩⟩
           replace H := gd H; obtain ⟨c21b0, H⟩ := H
           replace H := gd H; obtain ⟨c22b0, H⟩ := H
           replace H := gd H; obtain ⟨c23b0, H⟩ := H
           replace H := gd H; obtain ⟨c24b0, H⟩ := H
           replace H := ga H; obtain ⟨t315, A25, H⟩ := H
           replace H := ga H; obtain ⟨t318, A26, H⟩ := H
           have H' := am H
           clear H
           obtain ⟨Ao27, co27, eo27⟩ := Kd.R_slice HO_3.out
           subst eo27
           obtain ⟨⟨ad313, e313, hx313_0⟩, p313, q313⟩ := pq (Kd.at_int (Kd.R_reads' HO_3.out).2.2 x5_2)
           cases e313
           obtain ⟨⟨ad314, e314, hx314_0⟩, p314, q314⟩ := pq (Kd.at_int (Kd.R_reads' HO_3.out).2.2 x6_3)
           obtain rfl : ad313 = ad314 := (by injection e314)
           go_wp2_with (first | (go_at_call 132; (with_reducible refine (spec_l1Min.calls (rd x3_3 x5_2) (rd x3_3 x6_3) t315 _ A25.out).mono ?_); rintro e w' ⟨rfl, ⟨nd, rfl⟩⟩; (try first | exact ⟨rfl, _, World.drewN_drewN _ _ _⟩ | exact ⟨rfl, _, Eq.trans (World.drewN_drewN _ _ _) (congrArg (World.drewN _) (Nat.add_assoc _ _ _))⟩); have p316 : 0 ≤ (x5_2 : Int) := of_decide_eq_true (by first | (with_reducible assumption) | assumption); have q316 : x5_2 < (x3_3.length : Int) := of_decide_eq_true (by first | (with_reducible assumption) | assumption); obtain ⟨ad316, e316, hx316_0⟩ := Kd.at_int (Kd.R_reads' HO_3.out).2.2 x5_2 p316 q316; obtain rfl : ad313 = ad316 := (by injection e316); replace p316 := eq_true p316; replace q316 := eq_true q316; have p317 : 0 ≤ (x6_3 : Int) := of_decide_eq_true (by first | (with_reducible assumption) | assumption); have q317 : x6_3 < (x3_3.length : Int) := of_decide_eq_true (by first | (with_reducible assumption) | assumption); obtain ⟨ad317, e317, hx317_0⟩ := Kd.at_int (Kd.R_reads' HO_3.out).2.2 x6_3 p317 q317; obtain rfl : ad313 = ad317 := (by injection e317); replace p317 := eq_true p317; replace q317 := eq_true q317) | (go_at_call 60; (with_reducible refine (spec_l1Max.calls (rd x3_3 x5_2) (rd x3_3 x6_3) t318 _ A26.out).mono ?_); rintro e w' ⟨rfl, ⟨nd, rfl⟩⟩; (try first | exact ⟨rfl, _, World.drewN_drewN _ _ _⟩ | exact ⟨rfl, _, Eq.trans (World.drewN_drewN _ _ _) (congrArg (World.drewN _) (Nat.add_assoc _ _ _))⟩)))
           repeat (go_quiet (first | (go_at_call 132; (with_reducible refine (spec_l1Min.calls (rd x3_3 x5_2) (rd x3_3 x6_3) t315 _ A25.out).mono ?_); rintro e w' ⟨rfl, ⟨nd, rfl⟩⟩; (try first | exact ⟨rfl, _, World.drewN_drewN _ _ _⟩ | exact ⟨rfl, _, Eq.trans (World.drewN_drewN _ _ _) (congrArg (World.drewN _) (Nat.add_assoc _ _ _))⟩); have p316 : 0 ≤ (x5_2 : Int) := of_decide_eq_true (by first | (with_reducible assumption) | assumption); have q316 : x5_2 < (x3_3.length : Int) := of_decide_eq_true (by first | (with_reducible assumption) | assumption); obtain ⟨ad316, e316, hx316_0⟩ := Kd.at_int (Kd.R_reads' HO_3.out).2.2 x5_2 p316 q316; obtain rfl : ad313 = ad316 := (by injection e316); replace p316 := eq_true p316; replace q316 := eq_true q316; have p317 : 0 ≤ (x6_3 : Int) := of_decide_eq_true (by first | (with_reducible assumption) | assumption); have q317 : x6_3 < (x3_3.length : Int) := of_decide_eq_true (by first | (with_reducible assumption) | assumption); obtain ⟨ad317, e317, hx317_0⟩ := Kd.at_int (Kd.R_reads' HO_3.out).2.2 x6_3 p317 q317; obtain rfl : ad313 = ad317 := (by injection e317); replace p317 := eq_true p317; replace q317 := eq_true q317) | (go_at_call 60; (with_reducible refine (spec_l1Max.calls (rd x3_3 x5_2) (rd x3_3 x6_3) t318 _ A26.out).mono ?_); rintro e w' ⟨rfl, ⟨nd, rfl⟩⟩; (try first | exact ⟨rfl, _, World.drewN_drewN _ _ _⟩ | exact ⟨rfl, _, Eq.trans (World.drewN_drewN _ _ _) (congrArg (World.drewN _) (Nat.add_assoc _ _ _))⟩))); try go_wp2_with (first | (go_at_call 132; (with_reducible refine (spec_l1Min.calls (rd x3_3 x5_2) (rd x3_3 x6_3) t315 _ A25.out).mono ?_); rintro e w' ⟨rfl, ⟨nd, rfl⟩⟩; (try first | exact ⟨rfl, _, World.drewN_drewN _ _ _⟩ | exact ⟨rfl, _, Eq.trans (World.drewN_drewN _ _ _) (congrArg (World.drewN _) (Nat.add_assoc _ _ _))⟩); have p316 : 0 ≤ (x5_2 : Int) := of_decide_eq_true (by first | (with_reducible assumption) | assumption); have q316 : x5_2 < (x3_3.length : Int) := of_decide_eq_true (by first | (with_reducible assumption) | assumption); obtain ⟨ad316, e316, hx316_0⟩ := Kd.at_int (Kd.R_reads' HO_3.out).2.2 x5_2 p316 q316; obtain rfl : ad313 = ad316 := (by injection e316); replace p316 := eq_true p316; replace q316 := eq_true q316; have p317 : 0 ≤ (x6_3 : Int) := of_decide_eq_true (by first | (with_reducible assumption) | assumption); have q317 : x6_3 < (x3_3.length : Int) := of_decide_eq_true (by first | (with_reducible assumption) | assumption); obtain ⟨ad317, e317, hx317_0⟩ := Kd.at_int (Kd.R_reads' HO_3.out).2.2 x6_3 p317 q317; obtain rfl : ad313 = ad317 := (by injection e317); replace p317 := eq_true p317; replace q317 := eq_true q317) | (go_at_call 60; (with_reducible refine (spec_l1Max.calls (rd x3_3 x5_2) (rd x3_3 x6_3) t318 _ A26.out).mono ?_); rintro e w' ⟨rfl, ⟨nd, rfl⟩⟩; (try first | exact ⟨rfl, _, World.drewN_drewN _ _ _⟩ | exact ⟨rfl, _, Eq.trans (World.drewN_drewN _ _ _) (congrArg (World.drewN _) (Nat.add_assoc _ _ _))⟩))))
           go_loopg [9] kj8 (fun kq v9 w' => ∃ (x3_5 : List Int) (x9_5 : Int), v9 = .int .i64 x9_5 ∧ Aside0 (spec_l14Marks.l3 kq l0 x3_5 x5_2 x6_3 t315 t318 x9_5 = some r) ∧ Aside0 (kq ≤ kj8) ∧ Aside0 (Kd.R (Kd.int .i64) 3 w' w.heap.size (fun _ => True) (.slice (some ad313) x3_3.length co27) x3_5) ∧ Aside0 (Below w.heap.size w w'))
           case atStart => exact ⟨(x3_3), (0), rr, H', ⟨Nat.le_refl _⟩, ⟨ro HO_3.out⟩, ⟨bw⟩⟩
           case round =>
            clear H'
            try clear c4b0; try clear c5; try clear c7b0; try clear c8b0; try clear c10b0; try clear c11b0; try clear c12b0; try clear c13b0; try clear c14; try clear c14b0; try clear c14b1; try clear c16b0; try clear c17b0; try clear c21b0; try clear c22b0; try clear c23b0; try clear c24b0; try clear hx308_0; try clear hx309_0; try clear hx310_0; try clear hx311_0; try clear hx313_0; try clear hx314_0; try clear hx316_0; try clear hx317_0; try clear p308; try clear p309; try clear p310; try clear p311; try clear p313; try clear p314; try clear p316; try clear p317; try clear q308; try clear q309; try clear q310; try clear q311; try clear q313; try clear q314; try clear q316; try clear q317
            obtain ⟨x3_5, x9_5, rfl, HA, HK5, HO_3, HB⟩ := hrel
            have hl3_5 := (Kd.R_reads' HO_3.out).1
            rw [hl3_5] at HO_3
            (try simp only [hl3_5])
            cases gk with
            | zero => exact absurd HA.out (by simp [spec_l14Marks.l3])
            | succ k5 =>
             have H := HA.out
             clear HA
             simp only [spec_l14Marks.l3] at H
             replace H := gi H; obtain ⟨c28b0, H⟩ | ⟨c28b0, H⟩ := H
             ·replace H := gd H; obtain ⟨c29b0, H⟩ := H
              by_cases c30 : x9_5 < (x3_5.length : Int)
              rotate_left
              ·rw [if_neg c30] at H
               exact absurd H (by simp)
              rw [if_pos c30] at H
              have c30b0 : decide (x9_5 < (x3_5.length : Int)) = true := decide_eq_true c30
              (try simp only [hl3_5] at c30b0)
              clear c30
              by_cases c31 : (rd x3_5 x9_5) = t318
              ·rw [if_pos c31] at H
               have c31b0 : ((rd x3_5 x9_5) == t318) = true := beq_iff_eq.mpr c31
               have c31b1 : ((rd x3_5 x9_5) != t318) = false := bne_eq_false_iff_eq.mpr c31
               clear c31
               obtain ⟨y320, hy320⟩ : ∃ y_ : List Int, y_ = (x3_5.set (x9_5 : Int).toNat t315) := ⟨_, rfl⟩
               replace H : (spec_l14Marks.l3 k5 l0 y320 x5_2 x6_3 t315 t318 (wrap64 (x9_5 + 1))) = some r := by first | (rw [hy320]; with_reducible first | exact H | exact bs H) | (with_reducible first | exact bs H | exact H) | (rw [hy320]; exact H) | exact H
               have Ny320 := am hy320
               clear hy320
               have H' := am H
               clear H
               obtain ⟨⟨ad319, e319, hx319_0⟩, p319, q319⟩ := pq (Kd.at_int (Kd.R_reads' HO_3.out).2.2 x9_5)
               obtain rfl : ad313 = ad319 := (by injection e319)
               have p32 : 0 ≤ (x9_5 : Int) := of_decide_eq_true (by first | (with_reducible assumption) | assumption)
               have q32 : (x9_5 : Int) < ((x3_5.length : Int) : Int) := of_decide_eq_true (by first | (with_reducible assumption) | assumption)
               obtain ⟨go32, co32, eo32, gb32, gl32, cl32, HG32⟩ := Kd.R_form HO_3.out (by omega)
               (first | cases eo32 | (injection eo32 with ea_ en_ ec_; (first | subst ea_ | (injection ea_ with ea_; subst ea_)); subst ec_; clear en_))
               have GB32 := am gb32
               have GG32 := am HG32
               clear gb32 gl32 HG32
               (first | simp only [add_plain] at hx313_0 | skip)
               (first | simp only [add_plain] at hx314_0 | skip)
               (first | simp only [add_plain] at hx316_0 | skip)
               (first | simp only [add_plain] at hx317_0 | skip)
               (first | simp only [add_plain] at hx319_0 | skip)
               obtain ⟨hx32_0, hf32_0⟩ := Kd.R_celln 0 HO_3.out (x9_5 : Int) p32 q32
               replace p32 := eq_true p32
               replace q32 := eq_true q32
               have HP33 := Kd.R_putg HO_3.out (x9_5 : Int) t315
               go_wp2_with (first | ((with_reducible refine gate_store (t := 3) (p := 86) rfl ?_); (try (rw [drewN_self wr]; generalize hq_ : World.drewN wr _ = wr; have n0_ := am (Kd.R_at hq_ HO_3.out); have n1_ := am (below_at hq_ HB.out); clear hq_ HO_3 HB; have HO_3 := n0_; have HB := n1_; clear n0_ n1_; (try (have HP33 := Kd.R_putg HO_3.out (x9_5 : Int) t315)))); refine store_event (t := 3) (p := 86) (v := ?vo_w34) (w1 := (wr.setCell ⟨go32, (x9_5 : Int).toNat, none⟩ (.int .i64 t315))) ?hg ?ho ?hn ?hr ?_; (case ho => rfl); (case hg => rfl); (case hn => rfl); (case hr => first | (go_simp; done) | (go_simp; rfl)); intro w34 hw; have hg : wr.grownBy w34 (some go32) := (by rw [hw]; exact HP33.2); have hp_ : Kd.R (Kd.int .i64) 3 w34 w.heap.size (fun _ => True) (.slice (some ⟨go32, 0, none⟩) x3_5.length co27) y320 := (by rw [hw, Ny320.out]; exact HP33.1); clear HP33; replace HO_3 := am (hp_); replace HB := am ((by rw [hw]; exact below_set (HB.out) GB32.out : Below w.heap.size w w34)); clear hg hw hp_))
               repeat (go_quiet (fail); try go_wp2_with (first | ((with_reducible refine gate_store (t := 3) (p := 86) rfl ?_); (try (rw [drewN_self wr]; generalize hq_ : World.drewN wr _ = wr; have n0_ := am (Kd.R_at hq_ HO_3.out); have n1_ := am (below_at hq_ HB.out); clear hq_ HO_3 HB; have HO_3 := n0_; have HB := n1_; clear n0_ n1_; (try (have HP33 := Kd.R_putg HO_3.out (x9_5 : Int) t315)))); refine store_event (t := 3) (p := 86) (v := ?vo_w34) (w1 := (wr.setCell ⟨go32, (x9_5 : Int).toNat, none⟩ (.int .i64 t315))) ?hg ?ho ?hn ?hr ?_; (case ho => rfl); (case hg => rfl); (case hn => rfl); (case hr => first | (go_simp; done) | (go_simp; rfl)); intro w34 hw; have hg : wr.grownBy w34 (some go32) := (by rw [hw]; exact HP33.2); have hp_ : Kd.R (Kd.int .i64) 3 w34 w.heap.size (fun _ => True) (.slice (some ⟨go32, 0, none⟩) x3_5.length co27) y320 := (by rw [hw, Ny320.out]; exact HP33.1); clear HP33; have n0_ := am (hp_); have n1_ := am ((by rw [hw]; exact below_set (HB.out) GB32.out : Below w.heap.size w w34)); clear HO_3; clear HB; have HO_3 := n0_; have HB := n1_; clear n0_ n1_; clear hg hw hp_)))
               (try simp only [← hl3_5])
               (try rw [← add_plain _ (x5_2 : Int).toNat]); (try rw [← add_plain _ (x6_3 : Int).toNat]); go_roundg k5
               case measure => have := HK1.out; have := HK2.out; have := HK3.out; have := HJ8.out; have := HK5.out; omega
               case rel => exact ⟨(y320), (wrap64 (x9_5 + 1)), rr, H', ⟨by have := HK1.out; have := HK2.out; have := HK3.out; have := HJ8.out; have := HK5.out; omega⟩, ⟨by (try simp only [hl3_5]); (with_reducible repeat (first | apply Kd.R_alloc | apply Kd.R_drewN | apply Kd.R_drew)); exact HO_3.out⟩, ⟨bw⟩⟩
              rw [if_neg c31] at H
              have c31b0 : ((rd x3_5 x9_5) == t318) = false := beq_eq_false_iff_ne.mpr c31
              have c31b1 : ((rd x3_5 x9_5) != t318) = true := bne_iff_ne.mpr c31
              have H' := am H
              clear H
              obtain ⟨⟨ad319, e319, hx319_0⟩, p319, q319⟩ := pq (Kd.at_int (Kd.R_reads' HO_3.out).2.2 x9_5)
              obtain rfl : ad313 = ad319 := (by injection e319)
              go_wp2
              repeat (go_quiet (fail); try go_wp2)
              (try simp only [← hl3_5])
              (try rw [← add_plain _ (x5_2 : Int).toNat]); (try rw [← add_plain _ (x6_3 : Int).toNat]); go_roundg k5
              case measure => have := HK1.out; have := HK2.out; have := HK3.out; have := HJ8.out; have := HK5.out; omega
              case rel => exact ⟨(x3_5), (wrap64 (x9_5 + 1)), rr, H', ⟨by have := HK1.out; have := HK2.out; have := HK3.out; have := HJ8.out; have := HK5.out; omega⟩, ⟨by (try simp only [hl3_5]); (with_reducible repeat (first | apply Kd.R_alloc | apply Kd.R_drewN | apply Kd.R_drew)); exact HO_3.out⟩, ⟨bw⟩⟩
             have H' := am H
             clear H
             go_wp2
             repeat (go_quiet (fail); try go_wp2)
             (try simp only [← hl3_5])
             (try rw [← add_plain _ (x5_2 : Int).toNat]); (try rw [← add_plain _ (x6_3 : Int).toNat]); go_roundg k5
             case measure => have := HK1.out; have := HK2.out; have := HK3.out; have := HJ8.out; have := HK5.out; omega
             case rel => exact ⟨(x3_5), (wrap64 (x6_3 + 1)), rr, H', ⟨by have := HK1.out; have := HK2.out; have := HK3.out; have := HJ8.out; have := HK5.out; omega⟩, ⟨by (try simp only [hl3_5]); (with_reducible repeat (first | apply Kd.R_alloc | apply Kd.R_drewN | apply Kd.R_drew)); exact HO_3.out⟩, ⟨bw⟩⟩
        have H' := am H
        clear H
        go_wp2
        repeat (go_quiet (fail); try go_wp2)
        go_roundg k3
        case measure => have := HK1.out; have := HK2.out; have := HK3.out; omega
        case rel => exact ⟨(x3_3), (wrap64 (x5_2 + 1)), rr, H', ⟨by have := HK1.out; have := HK2.out; have := HK3.out; omega⟩, ⟨ro HO_3.out⟩, ⟨bw⟩⟩
     obtain rfl := Option.some.inj H
     go_wp2
     repeat (go_quiet (fail); try go_wp2)
     go_ret
     exact ⟨_, re, ro HO_3.out, bw⟩


/-! ### spec_ClassesOf: function 30 -/
mutual
def spec_ClassesOf.l0 : Nat → List (List (List Int)) → List (List Int) → List Int → Int → Option ((List (List (List Int))))
 | 0, _, _, _, _ => none
 | k + 1, x5, x6, x7, x8 => if x8 < (x6.length : Int) then (if 0 ≤ x8 then (if x8 < (x7.length : Int) then (if (rd x7 x8) = x8 then (spec_ClassesOf.l1 k x5 x6 x7 x8 (([] : List (List Int))) 0) else (spec_ClassesOf.l0 k x5 x6 x7 (wrap64 (x8 + 1)))) else (none)) else (none)) else (some x5)
def spec_ClassesOf.l1 : Nat → List (List (List Int)) → List (List Int) → List Int → Int → List (List Int) → Int → Option ((List (List (List Int))))
 | 0, _, _, _, _, _, _ => none
 | k + 1, x5, x6, x7, x8, x9, x10 => if x10 < (x6.length : Int) then (if 0 ≤ x10 then (if x10 < (x7.length : Int) then (if (rd x7 x10) = x8 then ((some (([] : List Int) : List Int)).bind fun y336 => (if y336.length + (rd_L2 x6 x10).length < 17592186044416 then (if x9.length < 5864062014805 then (spec_ClassesOf.l1 k x5 x6 x7 x8 (x9 ++ [(y336 ++ (rd_L2 x6 x10))]) (wrap64 (x10 + 1))) else (none)) else (none))) else (spec_ClassesOf.l1 k x5 x6 x7 x8 x9 (wrap64 (x10 + 1)))) else (none)) else (none)) else (if x5.length < 5864062014805 then (spec_ClassesOf.l0 k (x5 ++ [x9]) x6 x7 (wrap64 (x8 + 1))) else (none))
end
def spec_ClassesOf.f (k : Nat) (l0_0 : List Int) (a1 : Int) : Option ((List (List (List Int)))) := (spec_Factorizations.f k l0_0 a1).bind fun t325 => ((spec_l14Marks.f k t325).bind fun t328 => (spec_ClassesOf.l0 k (([] : List (List (List Int)))) t325 t328 0))
set_option maxHeartbeats 8000000 in
set_option maxRecDepth 100000 in
theorem spec_ClassesOf.calls (k : Nat) (A0_0 : Option Addr) (c0_0 : Nat) (l0_0 : List Int) (a1 : Int) (r : List (List (List Int))) (w : World) (hr0_0 : Kd.C (Kd.int .i64) w A0_0 l0_0.length l0_0) (hc0_0 : l0_0.length ≤ c0_0) (h : spec_ClassesOf.f k l0_0 a1 = some r) :
  Calls Try.prog 30 #[.agg #[.slice A0_0 l0_0.length c0_0], .int .i64 a1] w fun e w' => ∃ v0_ : Value, e = .returned (v0_) ∧ Kd.N (Kd.slice 22 (Kd.slice 3 (Kd.int .i64))) 49 w' w.heap.size (fun k_ => (w.heap.size ≤ k_)) v0_ r ∧ Below w.heap.size w w' := by
 have hu27 := Try.underlying27
 have HR0_0 := am hr0_0
 have HC0_0 := am hc0_0
 clear hr0_0 hc0_0
 have HB := am (Below.refl w.heap.size w)
 have H : ((spec_Factorizations.f k l0_0 a1).bind fun t325 => ((spec_l14Marks.f k t325).bind fun t328 => (spec_ClassesOf.l0 k (([] : List (List (List Int)))) t325 t328 0))) = some r := h
 clear h
 obtain ⟨y322, hy322⟩ : ∃ y_ : List (List (List Int)), y_ = (([] : List (List (List Int)))) := ⟨_, rfl⟩
 replace H : ((spec_Factorizations.f k l0_0 a1).bind fun t325 => ((spec_l14Marks.f k t325).bind fun t328 => (spec_ClassesOf.l0 k y322 t325 t328 0))) = some r := by first | (rw [hy322]; with_reducible first | exact H | exact bs H) | (with_reducible first | exact bs H | exact H) | (rw [hy322]; exact H) | exact H
 have Ny322 := am hy322
 clear hy322
 replace H := ga H; obtain ⟨t325, A3, H⟩ := H
 replace H := ga H; obtain ⟨t328, A4, H⟩ := H
 have H' := am H
 clear H
 go_enter Try.func30, Try.ntmps30
 go_wp2_with (first | ((with_reducible refine gate_dst (N := 2) rfl ?_); refine bx 2 #[.slice A0_0 l0_0.length c0_0] 27 ?_; intro gb321 hg w5 hbox hb; have BK321 := am (hbox); have GW321 := am (gs hg : w.heap.size ≤ gb321); have GE321 := GW321; replace HB := am (below_step bw hb); clear hb hbox hg) | ((with_reducible refine gate_dst (N := 11) rfl ?_); refine Kd.N_lit (Kd.slice 22 (Kd.slice 3 (Kd.int .i64))) _ 49 ?hg (N' := 11) ?hd (xs := ([] : List (List (List Int)))) (inner := []) (ok := (fun k_ => (w.heap.size ≤ k_) ∧ k_ ≠ gb321)) (okp := (fun k_ => (w.heap.size ≤ k_) ∧ k_ ≠ gb321)) ?hr ?hp (fun _ hk => hk) ((show ∀ k_, w5.heap.size ≤ k_ → (fun k_ => (w.heap.size ≤ k_) ∧ k_ ≠ gb321) k_ from fun k_ hk => ⟨(Nat.le_trans (below_size bw) hk), Kd.freshB (g := gb321) (o := .cells #[.slice A0_0 l0_0.length c0_0] 27 (0, 0)) (bo BK321.out) k_ hk⟩) _ (Nat.le_refl _)) (Below.refl _ _) (Nat.le_refl _) (by simp) ?_; (case hd => rfl); (case hg => rfl); (case hr => first | (go_simp; done) | (go_simp; rfl)); (case hp => exact (Reps.none _ _)); intro v323 w6 ho7 hb hg_ hnew_; clear hg_ hnew_; (first | rw [← Ny322.out] at ho7 | (simp only [Int.reduceToNat] at ho7; rw [← Ny322.out] at ho7)); have HO324 := am (Kd.N_lower ho7 (below_size bw)); replace BK321 := kb BK321 hb; replace HB := am (below_step bw hb); clear hb ho7; have hcz8_0 := bc BK321 0 (.slice A0_0 l0_0.length c0_0); have hfz8_0 := blk_frozen BK321.out 0) | ((with_reducible refine gate_callee (f := 80) rfl ?_); refine gl (some 14) Try.func80 #[.agg #[.slice A0_0 l0_0.length c0_0], .int .i64 a1] ?_; (with_reducible refine (spec_Factorizations.calls k _ _ l0_0 a1 t325 _ ?side1 ?side2 A3.out).mono ?_); (case side1 => exact co (Kd.C_below HR0_0.out HB.out)); (case side2 => exact HC0_0.out); rintro e w9 ⟨v326, rfl, ho0, hb⟩; refine ⟨_, rfl, ?_⟩; have HO327 := am (Kd.N_lower (Kd.N_mono (ok' := fun k_ => (w.heap.size ≤ k_) ∧ some k_ ≠ (v323 : Value).ownBlock ∧ k_ ≠ gb321) ho0 (fun k_ hk_ => ⟨(Nat.le_trans (below_size bw) hk_), (Kd.fresh' (Kd.N_lt (no HO324.out)) k_ hk_), (Kd.freshB (g := gb321) (o := .cells #[.slice A0_0 l0_0.length c0_0] 27 (0, 0)) (bo BK321.out) k_ hk_)⟩)) (below_size bw)); replace HO324 := am (Kd.N_elder' (no HO324.out) (Kd.N_base ho0) hb); replace BK321 := kb BK321 hb; replace HB := am (below_step bw hb); clear hb ho0; obtain ⟨Ao10, co10, eo10⟩ := Kd.N_slice HO327.out; subst eo10) | ((with_reducible refine gate_callee (f := 81) rfl ?_); refine gl (some 16) Try.func81 #[.slice Ao10 t325.length co10] ?_; (with_reducible refine (spec_l14Marks.calls k _ _ t325 t328 _ ?side1 ?side2 A4.out).mono ?_); (case side1 => exact co (Kd.N_reads' HO327.out).2.2); (case side2 => exact (Kd.N_reads' HO327.out).2.1); rintro e w11 ⟨v329, rfl, ho0, hb⟩; refine ⟨_, rfl, ?_⟩; replace HO324 := am (Kd.N_elder' (no HO324.out) (Kd.R_base ho0) hb); replace HO327 := am (Kd.N_elder' (no HO327.out) (Kd.R_base ho0) hb); have HO330 := am (Kd.R_lower (Kd.R_newM (M := fun k_ => (w.heap.size ≤ k_)) ho0 (below_size bw) (fun k_ h_ => h_)) (below_size bw)); replace BK321 := kb BK321 hb; replace HB := am (below_step bw hb); clear hb ho0))
 go_loopg [5, 8] k (fun kq v5 v8 w' => ∃ (x5_1 : List (List (List Int))) (x8_1 : Int), v8 = .int .i64 x8_1 ∧ Aside0 (spec_ClassesOf.l0 kq x5_1 t325 t328 x8_1 = some r) ∧ Aside0 (kq ≤ k) ∧ Aside0 (Kd.N (Kd.slice 22 (Kd.slice 3 (Kd.int .i64))) 49 w' w.heap.size (fun k_ => (w.heap.size ≤ k_) ∧ nb k_ Ao10 t325 co10 ∧ some k_ ≠ (v329 : Value).ownBlock ∧ k_ ≠ gb321) v5 x5_1) ∧ Aside0 (Kd.N (Kd.slice 3 (Kd.int .i64)) 22 w' w.heap.size (fun k_ => (w.heap.size ≤ k_) ∧ some k_ ≠ (v5 : Value).ownBlock ∧ some k_ ≠ (v329 : Value).ownBlock ∧ k_ ≠ gb321) (.slice Ao10 t325.length co10) t325) ∧ Aside0 (Kd.R (Kd.int .i64) 3 w' w.heap.size (fun k_ => (w.heap.size ≤ k_)) v329 t328) ∧ Aside0 (w'.heap[gb321]? = some (.cells #[(.slice A0_0 l0_0.length c0_0)] 27 (0, 0))) ∧ Aside0 (Below w.heap.size w w'))
 case atStart => exact ⟨(y322), (0), rr, H', ⟨Nat.le_refl _⟩, ⟨by (with_reducible repeat (first | apply Kd.N_alloc | apply Kd.N_drewN | apply Kd.N_drew)); exact Kd.N_mono HO324.out (fun _ hk => ⟨hk.1.1.1, ⟨hk.1.2, ⟨hk.2, hk.1.1.2⟩⟩⟩)⟩, ⟨by (with_reducible repeat (first | apply Kd.N_alloc | apply Kd.N_drewN | apply Kd.N_drew)); exact Kd.N_mono HO327.out (fun _ hk => ⟨hk.1.1, ⟨hk.1.2.1, ⟨hk.2, hk.1.2.2⟩⟩⟩)⟩, ⟨by (with_reducible repeat (first | apply Kd.R_alloc | apply Kd.R_drewN | apply Kd.R_drew)); exact Kd.R_mono HO330.out (fun _ hk => hk.1)⟩, ⟨bo BK321.out⟩, ⟨bw⟩⟩
 case round =>
  clear H'
  try clear hcz8_0; try clear hfz8_0
  obtain ⟨x5_1, x8_1, rfl, HA, HK1, HO_5, HO_6, HO_7, BK321, HB⟩ := hrel
  cases gk with
  | zero => exact absurd HA.out (by simp [spec_ClassesOf.l0])
  | succ k1 =>
   have H := HA.out
   clear HA
   simp only [spec_ClassesOf.l0] at H
   replace H := gi H; obtain ⟨c12b0, H⟩ | ⟨c12b0, H⟩ := H
   ·replace H := gd H; obtain ⟨c13b0, H⟩ := H
    replace H := gd H; obtain ⟨c14b0, H⟩ := H
    by_cases c15 : (rd t328 x8_1) = x8_1
    ·rw [if_pos c15] at H
     have c15b0 : ((rd t328 x8_1) == x8_1) = true := beq_iff_eq.mpr c15
     have c15b1 : ((rd t328 x8_1) != x8_1) = false := bne_eq_false_iff_eq.mpr c15
     clear c15
     obtain ⟨y332, hy332⟩ : ∃ y_ : List (List Int), y_ = (([] : List (List Int))) := ⟨_, rfl⟩
     replace H : (spec_ClassesOf.l1 k1 x5_1 t325 t328 x8_1 y332 0) = some r := by first | (rw [hy332]; with_reducible first | exact H | exact bs H) | (with_reducible first | exact bs H | exact H) | (rw [hy332]; exact H) | exact H
     have Ny332 := am hy332
     clear hy332
     have H' := am H
     clear H
     obtain ⟨Ao16, co16, eo16⟩ := Kd.R_slice HO_7.out
     subst eo16
     obtain ⟨⟨ad331, e331, hx331_0⟩, p331, q331⟩ := pq (Kd.at_int (Kd.R_reads' HO_7.out).2.2 x8_1)
     cases e331
     go_wp2_with (first | ((with_reducible refine gate_dst (N := 29) rfl ?_); refine Kd.N_lit (Kd.slice 3 (Kd.int .i64)) _ 22 ?hg (N' := 29) ?hd (xs := ([] : List (List Int))) (inner := []) (ok := (fun k_ => (w.heap.size ≤ k_) ∧ some k_ ≠ (u5 : Value).ownBlock ∧ nb k_ Ao10 t325 co10 ∧ some k_ ≠ (.slice (some ad331) t328.length co16 : Value).ownBlock ∧ k_ ≠ gb321)) (okp := (fun k_ => (w.heap.size ≤ k_) ∧ some k_ ≠ (u5 : Value).ownBlock ∧ nb k_ Ao10 t325 co10 ∧ some k_ ≠ (.slice (some ad331) t328.length co16 : Value).ownBlock ∧ k_ ≠ gb321)) ?hr ?hp (fun _ hk => hk) ((show ∀ k_, wr.heap.size ≤ k_ → (fun k_ => (w.heap.size ≤ k_) ∧ some k_ ≠ (u5 : Value).ownBlock ∧ nb k_ Ao10 t325 co10 ∧ some k_ ≠ (.slice (some ad331) t328.length co16 : Value).ownBlock ∧ k_ ≠ gb321) k_ from fun k_ hk => ⟨(Nat.le_trans (below_size bw) hk), Kd.fresh' (Kd.N_lt (no HO_5.out)) k_ hk, Kd.fresh' (Kd.N_lt (no HO_6.out)) k_ hk, Kd.fresh' (Kd.R_lt (ro HO_7.out)) k_ hk, Kd.freshB (g := gb321) (o := .cells #[.slice A0_0 l0_0.length c0_0] 27 (0, 0)) (bo BK321.out) k_ hk⟩) _ (Nat.le_refl _)) (Below.refl _ _) (Nat.le_refl _) (by simp) ?_; (case hd => rfl); (case hg => rfl); (case hr => first | (go_simp; done) | (go_simp; rfl)); (case hp => exact (Reps.none _ _)); intro v333 w17 ho18 hb hg_ hnew_; clear hg_ hnew_; (first | rw [← Ny332.out] at ho18 | (simp only [Int.reduceToNat] at ho18; rw [← Ny332.out] at ho18)); replace HO_5 := am (Kd.N_elder' (no HO_5.out) (Kd.N_base ho18) hb); replace HO_6 := am (Kd.N_elder' (no HO_6.out) (Kd.N_base ho18) hb); replace HO_7 := rK HO_7 hb; have HO334 := am (Kd.N_lower ho18 (below_size bw)); replace BK321 := kb BK321 hb; replace HB := am (below_step bw hb); clear hb ho18))
     go_loopg [9, 10] k1 (fun kq v9 v10 w' => ∃ (x9_2 : List (List Int)) (x10_2 : Int), v10 = .int .i64 x10_2 ∧ Aside0 (spec_ClassesOf.l1 kq x5_1 t325 t328 x8_1 x9_2 x10_2 = some r) ∧ Aside0 (kq ≤ k1) ∧ Aside0 (Kd.N (Kd.slice 22 (Kd.slice 3 (Kd.int .i64))) 49 w' w.heap.size (fun k_ => (w.heap.size ≤ k_) ∧ nb k_ Ao10 t325 co10 ∧ some k_ ≠ ((.slice (some ad331) t328.length co16) : Value).ownBlock ∧ some k_ ≠ (v9 : Value).ownBlock ∧ k_ ≠ gb321) u5 x5_1) ∧ Aside0 (Kd.N (Kd.slice 3 (Kd.int .i64)) 22 w' w.heap.size (fun k_ => (w.heap.size ≤ k_) ∧ some k_ ≠ (u5 : Value).ownBlock ∧ some k_ ≠ ((.slice (some ad331) t328.length co16) : Value).ownBlock ∧ some k_ ≠ (v9 : Value).ownBlock ∧ k_ ≠ gb321) (.slice Ao10 t325.length co10) t325) ∧ Aside0 (Kd.R (Kd.int .i64) 3 w' w.heap.size (fun k_ => (w.heap.size ≤ k_)) (.slice (some ad331) t328.length co16) t328) ∧ Aside0 (Kd.N (Kd.slice 3 (Kd.int .i64)) 22 w' w.heap.size (fun k_ => (w.heap.size ≤ k_) ∧ some k_ ≠ (u5 : Value).ownBlock ∧ nb k_ Ao10 t325 co10 ∧ some k_ ≠ ((.slice (some ad331) t328.length co16) : Value).ownBlock ∧ k_ ≠ gb321) v9 x9_2) ∧ Aside0 (w'.heap[gb321]? = some (.cells #[(.slice A0_0 l0_0.length c0_0)] 27 (0, 0))) ∧ Aside0 (Below w.heap.size w w'))
     case atStart => exact ⟨(y332), (0), rr, H', ⟨Nat.le_refl _⟩, ⟨by (with_reducible repeat (first | apply Kd.N_alloc | apply Kd.N_drewN | apply Kd.N_drew)); exact Kd.N_mono HO_5.out (fun _ hk => ⟨hk.1.1, ⟨hk.1.2.1, ⟨hk.1.2.2.1, ⟨hk.2, hk.1.2.2.2⟩⟩⟩⟩)⟩, ⟨by (with_reducible repeat (first | apply Kd.N_alloc | apply Kd.N_drewN | apply Kd.N_drew)); exact Kd.N_mono HO_6.out (fun _ hk => ⟨hk.1.1, ⟨hk.1.2.1, ⟨hk.1.2.2.1, ⟨hk.2, hk.1.2.2.2⟩⟩⟩⟩)⟩, ⟨ro HO_7.out⟩, ⟨no HO334.out⟩, ⟨bo BK321.out⟩, ⟨bw⟩⟩
     case round =>
      clear H'
      try clear c12b0; try clear c13b0; try clear c14b0; try clear c15; try clear c15b0; try clear c15b1; try clear hcz8_0; try clear hfz8_0; try clear hx331_0; try clear p331; try clear q331
      obtain ⟨x9_2, x10_2, rfl, HA, HK2, HO_5, HO_6, HO_7, HO_9, BK321, HB⟩ := hrel
      cases gk with
      | zero => exact absurd HA.out (by simp [spec_ClassesOf.l1])
      | succ k2 =>
       have H := HA.out
       clear HA
       simp only [spec_ClassesOf.l1] at H
       replace H := gi H; obtain ⟨c19b0, H⟩ | ⟨c19b0, H⟩ := H
       ·replace H := gd H; obtain ⟨c20b0, H⟩ := H
        replace H := gd H; obtain ⟨c21b0, H⟩ := H
        by_cases c22 : (rd t328 x10_2) = x8_1
        ·rw [if_pos c22] at H
         have c22b0 : ((rd t328 x10_2) == x8_1) = true := beq_iff_eq.mpr c22
         have c22b1 : ((rd t328 x10_2) != x8_1) = false := bne_eq_false_iff_eq.mpr c22
         clear c22
         obtain ⟨y336, hy336⟩ : ∃ y_ : List Int, y_ = (([] : List Int)) := ⟨_, rfl⟩
         replace H : (if y336.length + (rd_L2 t325 x10_2).length < 17592186044416 then (if x9_2.length < 5864062014805 then (spec_ClassesOf.l1 k2 x5_1 t325 t328 x8_1 (x9_2 ++ [(y336 ++ (rd_L2 t325 x10_2))]) (wrap64 (x10_2 + 1))) else (none)) else (none)) = some r := by first | (rw [hy336]; with_reducible first | exact H | exact bs H) | (with_reducible first | exact bs H | exact H) | (rw [hy336]; exact H) | exact H
         have Ny336 := am hy336
         clear hy336
         by_cases c23 : y336.length + (rd_L2 t325 x10_2).length < 17592186044416
         rotate_left
         ·rw [if_neg c23] at H
          exact absurd H (by simp)
         rw [if_pos c23] at H
         have LMc23 := am c23
         clear c23
         obtain ⟨y340, hy340⟩ : ∃ y_ : List Int, y_ = (y336 ++ (rd_L2 t325 x10_2)) := ⟨_, rfl⟩
         replace H : (if x9_2.length < 5864062014805 then (spec_ClassesOf.l1 k2 x5_1 t325 t328 x8_1 (x9_2 ++ [y340]) (wrap64 (x10_2 + 1))) else (none)) = some r := by first | (rw [hy340]; with_reducible first | exact H | exact bs H) | (with_reducible first | exact bs H | exact H) | (rw [hy340]; exact H) | exact H
         have Ny340 := am hy340
         clear hy340
         by_cases c24 : x9_2.length < 5864062014805
         rotate_left
         ·rw [if_neg c24] at H
          exact absurd H (by simp)
         rw [if_pos c24] at H
         have LMc24 := am c24
         clear c24
         obtain ⟨y343, hy343⟩ : ∃ y_ : List (List Int), y_ = (x9_2 ++ [y340]) := ⟨_, rfl⟩
         replace H : (spec_ClassesOf.l1 k2 x5_1 t325 t328 x8_1 y343 (wrap64 (x10_2 + 1))) = some r := by first | (rw [hy343]; with_reducible first | exact H | exact bs H) | (with_reducible first | exact bs H | exact H) | (rw [hy343]; exact H) | exact H
         have Ny343 := am hy343
         clear hy343
         have H' := am H
         clear H
         obtain ⟨⟨ad335, e335, hx335_0⟩, p335, q335⟩ := pq (Kd.at_int (Kd.R_reads' HO_7.out).2.2 x10_2)
         obtain rfl : ad331 = ad335 := (by injection e335)
         go_wp2_with (first | ((with_reducible refine gate_dst (N := 43) rfl ?_); refine Kd.R_lit (Kd.int .i64) _ 3 ?hg (N := 43) ?hd (xs := ([] : List Int)) (inner := []) (ok := fun _ => True) (okp := fun _ => True) ?hr ?hp (fun _ hk => hk) trivial (Below.refl _ _) (Nat.le_refl _) (by simp) ?_; (case hd => rfl); (case hg => rfl); (case hr => first | (go_simp; done) | (go_simp; rfl)); (case hp => exact (Reps.none _ _)); intro v337 w25 ho26 hb hg_ hnew_; clear hg_ hnew_; (first | rw [← Ny336.out] at ho26 | (simp only [Int.reduceToNat] at ho26; rw [← Ny336.out] at ho26)); replace HO_5 := am (Kd.N_elder' (no HO_5.out) (Kd.R_base ho26) hb); replace HO_6 := am (Kd.N_elder' (no HO_6.out) (Kd.R_base ho26) hb); replace HO_9 := am (Kd.N_elder' (no HO_9.out) (Kd.R_base ho26) hb); have HO338 := am (Kd.R_lower (Kd.R_new' (Kd.R_newM (M := fun k_ => (w.heap.size ≤ k_)) ho26 (below_size bw) (fun k_ h_ => h_)) (Kd.R_lt (ro HO_7.out))) (below_size bw)); replace HO_7 := am (Kd.R_elder' (ro HO_7.out) (Kd.R_base ho26) hb); replace BK321 := kb BK321 hb; replace HB := am (below_step bw hb); clear hb ho26; have p339 : 0 ≤ (x10_2 : Int) := of_decide_eq_true (by first | (with_reducible assumption) | assumption); have q339 : x10_2 < (t325.length : Int) := of_decide_eq_true (by first | (with_reducible assumption) | assumption); obtain ⟨ad339, A339_0, c339_0, e339, hx339_0, hl339_0, hi339_0⟩ := at_L2 (Kd.N_reads' HO_6.out).2.2 x10_2 p339 q339; cases e339; obtain ⟨ce339, hce339, hMe339, hcc339⟩ := Kd.N_get HO_6.out [] x10_2 p339 (by first | exact q339 | exact of_decide_eq_true (by first | (with_reducible assumption) | assumption) | (have e_ := (Kd.N_reads' HO_6.out).1; omega)); obtain ⟨ua339_0, uc339_0, rfl, ul339_0, ge339_0⟩ := Kd.FK_slice_open hMe339; have hv339_0 := hcc339 0 _ rfl; rw [Nat.add_zero, show ((Kd.slice 3 (Kd.int .i64))).sz = 1 from rfl, Nat.mul_one] at hv339_0; replace hv339_0 := Option.some.inj (hv339_0.symm.trans hx339_0); injection hv339_0 with hva_ hvn_ hvc_; rw [hva_] at ge339_0; rw [hvc_] at ul339_0; have HL339_0 := am (show Kd.V (Kd.int .i64) 3 _ w.heap.size _ _ (rd_L2 t325 x10_2) from Kd.V_mk ul339_0 ge339_0); clear hva_ hvn_ hvc_ ge339_0 ul339_0 hcc339 hce339; have HR339_0 := am hi339_0; have HC339_0 := am hl339_0; clear hi339_0 hl339_0; replace p339 := eq_true p339; replace q339 := eq_true q339) | ((with_reducible refine gate_builtin (b := .append) (xs := #[.tmp 43, .tmp 47]) rfl ?_); at_builtin; refine Kd.R_append_rows (Kd.int .i64) (w0 := w) w.heap.size rfl (.tmp 43) (.tmp 47) 22 3 (.int .i64 0) 8 rfl Try.underlying22 info3 rfl (by decide) (by omega) v337 y336 (rd_L2 t325 x10_2) _ _ _ (fun k_ => (w.heap.size ≤ k_) ∧ some k_ ≠ (.slice (some ad331) t328.length co16 : Value).ownBlock) (fun _ => False) rfl rfl ?aO ?aR (fun _ _ h => h) (fun _ h => h.elim) ?aF ?aB ?aS ?aL ?_; (case aR => exact co HR339_0.out); (case aB => exact bw); (case aF => exact (fun k_ hk => ⟨(Nat.le_trans (below_size bw) hk), Kd.fresh' (Kd.R_lt (ro HO_7.out)) k_ hk⟩)); (case aO => exact (by (with_reducible repeat (first | apply Kd.R_alloc | apply Kd.R_drewN | apply Kd.R_drew)); exact Kd.R_mono HO338.out (fun _ hk => by first | exact ⟨hk.1.1, hk.2⟩ | simp_all))); (case aS => exact (below_size bw)); (case aL => have := LMc23.out; omega); intro v341 w27 ho hb hg hat; rw [← Ny340.out] at ho; replace HO_5 := am (Kd.N_afterv (ok := (fun k_ => (w.heap.size ≤ k_) ∧ some k_ ≠ (.slice (some ad339) t325.length co10 : Value).ownBlock ∧ some k_ ≠ (.slice (some ad331) t328.length co16 : Value).ownBlock ∧ some k_ ≠ (u9 : Value).ownBlock ∧ k_ ≠ gb321)) (no HO_5.out) hg hat); replace HO_6 := am (Kd.N_afterv (ok := (fun k_ => (w.heap.size ≤ k_) ∧ some k_ ≠ (u5 : Value).ownBlock ∧ some k_ ≠ (.slice (some ad331) t328.length co16 : Value).ownBlock ∧ some k_ ≠ (u9 : Value).ownBlock ∧ k_ ≠ gb321)) (no HO_6.out) hg hat); replace HO_7 := am (Kd.R_after (ok := (fun k_ => (w.heap.size ≤ k_))) (ro HO_7.out) hg hat); replace HO_9 := am (Kd.N_afterv (ok := (fun k_ => (w.heap.size ≤ k_) ∧ some k_ ≠ (u5 : Value).ownBlock ∧ some k_ ≠ (.slice (some ad339) t325.length co10 : Value).ownBlock ∧ some k_ ≠ (.slice (some ad331) t328.length co16 : Value).ownBlock ∧ k_ ≠ gb321)) (no HO_9.out) hg hat); replace BK321 := am (blk_grown (g := gb321) (o := .cells #[.slice A0_0 l0_0.length c0_0] 27 (0, 0)) (bo BK321.out) hg (Kd.R_ne HO338.out BK321.out (by decide))); replace HL339_0 := am (Kd.V_afterv (ok := (fun k_ => (w.heap.size ≤ k_) ∧ some k_ ≠ (u5 : Value).ownBlock ∧ some k_ ≠ (.slice (some ad339) t325.length co10 : Value).ownBlock ∧ some k_ ≠ (.slice (some ad331) t328.length co16 : Value).ownBlock ∧ some k_ ≠ (u9 : Value).ownBlock ∧ k_ ≠ gb321)) (by (with_reducible repeat (first | apply Kd.V_alloc | apply Kd.V_drewN | apply Kd.V_drew)); exact Kd.V_mono HL339_0.out (fun _ hk => ⟨⟨hk.1.1.1, ⟨hk.1.1.2.1, ⟨hk.2, ⟨hk.1.1.2.2.1, ⟨hk.1.1.2.2.2.1, hk.1.1.2.2.2.2⟩⟩⟩⟩⟩, hk.1.2⟩)) hg hat); replace HB := am (hb); have HO342 := am (ho); clear HO338 ho hb hg hat; obtain ⟨Ao29, co29, eo29⟩ := Kd.R_slice HO342.out; subst eo29) | ((with_reducible refine gate_builtin (b := .append) (xs := #[.tmp 42, .tmp 49]) rfl ?_); at_builtin; refine Kd.N_append (Kd.slice 3 (Kd.int .i64)) (w0 := w) w.heap.size rfl (.tmp 42) (.tmp 49) 49 22 (.slice none 0 0) 24 rfl Try.underlying49 info22 rfl (by decide) (by omega) u9 x9_2 y340 [.slice Ao29 y340.length co29] (fun k_ => (w.heap.size ≤ k_) ∧ some k_ ≠ (u5 : Value).ownBlock ∧ some k_ ≠ (.slice (some ad339) t325.length co10 : Value).ownBlock ∧ some k_ ≠ (.slice (some ad331) t328.length co16 : Value).ownBlock ∧ k_ ≠ gb321) (fun k_ => ((fun k_ => (w.heap.size ≤ k_) ∧ some k_ ≠ (u5 : Value).ownBlock ∧ some k_ ≠ (.slice (some ad339) t325.length co10 : Value).ownBlock ∧ some k_ ≠ (.slice (some ad331) t328.length co16 : Value).ownBlock ∧ k_ ≠ gb321)) k_ ∧ some k_ ≠ (u9 : Value).ownBlock) rfl rfl ?aP (fun _ hk => hk) ?aF ?aO ?aB ?aS ?aL ?_; (case aP => exact (Kd.FK_slice_mk (Kd.R_reads' (Kd.R_mono (ok' := (fun k_ => ((fun k_ => (w.heap.size ≤ k_) ∧ some k_ ≠ (u5 : Value).ownBlock ∧ some k_ ≠ (.slice (some ad339) t325.length co10 : Value).ownBlock ∧ some k_ ≠ (.slice (some ad331) t328.length co16 : Value).ownBlock ∧ k_ ≠ gb321)) k_ ∧ some k_ ≠ (u9 : Value).ownBlock)) (Kd.R_types (Kd.R_apart' (Kd.R_apart' (Kd.R_apart' (HO342.out) (Kd.N_typed HO_5.out) (by decide)) (Kd.N_typed HO_6.out) (by decide)) (Kd.N_typed HO_9.out) (by decide)) BK321.out (by decide)) (fun k_ hk => ⟨⟨hk.1.1.1.1.1, ⟨hk.1.1.1.2, ⟨hk.1.1.2, ⟨hk.1.1.1.1.2, hk.2⟩⟩⟩⟩, hk.1.2⟩))).2.1 (Kd.R_F (Kd.R_mono (ok' := (fun k_ => ((fun k_ => (w.heap.size ≤ k_) ∧ some k_ ≠ (u5 : Value).ownBlock ∧ some k_ ≠ (.slice (some ad339) t325.length co10 : Value).ownBlock ∧ some k_ ≠ (.slice (some ad331) t328.length co16 : Value).ownBlock ∧ k_ ≠ gb321)) k_ ∧ some k_ ≠ (u9 : Value).ownBlock)) (Kd.R_types (Kd.R_apart' (Kd.R_apart' (Kd.R_apart' (HO342.out) (Kd.N_typed HO_5.out) (by decide)) (Kd.N_typed HO_6.out) (by decide)) (Kd.N_typed HO_9.out) (by decide)) BK321.out (by decide)) (fun k_ hk => ⟨⟨hk.1.1.1.1.1, ⟨hk.1.1.1.2, ⟨hk.1.1.2, ⟨hk.1.1.1.1.2, hk.2⟩⟩⟩⟩, hk.1.2⟩))))); (case aB => exact bw); (case aF => exact (fun k_ hk => ⟨(Nat.le_trans (below_size bw) hk), Kd.fresh' (Kd.N_lt (no HO_5.out)) k_ hk, Kd.fresh' (Kd.N_lt (no HO_6.out)) k_ hk, Kd.fresh' (Kd.R_lt (ro HO_7.out)) k_ hk, Kd.freshB (g := gb321) (o := .cells #[.slice A0_0 l0_0.length c0_0] 27 (0, 0)) (bo BK321.out) k_ hk⟩)); (case aO => exact (by (with_reducible repeat (first | apply Kd.N_alloc | apply Kd.N_drewN | apply Kd.N_drew)); exact Kd.N_mono HO_9.out (fun _ hk => ⟨hk.1.1, ⟨hk.1.2.1, ⟨hk.1.2.2.1, ⟨hk.1.2.2.2.1, hk.1.2.2.2.2⟩⟩⟩⟩))); (case aS => exact (below_size bw)); (case aL => have := LMc24.out; omega); intro v344 w28 ho hb hg hat; rw [← Ny343.out] at ho; replace HO_5 := am (Kd.N_afterv (ok := (fun k_ => (w.heap.size ≤ k_) ∧ some k_ ≠ (.slice (some ad339) t325.length co10 : Value).ownBlock ∧ some k_ ≠ (.slice (some ad331) t328.length co16 : Value).ownBlock ∧ nb k_ Ao29 y340 co29 ∧ k_ ≠ gb321)) (by (with_reducible repeat (first | apply Kd.N_alloc | apply Kd.N_drewN | apply Kd.N_drew)); exact Kd.N_mono HO_5.out (fun _ hk => ⟨⟨hk.1.1, ⟨hk.1.2.1, ⟨hk.1.2.2.1, ⟨hk.2, hk.1.2.2.2.2⟩⟩⟩⟩, hk.1.2.2.2.1⟩)) hg hat); replace HO_6 := am (Kd.N_afterv (ok := (fun k_ => (w.heap.size ≤ k_) ∧ some k_ ≠ (u5 : Value).ownBlock ∧ some k_ ≠ (.slice (some ad331) t328.length co16 : Value).ownBlock ∧ nb k_ Ao29 y340 co29 ∧ k_ ≠ gb321)) (by (with_reducible repeat (first | apply Kd.N_alloc | apply Kd.N_drewN | apply Kd.N_drew)); exact Kd.N_mono HO_6.out (fun _ hk => ⟨⟨hk.1.1, ⟨hk.1.2.1, ⟨hk.1.2.2.1, ⟨hk.2, hk.1.2.2.2.2⟩⟩⟩⟩, hk.1.2.2.2.1⟩)) hg hat); replace HO_7 := am (Kd.R_over' (ro HO_7.out) (Kd.N_typed (no HO_9.out)) (by decide) hg); replace BK321 := am (blk_grown (g := gb321) (o := .cells #[.slice A0_0 l0_0.length c0_0] 27 (0, 0)) (bo BK321.out) hg (Kd.N_ne HO_9.out BK321.out (by decide))); replace HL339_0 := am (Kd.V_afterv (ok := (fun k_ => (w.heap.size ≤ k_) ∧ some k_ ≠ (u5 : Value).ownBlock ∧ some k_ ≠ (.slice (some ad339) t325.length co10 : Value).ownBlock ∧ some k_ ≠ (.slice (some ad331) t328.length co16 : Value).ownBlock ∧ nb k_ Ao29 y340 co29 ∧ k_ ≠ gb321)) (by (with_reducible repeat (first | apply Kd.V_alloc | apply Kd.V_drewN | apply Kd.V_drew)); exact Kd.V_mono HL339_0.out (fun _ hk => ⟨⟨hk.1.1, ⟨hk.1.2.1, ⟨hk.1.2.2.1, ⟨hk.1.2.2.2.1, ⟨hk.2, hk.1.2.2.2.2.2⟩⟩⟩⟩⟩, hk.1.2.2.2.2.1⟩)) hg hat); replace HB := am (hb); have HO345 := am (ho); clear HO_9 HO342 ho hb hg hat))
         go_roundg k2
         case measure => have := HK1.out; have := HK2.out; omega
         case rel => exact ⟨(y343), (wrap64 (x10_2 + 1)), rr, H', ⟨by have := HK1.out; have := HK2.out; omega⟩, ⟨by (with_reducible repeat (first | apply Kd.N_alloc | apply Kd.N_drewN | apply Kd.N_drew)); exact Kd.N_mono HO_5.out (fun _ hk => ⟨hk.1.1, ⟨hk.1.2.1, ⟨hk.1.2.2.1, ⟨hk.2, hk.1.2.2.2.2⟩⟩⟩⟩)⟩, ⟨by (with_reducible repeat (first | apply Kd.N_alloc | apply Kd.N_drewN | apply Kd.N_drew)); exact Kd.N_mono HO_6.out (fun _ hk => ⟨hk.1.1, ⟨hk.1.2.1, ⟨hk.1.2.2.1, ⟨hk.2, hk.1.2.2.2.2⟩⟩⟩⟩)⟩, ⟨by (with_reducible repeat (first | apply Kd.R_alloc | apply Kd.R_drewN | apply Kd.R_drew)); exact Kd.R_mono HO_7.out (fun _ hk => hk.1)⟩, ⟨no HO345.out⟩, ⟨bo BK321.out⟩, ⟨bw⟩⟩
        rw [if_neg c22] at H
        have c22b0 : ((rd t328 x10_2) == x8_1) = false := beq_eq_false_iff_ne.mpr c22
        have c22b1 : ((rd t328 x10_2) != x8_1) = true := bne_iff_ne.mpr c22
        have H' := am H
        clear H
        obtain ⟨⟨ad335, e335, hx335_0⟩, p335, q335⟩ := pq (Kd.at_int (Kd.R_reads' HO_7.out).2.2 x10_2)
        obtain rfl : ad331 = ad335 := (by injection e335)
        go_wp2
        go_roundg k2
        case measure => have := HK1.out; have := HK2.out; omega
        case rel => exact ⟨(x9_2), (wrap64 (x10_2 + 1)), rr, H', ⟨by have := HK1.out; have := HK2.out; omega⟩, ⟨no HO_5.out⟩, ⟨no HO_6.out⟩, ⟨ro HO_7.out⟩, ⟨no HO_9.out⟩, ⟨bo BK321.out⟩, ⟨bw⟩⟩
       by_cases c30 : x5_1.length < 5864062014805
       rotate_left
       ·rw [if_neg c30] at H
        exact absurd H (by simp)
       rw [if_pos c30] at H
       have LMc30 := am c30
       clear c30
       obtain ⟨y346, hy346⟩ : ∃ y_ : List (List (List Int)), y_ = (x5_1 ++ [x9_2]) := ⟨_, rfl⟩
       replace H : (spec_ClassesOf.l0 k2 y346 t325 t328 (wrap64 (x8_1 + 1))) = some r := by first | (rw [hy346]; with_reducible first | exact H | exact bs H) | (with_reducible first | exact bs H | exact H) | (rw [hy346]; exact H) | exact H
       have Ny346 := am hy346
       clear hy346
       have H' := am H
       clear H
       obtain ⟨Ao32, co32, eo32⟩ := Kd.N_slice HO_9.out
       subst eo32
       go_wp2_with (first | ((with_reducible refine gate_builtin (b := .append) (xs := #[.tmp 51, .tmp 53]) rfl ?_); at_builtin; refine Kd.N_append (Kd.slice 22 (Kd.slice 3 (Kd.int .i64))) (w0 := w) w.heap.size rfl (.tmp 51) (.tmp 53) 38 49 (.slice none 0 0) 24 rfl Try.underlying38 info49 rfl (by decide) (by omega) u5 x5_1 x9_2 [.slice Ao32 x9_2.length co32] (fun k_ => (w.heap.size ≤ k_) ∧ nb k_ Ao10 t325 co10 ∧ some k_ ≠ (.slice (some ad331) t328.length co16 : Value).ownBlock ∧ k_ ≠ gb321) (fun k_ => ((fun k_ => (w.heap.size ≤ k_) ∧ nb k_ Ao10 t325 co10 ∧ some k_ ≠ (.slice (some ad331) t328.length co16 : Value).ownBlock ∧ k_ ≠ gb321)) k_ ∧ some k_ ≠ (u5 : Value).ownBlock) rfl rfl ?aP (fun _ hk => hk) ?aF ?aO ?aB ?aS ?aL ?_; (case aP => exact (Kd.FK_slice_mk (Kd.N_reads' (Kd.N_mono (ok' := (fun k_ => ((fun k_ => (w.heap.size ≤ k_) ∧ nb k_ Ao10 t325 co10 ∧ some k_ ≠ (.slice (some ad331) t328.length co16 : Value).ownBlock ∧ k_ ≠ gb321)) k_ ∧ some k_ ≠ (u5 : Value).ownBlock)) (HO_9.out) (fun k_ hk => ⟨⟨hk.1, ⟨hk.2.2.1, ⟨hk.2.2.2.1, hk.2.2.2.2⟩⟩⟩, hk.2.1⟩))).2.1 (Kd.N_F (Kd.N_mono (ok' := (fun k_ => ((fun k_ => (w.heap.size ≤ k_) ∧ nb k_ Ao10 t325 co10 ∧ some k_ ≠ (.slice (some ad331) t328.length co16 : Value).ownBlock ∧ k_ ≠ gb321)) k_ ∧ some k_ ≠ (u5 : Value).ownBlock)) (HO_9.out) (fun k_ hk => ⟨⟨hk.1, ⟨hk.2.2.1, ⟨hk.2.2.2.1, hk.2.2.2.2⟩⟩⟩, hk.2.1⟩))))); (case aB => exact bw); (case aF => exact (fun k_ hk => ⟨(Nat.le_trans (below_size bw) hk), Kd.fresh' (Kd.N_lt (no HO_6.out)) k_ hk, Kd.fresh' (Kd.R_lt (ro HO_7.out)) k_ hk, Kd.freshB (g := gb321) (o := .cells #[.slice A0_0 l0_0.length c0_0] 27 (0, 0)) (bo BK321.out) k_ hk⟩)); (case aO => exact (by (with_reducible repeat (first | apply Kd.N_alloc | apply Kd.N_drewN | apply Kd.N_drew)); exact Kd.N_mono HO_5.out (fun _ hk => ⟨hk.1, ⟨hk.2.1, ⟨hk.2.2.1, hk.2.2.2.2⟩⟩⟩))); (case aS => exact (below_size bw)); (case aL => have := LMc30.out; omega); intro v347 w31 ho hb hg hat; rw [← Ny346.out] at ho; replace HO_6 := am (Kd.N_afterv (ok := (fun k_ => (w.heap.size ≤ k_) ∧ some k_ ≠ (.slice (some ad331) t328.length co16 : Value).ownBlock ∧ nb k_ Ao32 x9_2 co32 ∧ k_ ≠ gb321)) (by (with_reducible repeat (first | apply Kd.N_alloc | apply Kd.N_drewN | apply Kd.N_drew)); exact Kd.N_mono HO_6.out (fun _ hk => ⟨⟨hk.1, ⟨hk.2.2.1, ⟨hk.2.2.2.1, hk.2.2.2.2⟩⟩⟩, hk.2.1⟩)) hg hat); replace HO_7 := am (Kd.R_over' (ro HO_7.out) (Kd.N_typed (no HO_5.out)) (by decide) hg); replace BK321 := am (blk_grown (g := gb321) (o := .cells #[.slice A0_0 l0_0.length c0_0] 27 (0, 0)) (bo BK321.out) hg (Kd.N_ne HO_5.out BK321.out (by decide))); replace HB := am (hb); have HO348 := am (ho); clear HO_5 HO_9 ho hb hg hat))
       go_roundg k2
       case measure => have := HK1.out; have := HK2.out; omega
       case rel => exact ⟨(y346), (wrap64 (x8_1 + 1)), rr, H', ⟨by have := HK1.out; have := HK2.out; omega⟩, ⟨no HO348.out⟩, ⟨by (with_reducible repeat (first | apply Kd.N_alloc | apply Kd.N_drewN | apply Kd.N_drew)); exact Kd.N_mono HO_6.out (fun _ hk => ⟨hk.1.1, ⟨hk.2, ⟨hk.1.2.1, hk.1.2.2.2⟩⟩⟩)⟩, ⟨ro HO_7.out⟩, ⟨bo BK321.out⟩, ⟨bw⟩⟩
    rw [if_neg c15] at H
    have c15b0 : ((rd t328 x8_1) == x8_1) = false := beq_eq_false_iff_ne.mpr c15
    have c15b1 : ((rd t328 x8_1) != x8_1) = true := bne_iff_ne.mpr c15
    have H' := am H
    clear H
    obtain ⟨Ao33, co33, eo33⟩ := Kd.R_slice HO_7.out
    subst eo33
    obtain ⟨⟨ad331, e331, hx331_0⟩, p331, q331⟩ := pq (Kd.at_int (Kd.R_reads' HO_7.out).2.2 x8_1)
    cases e331
    go_wp2
    go_roundg k1
    case measure => have := HK1.out; omega
    case rel => exact ⟨(x5_1), (wrap64 (x8_1 + 1)), rr, H', ⟨by have := HK1.out; omega⟩, ⟨no HO_5.out⟩, ⟨no HO_6.out⟩, ⟨ro HO_7.out⟩, ⟨bo BK321.out⟩, ⟨bw⟩⟩
   obtain rfl := Option.some.inj H
   go_wp2
   go_ret
   exact ⟨_, re, by (with_reducible repeat (first | apply Kd.N_alloc | apply Kd.N_drewN | apply Kd.N_drew)); exact Kd.N_mono HO_5.out (fun _ hk => hk.1), bw⟩


/-! ### spec_l4Gaps: function 78 -/
def spec_l4Gaps.l0 : Nat → List Int → List Bool → Int → Option (List Int)
 | 0, _, _, _ => none
 | k + 1, x3, x4, x5 => if x5 < 200 then (if 0 ≤ x5 then (if x5 < (x4.length : Int) then (if rdOf false x4 x5 = true then (spec_l4Gaps.l0 k x3 x4 (wrap64 (x5 + 1))) else (if x3.length < 17592186044416 then (spec_l4Gaps.l0 k (x3 ++ [x5]) x4 (wrap64 (x5 + 1))) else (none))) else (none)) else (none)) else (some x3)
def spec_l4Gaps.f (k : Nat) (l0_0 : List Int) : Option (List Int) := (spec_l3Table.f k l0_0 200).bind fun t353 => (spec_l4Gaps.l0 k (([] : List Int)) t353 1)
set_option maxHeartbeats 8000000 in
set_option maxRecDepth 100000 in
theorem spec_l4Gaps.calls (k : Nat) (A0_0 : Option Addr) (c0_0 : Nat) (l0_0 : List Int) (r : List Int) (w : World) (hr0_0 : Kd.C (Kd.int .i64) w A0_0 l0_0.length l0_0) (hc0_0 : l0_0.length ≤ c0_0) (h : spec_l4Gaps.f k l0_0 = some r) :
  Calls Try.prog 78 #[.agg #[.slice A0_0 l0_0.length c0_0]] w fun e w' => ∃ v0_ : Value, e = .returned (v0_) ∧ Kd.R (Kd.int .i64) 3 w' w.heap.size (fun _ => True) v0_ r ∧ Below w.heap.size w w' := by
 have hu27 := Try.underlying27
 have HR0_0 := am hr0_0
 have HC0_0 := am hc0_0
 clear hr0_0 hc0_0
 have HB := am (Below.refl w.heap.size w)
 have H : ((spec_l3Table.f k l0_0 200).bind fun t353 => (spec_l4Gaps.l0 k (([] : List Int)) t353 1)) = some r := h
 clear h
 obtain ⟨y350, hy350⟩ : ∃ y_ : List Int, y_ = (([] : List Int)) := ⟨_, rfl⟩
 replace H : ((spec_l3Table.f k l0_0 200).bind fun t353 => (spec_l4Gaps.l0 k y350 t353 1)) = some r := by first | (rw [hy350]; with_reducible first | exact H | exact bs H) | (with_reducible first | exact bs H | exact H) | (rw [hy350]; exact H) | exact H
 have Ny350 := am hy350
 clear hy350
 replace H := ga H; obtain ⟨t353, A2, H⟩ := H
 have H' := am H
 clear H
 go_enter Try.func78, Try.ntmps78
 go_wp2_with (first | ((with_reducible refine gate_dst (N := 1) rfl ?_); refine bx 1 #[.slice A0_0 l0_0.length c0_0] 27 ?_; intro gb349 hg w3 hbox hb; have BK349 := am (hbox); have GW349 := am (gs hg : w.heap.size ≤ gb349); have GE349 := GW349; replace HB := am (below_step bw hb); clear hb hbox hg) | ((with_reducible refine gate_dst (N := 6) rfl ?_); refine Kd.R_lit (Kd.int .i64) _ 3 ?hg (N := 6) ?hd (xs := ([] : List Int)) (inner := []) (ok := fun _ => True) (okp := fun _ => True) ?hr ?hp (fun _ hk => hk) trivial (Below.refl _ _) (Nat.le_refl _) (by simp) ?_; (case hd => rfl); (case hg => rfl); (case hr => first | (go_simp; done) | (go_simp; rfl)); (case hp => exact (Reps.none _ _)); intro v351 w4 ho5 hb hg_ hnew_; clear hg_ hnew_; (first | rw [← Ny350.out] at ho5 | (simp only [Int.reduceToNat] at ho5; rw [← Ny350.out] at ho5)); have HO352 := am (Kd.R_lower ho5 (below_size bw)); replace BK349 := kb BK349 hb; replace HB := am (below_step bw hb); clear hb ho5; have hcz6_0 := bc BK349 0 (.slice A0_0 l0_0.length c0_0); have hfz6_0 := blk_frozen BK349.out 0) | ((with_reducible refine gate_callee (f := 123) rfl ?_); refine gl (some 9) Try.func123 #[.slice A0_0 l0_0.length c0_0, .int .i64 200] ?_; (with_reducible refine (spec_l3Table.calls k _ _ l0_0 200 t353 _ ?side1 ?side2 A2.out).mono ?_); (case side1 => exact co (Kd.C_below HR0_0.out HB.out)); (case side2 => exact HC0_0.out); rintro e w7 ⟨v354, rfl, ho0, hb⟩; refine ⟨_, rfl, ?_⟩; replace HO352 := rK HO352 hb; have HO355 := am (Kd.R_lower ho0 (below_size bw)); replace BK349 := kb BK349 hb; replace HB := am (below_step bw hb); clear hb ho0))
 go_loopg [3, 5] k (fun kq v3 v5 w' => ∃ (x3_1 : List Int) (x5_1 : Int), v5 = .int .i64 x5_1 ∧ Aside0 (spec_l4Gaps.l0 kq x3_1 t353 x5_1 = some r) ∧ Aside0 (kq ≤ k) ∧ Aside0 (Kd.R (Kd.int .i64) 3 w' w.heap.size (fun _ => True) v3 x3_1) ∧ Aside0 (Kd.R Kd.bool 4 w' w.heap.size (fun _ => True) v354 t353) ∧ Aside0 (w'.heap[gb349]? = some (.cells #[(.slice A0_0 l0_0.length c0_0)] 27 (0, 0))) ∧ Aside0 (Below w.heap.size w w'))
 case atStart => exact ⟨(y350), (1), rr, H', ⟨Nat.le_refl _⟩, ⟨ro HO352.out⟩, ⟨ro HO355.out⟩, ⟨bo BK349.out⟩, ⟨bw⟩⟩
 case round =>
  clear H'
  try clear hcz6_0; try clear hfz6_0
  obtain ⟨x3_1, x5_1, rfl, HA, HK1, HO_3, HO_4, BK349, HB⟩ := hrel
  cases gk with
  | zero => exact absurd HA.out (by simp [spec_l4Gaps.l0])
  | succ k1 =>
   have H := HA.out
   clear HA
   simp only [spec_l4Gaps.l0] at H
   replace H := gi H; obtain ⟨c8b0, H⟩ | ⟨c8b0, H⟩ := H
   ·replace H := gd H; obtain ⟨c9b0, H⟩ := H
    replace H := gd H; obtain ⟨c10b0, H⟩ := H
    obtain ⟨bq11, hbq11⟩ : ∃ b_ : Bool, b_ = (rdOf false t353 x5_1) := ⟨_, rfl⟩
    replace H : (if bq11 = true then (spec_l4Gaps.l0 k1 x3_1 t353 (wrap64 (x5_1 + 1))) else (if x3_1.length < 17592186044416 then (spec_l4Gaps.l0 k1 (x3_1 ++ [x5_1]) t353 (wrap64 (x5_1 + 1))) else (none))) = some r := by rw [← hbq11] at H; exact H
    have Nbq11 := am hbq11
    clear hbq11
    replace H := gb H; obtain ⟨rfl, H⟩ | ⟨rfl, H⟩ := H
    ·have H' := am H
     clear H
     obtain ⟨Ao13, co13, eo13⟩ := Kd.R_slice HO_4.out
     subst eo13
     obtain ⟨⟨ad356, e356, hx356_0⟩, p356, q356⟩ := pq (Kd.at_bool (Kd.R_reads' HO_4.out).2.2 x5_1)
     (try rw [← Nbq11.out] at hx356_0)
     cases e356
     go_wp2
     go_roundg k1
     case measure => have := HK1.out; omega
     case rel => exact ⟨(x3_1), (wrap64 (x5_1 + 1)), rr, H', ⟨by have := HK1.out; omega⟩, ⟨ro HO_3.out⟩, ⟨ro HO_4.out⟩, ⟨bo BK349.out⟩, ⟨bw⟩⟩
    by_cases c14 : x3_1.length < 17592186044416
    rotate_left
    ·rw [if_neg c14] at H
     exact absurd H (by simp)
    rw [if_pos c14] at H
    have LMc14 := am c14
    clear c14
    obtain ⟨y357, hy357⟩ : ∃ y_ : List Int, y_ = (x3_1 ++ [x5_1]) := ⟨_, rfl⟩
    replace H : (spec_l4Gaps.l0 k1 y357 t353 (wrap64 (x5_1 + 1))) = some r := by first | (rw [hy357]; with_reducible first | exact H | exact bs H) | (with_reducible first | exact bs H | exact H) | (rw [hy357]; exact H) | exact H
    have Ny357 := am hy357
    clear hy357
    have H' := am H
    clear H
    obtain ⟨Ao15, co15, eo15⟩ := Kd.R_slice HO_4.out
    subst eo15
    obtain ⟨⟨ad356, e356, hx356_0⟩, p356, q356⟩ := pq (Kd.at_bool (Kd.R_reads' HO_4.out).2.2 x5_1)
    (try rw [← Nbq11.out] at hx356_0)
    cases e356
    go_wp2_with (first | ((with_reducible refine gate_builtin (b := .append) (xs := #[.tmp 19, .tmp 21]) rfl ?_); at_builtin; refine Kd.R_append (Kd.int .i64) (w0 := w) w.heap.size rfl (.tmp 19) (.tmp 21) 22 3 (.int .i64 0) 8 rfl Try.underlying22 info3 rfl (by decide) (by omega) u3 x3_1 x5_1 [.int .i64 x5_1] (fun _ => True) (fun _ => False) rfl rfl ?aP (fun _ hk => hk.elim) ?aF ?aO ?aB ?aS ?aL ?_; (case aP => exact rfl); (case aB => exact bw); (case aF => exact (fun _ _ => trivial)); (case aO => exact (ro HO_3.out)); (case aS => exact (below_size bw)); (case aL => have := LMc14.out; omega); intro v358 w16 ho hb hg hat; rw [← Ny357.out] at ho; replace HO_4 := am (Kd.R_over' (ro HO_4.out) (Kd.R_typed (ro HO_3.out)) (by decide) hg); replace BK349 := am (blk_grown (g := gb349) (o := .cells #[.slice A0_0 l0_0.length c0_0] 27 (0, 0)) (bo BK349.out) hg (Kd.R_ne HO_3.out BK349.out (by decide))); replace HB := am (hb); have HO359 := am (ho); clear HO_3 ho hb hg hat))
    go_roundg k1
    case measure => have := HK1.out; omega
    case rel => exact ⟨(y357), (wrap64 (x5_1 + 1)), rr, H', ⟨by have := HK1.out; omega⟩, ⟨ro HO359.out⟩, ⟨ro HO_4.out⟩, ⟨bo BK349.out⟩, ⟨bw⟩⟩
   obtain rfl := Option.some.inj H
   go_wp2
   go_ret
   exact ⟨_, re, ro HO_3.out, bw⟩


/-! ### spec_Gaps: function 117 -/
def spec_Gaps.f (k : Nat) (l0_0 : List Int) : Option (List Int) := (spec_IsSemigroup.f k l0_0).bind fun t361 => (if t361 = true then ((spec_l4Gaps.f k l0_0).bind fun t362 => (some t362)) else (some (([] : List Int))))
set_option maxHeartbeats 8000000 in
set_option maxRecDepth 100000 in
theorem spec_Gaps.calls (k : Nat) (A0_0 : Option Addr) (c0_0 : Nat) (l0_0 : List Int) (r : List Int) (w : World) (hr0_0 : Kd.C (Kd.int .i64) w A0_0 l0_0.length l0_0) (hc0_0 : l0_0.length ≤ c0_0) (h : spec_Gaps.f k l0_0 = some r) :
  Calls Try.prog 117 #[.agg #[.slice A0_0 l0_0.length c0_0]] w fun e w' => ∃ v0_ : Value, e = .returned (v0_) ∧ Kd.R (Kd.int .i64) 3 w' w.heap.size (fun _ => True) v0_ r ∧ Below w.heap.size w w' := by
 have hu27 := Try.underlying27
 have HR0_0 := am hr0_0
 have HC0_0 := am hc0_0
 clear hr0_0 hc0_0
 have HB := am (Below.refl w.heap.size w)
 have H : ((spec_IsSemigroup.f k l0_0).bind fun t361 => (if t361 = true then ((spec_l4Gaps.f k l0_0).bind fun t362 => (some t362)) else (some (([] : List Int))))) = some r := h
 clear h
 replace H := ga H; obtain ⟨t361, A2, H⟩ := H
 replace H := gb H; obtain ⟨rfl, H⟩ | ⟨rfl, H⟩ := H
 ·replace H := ga H; obtain ⟨t362, A4, H⟩ := H
  obtain rfl := Option.some.inj H
  go_enter Try.func117, Try.ntmps117
  go_wp2_with (first | ((with_reducible refine gate_dst (N := 1) rfl ?_); refine bx 1 #[.slice A0_0 l0_0.length c0_0] 27 ?_; intro gb360 hg w5 hbox hb; have BK360 := am (hbox); have GW360 := am (gs hg : w.heap.size ≤ gb360); have GE360 := GW360; replace HB := am (below_step bw hb); clear hb hbox hg; have hcz6_0 := bc BK360 0 (.slice A0_0 l0_0.length c0_0); have hfz6_0 := blk_frozen BK360.out 0) | ((with_reducible refine gate_callee (f := 58) rfl ?_); refine gl (some 4) Try.func58 #[.agg #[.slice A0_0 l0_0.length c0_0]] ?_; (with_reducible refine (spec_IsSemigroup.calls k _ _ l0_0 true _ ?side1 ?side2 A2.out).mono ?_); (case side1 => exact co (Kd.C_below HR0_0.out HB.out)); (case side2 => exact HC0_0.out); rintro e w7 ⟨rfl, hb⟩; refine ⟨_, rfl, ?_⟩; replace BK360 := kb BK360 hb; replace HB := am (below_step bw hb); clear hb; have hcz8_0 := bc BK360 0 (.slice A0_0 l0_0.length c0_0); have hfz8_0 := blk_frozen BK360.out 0) | ((with_reducible refine gate_callee (f := 78) rfl ?_); refine gl (some 8) Try.func78 #[.agg #[.slice A0_0 l0_0.length c0_0]] ?_; (with_reducible refine (spec_l4Gaps.calls k _ _ l0_0 t362 _ ?side1 ?side2 A4.out).mono ?_); (case side1 => exact co (Kd.C_below HR0_0.out HB.out)); (case side2 => exact HC0_0.out); rintro e w9 ⟨v363, rfl, ho0, hb⟩; refine ⟨_, rfl, ?_⟩; have HO364 := am (Kd.R_lower ho0 (below_size bw)); replace BK360 := kb BK360 hb; replace HB := am (below_step bw hb); clear hb ho0))
  go_ret
  exact ⟨_, re, ro HO364.out, bw⟩
 obtain ⟨y365, hy365⟩ : ∃ y_ : List Int, y_ = (([] : List Int)) := ⟨_, rfl⟩
 replace H : (some y365) = some r := by first | (rw [hy365]; with_reducible first | exact H | exact bs H) | (with_reducible first | exact bs H | exact H) | (rw [hy365]; exact H) | exact H
 have Ny365 := am hy365
 clear hy365
 obtain rfl := Option.some.inj H
 go_enter Try.func117, Try.ntmps117
 go_wp2_with (first | ((with_reducible refine gate_dst (N := 1) rfl ?_); refine bx 1 #[.slice A0_0 l0_0.length c0_0] 27 ?_; intro gb360 hg w10 hbox hb; have BK360 := am (hbox); have GW360 := am (gs hg : w.heap.size ≤ gb360); have GE360 := GW360; replace HB := am (below_step bw hb); clear hb hbox hg; have hcz11_0 := bc BK360 0 (.slice A0_0 l0_0.length c0_0); have hfz11_0 := blk_frozen BK360.out 0) | ((with_reducible refine gate_callee (f := 58) rfl ?_); refine gl (some 4) Try.func58 #[.agg #[.slice A0_0 l0_0.length c0_0]] ?_; (with_reducible refine (spec_IsSemigroup.calls k _ _ l0_0 false _ ?side1 ?side2 A2.out).mono ?_); (case side1 => exact co (Kd.C_below HR0_0.out HB.out)); (case side2 => exact HC0_0.out); rintro e w12 ⟨rfl, hb⟩; refine ⟨_, rfl, ?_⟩; replace BK360 := kb BK360 hb; replace HB := am (below_step bw hb); clear hb) | ((with_reducible refine gate_dst (N := 6) rfl ?_); refine Kd.R_lit (Kd.int .i64) _ 3 ?hg (N := 6) ?hd (xs := ([] : List Int)) (inner := []) (ok := fun _ => True) (okp := fun _ => True) ?hr ?hp (fun _ hk => hk) trivial (Below.refl _ _) (Nat.le_refl _) (by simp) ?_; (case hd => rfl); (case hg => rfl); (case hr => first | (go_simp; done) | (go_simp; rfl)); (case hp => exact (Reps.none _ _)); intro v366 w13 ho14 hb hg_ hnew_; clear hg_ hnew_; (first | rw [← Ny365.out] at ho14 | (simp only [Int.reduceToNat] at ho14; rw [← Ny365.out] at ho14)); have HO367 := am (Kd.R_lower ho14 (below_size bw)); replace BK360 := kb BK360 hb; replace HB := am (below_step bw hb); clear hb ho14))
 go_ret
 exact ⟨_, re, ro HO367.out, bw⟩


/-! ### spec_FrobeniusOf: function 65 -/
def spec_FrobeniusOf.f (k : Nat) (l0_0 : List Int) : Option (Int) := (spec_Gaps.f k l0_0).bind fun t369 => (if (t369.length : Int) = 0 then (some (-1)) else (if 0 ≤ (wrap64 ((t369.length : Int) - 1)) then (if (wrap64 ((t369.length : Int) - 1)) < (t369.length : Int) then (some (rd t369 (wrap64 ((t369.length : Int) - 1)))) else (none)) else (none)))
set_option maxHeartbeats 8000000 in
set_option maxRecDepth 100000 in
theorem spec_FrobeniusOf.calls (k : Nat) (A0_0 : Option Addr) (c0_0 : Nat) (l0_0 : List Int) (r : Int) (w : World) (hr0_0 : Kd.C (Kd.int .i64) w A0_0 l0_0.length l0_0) (hc0_0 : l0_0.length ≤ c0_0) (h : spec_FrobeniusOf.f k l0_0 = some r) :
  Calls Try.prog 65 #[.agg #[.slice A0_0 l0_0.length c0_0]] w fun e w' => e = .returned (.int .i64 r) ∧ Below w.heap.size w w' := by
 have hu27 := Try.underlying27
 have HR0_0 := am hr0_0
 have HC0_0 := am hc0_0
 clear hr0_0 hc0_0
 have HB := am (Below.refl w.heap.size w)
 have H : ((spec_Gaps.f k l0_0).bind fun t369 => (if (t369.length : Int) = 0 then (some (-1)) else (if 0 ≤ (wrap64 ((t369.length : Int) - 1)) then (if (wrap64 ((t369.length : Int) - 1)) < (t369.length : Int) then (some (rd t369 (wrap64 ((t369.length : Int) - 1)))) else (none)) else (none)))) = some r := h
 clear h
 replace H := ga H; obtain ⟨t369, A2, H⟩ := H
 by_cases c3 : (t369.length : Int) = 0
 ·rw [if_pos c3] at H
  have c3b0 : ((t369.length : Int) == 0) = true := beq_iff_eq.mpr c3
  have c3b1 : ((t369.length : Int) != 0) = false := bne_eq_false_iff_eq.mpr c3
  clear c3
  obtain rfl := Option.some.inj H
  go_enter Try.func65, Try.ntmps65
  go_wp2_with (first | ((with_reducible refine gate_dst (N := 1) rfl ?_); refine bx 1 #[.slice A0_0 l0_0.length c0_0] 27 ?_; intro gb368 hg w4 hbox hb; have BK368 := am (hbox); have GW368 := am (gs hg : w.heap.size ≤ gb368); have GE368 := GW368; replace HB := am (below_step bw hb); clear hb hbox hg; have hcz5_0 := bc BK368 0 (.slice A0_0 l0_0.length c0_0); have hfz5_0 := blk_frozen BK368.out 0) | ((with_reducible refine gate_callee (f := 117) rfl ?_); refine gl (some 5) Try.func117 #[.agg #[.slice A0_0 l0_0.length c0_0]] ?_; (with_reducible refine (spec_Gaps.calls k _ _ l0_0 t369 _ ?side1 ?side2 A2.out).mono ?_); (case side1 => exact co (Kd.C_below HR0_0.out HB.out)); (case side2 => exact HC0_0.out); rintro e w6 ⟨v370, rfl, ho0, hb⟩; refine ⟨_, rfl, ?_⟩; have HO371 := am (Kd.R_lower ho0 (below_size bw)); replace BK368 := kb BK368 hb; replace HB := am (below_step bw hb); clear hb ho0; obtain ⟨Ao7, co7, eo7⟩ := Kd.R_slice HO371.out; subst eo7))
  go_ret
  exact ⟨re, bw⟩
 rw [if_neg c3] at H
 have c3b0 : ((t369.length : Int) == 0) = false := beq_eq_false_iff_ne.mpr c3
 have c3b1 : ((t369.length : Int) != 0) = true := bne_iff_ne.mpr c3
 have c3b2 : ¬ (t369 = []) := fun h_ => c3 (by rw [h_]; rfl)
 obtain ⟨ji8, hji8⟩ : ∃ j_ : Int, (wrap64 ((t369.length : Int) - 1)) = j_ := ⟨_, rfl⟩
 replace H : (if 0 ≤ (ji8) then (if (ji8) < (t369.length : Int) then (some (rd t369 (ji8))) else (none)) else (none)) = some r := by first | (rw [hji8] at H; exact H) | (simp only [hji8] at H ⊢; exact H)
 (try rw [hji8] at A2)
 have hji8w : (IntKind.i64.wrap ((t369.length : Int) - 1)) = ji8 := (i64_w _).trans hji8
 replace H := gd H; obtain ⟨c9b0, H⟩ := H
 replace H := gd H; obtain ⟨c10b0, H⟩ := H
 obtain rfl := Option.some.inj H
 go_enter Try.func65, Try.ntmps65
 go_wp2_with (first | ((with_reducible refine gate_dst (N := 1) rfl ?_); refine bx 1 #[.slice A0_0 l0_0.length c0_0] 27 ?_; intro gb368 hg w11 hbox hb; have BK368 := am (hbox); have GW368 := am (gs hg : w.heap.size ≤ gb368); have GE368 := GW368; replace HB := am (below_step bw hb); clear hb hbox hg; have hcz12_0 := bc BK368 0 (.slice A0_0 l0_0.length c0_0); have hfz12_0 := blk_frozen BK368.out 0) | ((with_reducible refine gate_callee (f := 117) rfl ?_); refine gl (some 5) Try.func117 #[.agg #[.slice A0_0 l0_0.length c0_0]] ?_; (with_reducible refine (spec_Gaps.calls k _ _ l0_0 t369 _ ?side1 ?side2 A2.out).mono ?_); (case side1 => exact co (Kd.C_below HR0_0.out HB.out)); (case side2 => exact HC0_0.out); rintro e w13 ⟨v370, rfl, ho0, hb⟩; refine ⟨_, rfl, ?_⟩; have HO371 := am (Kd.R_lower ho0 (below_size bw)); replace BK368 := kb BK368 hb; replace HB := am (below_step bw hb); clear hb ho0; obtain ⟨Ao14, co14, eo14⟩ := Kd.R_slice HO371.out; subst eo14; have p372 : 0 ≤ ((ji8) : Int) := of_decide_eq_true (by first | (with_reducible assumption) | assumption); have q372 : (ji8) < (t369.length : Int) := of_decide_eq_true (by first | (with_reducible assumption) | assumption); obtain ⟨ad372, e372, hx372_0⟩ := Kd.at_int (Kd.R_reads' HO371.out).2.2 (ji8) p372 q372; cases e372; replace p372 := eq_true p372; replace q372 := eq_true q372))
 go_ret
 exact ⟨by first | rfl | (simp [errW_none, errW_some] <;> rfl) | (simp only [← hji8]; first | rfl | (simp [errW_none, errW_some] <;> rfl)) | (simp [*, errW_none, errW_some] <;> rfl), bw⟩

end Go.Proofs.Ytlfdipnhlmjiaaa.C
