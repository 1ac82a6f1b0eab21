/- Contracts of functions of the program: spec_SortList, spec_l3Table. -/
import Derived.Test.YtbbehmbpoilffaaDoorC0
namespace Go.Proofs.YtbbehmbpoilffaaDoor.C
open Go.RowKit Go.Proofs.YtbbehmbpoilffaaDoorW.PrintWords Go.Proofs.YtbbehmbpoilffaaDoorW.PrintLast Go.Proofs.YtbbehmbpoilffaaDoorW.PrintMore
attribute [local go_sem] max2_int min2_int max_two min_two max_three min_three max_four min_four
set_option linter.unusedVariables false
set_option linter.unusedSimpArgs false

/-! ### spec_SortList: function 57 -/
mutual
def spec_SortList.l0 : Nat → List Int → List Int → Int → Option (List Int)
 | 0, _, _, _ => none
 | k + 1, x0, x3, x4 => if x4 < (x0.length : Int) then (spec_SortList.l1 k x0 x3 x4 (x3.length : Int)) else (some x3)
def spec_SortList.l1 : Nat → List Int → List Int → Int → Int → Option (List Int)
 | 0, _, _, _, _ => none
 | k + 1, x0, x3, x4, x5 => if x5 > 0 then (if 0 ≤ (wrap64 (x5 - 1)) then (if (wrap64 (x5 - 1)) < (x3.length : Int) then (if 0 ≤ x4 then (if x4 < (x0.length : Int) then (if (rd x3 (wrap64 (x5 - 1))) > (rd x0 x4) then (spec_SortList.l1 k x0 x3 x4 (wrap64 (x5 - 1))) else (if (rd x3 (wrap64 (x5 - 1))) = (rd x0 x4) then (spec_SortList.l0 k x0 x3 (wrap64 (x4 + 1))) else ((some (([] : List Int) : List Int)).bind fun y148 => (if 0 ≤ x5 then (if x5 ≤ (x3.length : Int) then ((some (x3.drop (x5 : Int).toNat : List Int)).bind fun y151 => (if y148.length + y151.length < 17592186044416 then ((some (y148 ++ y151 : List Int)).bind fun y155 => ((some (x3.take (x5 : Int).toNat : List Int)).bind fun y158 => (if y158.length < 17592186044416 then ((some (y158 ++ [rd x0 x4] : List Int)).bind fun y162 => (if y162.length + y155.length < 17592186044416 then (spec_SortList.l0 k x0 (y162 ++ y155) (wrap64 (x4 + 1))) else (none))) else (none)))) else (none))) else (none)) else (none))))) else (none)) else (none)) else (none)) else (none)) else ((some (([] : List Int) : List Int)).bind fun y168 => (if 0 ≤ x5 then (if x5 ≤ (x3.length : Int) then ((some (x3.drop (x5 : Int).toNat : List Int)).bind fun y171 => (if y168.length + y171.length < 17592186044416 then ((some (y168 ++ y171 : List Int)).bind fun y175 => ((some (x3.take (x5 : Int).toNat : List Int)).bind fun y178 => (if 0 ≤ x4 then (if x4 < (x0.length : Int) then (if y178.length < 17592186044416 then ((some (y178 ++ [rd x0 x4] : List Int)).bind fun y182 => (if y182.length + y175.length < 17592186044416 then (spec_SortList.l0 k x0 (y182 ++ y175) (wrap64 (x4 + 1))) else (none))) else (none)) else (none)) else (none)))) else (none))) else (none)) else (none)))
end
def spec_SortList.f (k : Nat) (l0 : List Int) : Option (List Int) := spec_SortList.l0 k l0 (([] : List Int)) 0
def spec_SortList.T6 : Bool × List (List Nat × List Nat) := (true, [([], []), ([0], [0]), ([1], [1]), ([2], [2]), ([2], [2]), ([4, 2], [2, 4]), ([3, 5, 2], [2, 3, 5]), ([6, 2], [2, 6]), ([2], [2]), ([2], [2]), ([8, 9, 2], [2, 8, 9]), ([10, 2], [2, 10]), ([7, 11, 2], [2, 7, 11]), ([2, 12], [2, 12])])
def spec_SortList.B6 : List Nat := [0, 1, 3, 7, 7, 23, 63, 127, 7, 7, 775, 1799, 4095, 8191]
theorem spec_SortList.tab6 : rtab .any (opsOf Tryd.f57 6) = spec_SortList.T6 := by kernel_rfl
theorem spec_SortList.bits6 : waitsOk spec_SortList.T6.2 spec_SortList.B6 = true := by kernel_rfl
def spec_SortList.T8 : Bool × List (List Nat × List Nat) := (true, [([], []), ([0], [0]), ([1], [1]), ([2], [2]), ([2], [2]), ([4, 2], [2, 4]), ([3, 5, 2], [2, 3, 5]), ([6, 2], [2, 6]), ([2], [2]), ([2], [2]), ([8, 9, 2], [2, 8, 9]), ([10, 2], [2, 10]), ([7, 11, 2], [2, 7, 11]), ([2, 12], [2, 12])])
def spec_SortList.B8 : List Nat := [0, 1, 3, 7, 7, 23, 63, 127, 7, 7, 775, 1799, 4095, 8191]
theorem spec_SortList.tab8 : rtab .any (opsOf Tryd.f57 8) = spec_SortList.T8 := by kernel_rfl
theorem spec_SortList.bits8 : waitsOk spec_SortList.T8.2 spec_SortList.B8 = true := by kernel_rfl
def spec_SortList.T10 : Bool × List (List Nat × List Nat) := (true, [([], []), ([], []), ([0, 1], [0, 1]), ([], []), ([], []), ([3, 4], [3, 4]), ([5], [5]), ([6], [6]), ([2, 7], [2, 7]), ([], []), ([8, 9, 8], [8, 9]), ([10, 10, 0, 1, 2, 3, 4, 5, 6, 7, 8, 9, 10], [0, 10])])
def spec_SortList.B10 : List Nat := [0, 0, 3, 0, 0, 24, 56, 120, 255, 0, 1023, 2047]
theorem spec_SortList.tab10 : rtab .any (opsOf Tryd.f57 10) = spec_SortList.T10 := by kernel_rfl
theorem spec_SortList.bits10 : waitsOk spec_SortList.T10.2 spec_SortList.B10 = true := by kernel_rfl
set_option maxHeartbeats 8000000 in
set_option maxRecDepth 100000 in
theorem spec_SortList.calls (k : Nat) (A0 : Option Addr) (c0 : Nat) (l0 : List Int) (r : List Int) (w : World) (hr0 : Kd.C (Kd.int .i64) w A0 l0.length l0) (hc0 : l0.length ≤ c0) (h : spec_SortList.f k l0 = some r) :
  Calls Tryd.prog 57 #[.slice A0 l0.length c0] w fun e w' => ∃ v0_ : Value, e = .returned (v0_) ∧ Kd.R (Kd.int .i64) 3 w' w.heap.size (fun _ => True) v0_ r ∧ Below w.heap.size w w' := by
 have HR0 := am hr0
 have HC0 := am hc0
 clear hr0 hc0
 have HB := am (Below.refl w.heap.size w)
 have H : (spec_SortList.l0 k l0 (([] : List Int)) 0) = some r := h
 clear h
 obtain ⟨y141, hy141⟩ : ∃ y_ : List Int, y_ = (([] : List Int)) := ⟨_, rfl⟩
 replace H : (spec_SortList.l0 k l0 y141 0) = some r := by first | (rw [hy141]; with_reducible first | exact H | exact bs H) | (with_reducible first | exact bs H | exact H) | (rw [hy141]; exact H) | exact H
 have Ny141 := am hy141
 clear hy141
 have H' := am H
 clear H
 go_enter Tryd.func57, Tryd.ntmps57
 go_wp2_with (first | ((with_reducible refine gate_dst (N := 7) rfl ?_); refine Kd.R_lit (Kd.int .i64) _ 3 ?hg (N := 7) ?hd (xs := ([] : List Int)) (inner := []) (ok := fun _ => True) (okp := fun _ => True) ?hr ?hp (fun _ hk => hk) trivial (Below.refl _ _) (Nat.le_refl _) (by simp) ?_; (case hd => rfl); (case hg => rfl); (case hr => first | (go_simp; done) | (go_simp; rfl)); (case hp => exact (Reps.none _ _)); intro v142 w2 ho3 hb hg_ hnew_; clear hg_ hnew_; (first | rw [← Ny141.out] at ho3 | (simp only [Int.reduceToNat] at ho3; rw [← Ny141.out] at ho3)); have HO143 := am (Kd.R_lower ho3 (below_size bw)); replace HB := am (below_step bw hb); clear hb ho3))
 go_loopg [3, 4] k (fun kq v3 v4 w' => ∃ (x3_1 : List Int) (x4_1 : Int), v4 = .int .i64 x4_1 ∧ Aside0 (spec_SortList.l0 kq l0 x3_1 x4_1 = some r) ∧ Aside0 (kq ≤ k) ∧ Aside0 (Kd.R (Kd.int .i64) 3 w' w.heap.size (fun _ => True) v3 x3_1) ∧ Aside0 (Below w.heap.size w w'))
 case atStart => exact ⟨(y141), (0), rr, H', ⟨Nat.le_refl _⟩, ⟨ro HO143.out⟩, ⟨bw⟩⟩
 case round =>
  clear H'
  obtain ⟨x3_1, x4_1, rfl, HA, HK1, HO_3, HB⟩ := hrel
  cases gk with
  | zero => exact absurd HA.out (by simp [spec_SortList.l0])
  | succ k1 =>
   have H := HA.out
   clear HA
   simp only [spec_SortList.l0] at H
   replace H := gi H; obtain ⟨c4b0, H⟩ | ⟨c4b0, H⟩ := H
   ·have H' := am H
    clear H
    obtain ⟨Ao5, co5, eo5⟩ := Kd.R_slice HO_3.out
    subst eo5
    go_wp2
    go_loopg [5] k1 (fun kq v5 w' => ∃ (x5_2 : Int), v5 = .int .i64 x5_2 ∧ Aside0 (spec_SortList.l1 kq l0 x3_1 x4_1 x5_2 = some r) ∧ Aside0 (kq ≤ k1) ∧ Aside0 (Kd.R (Kd.int .i64) 3 w' w.heap.size (fun _ => True) (.slice Ao5 x3_1.length co5) x3_1) ∧ Aside0 (Below w.heap.size w w'))
    case atStart => exact ⟨((x3_1.length : Int)), rr, H', ⟨Nat.le_refl _⟩, ⟨ro HO_3.out⟩, ⟨bw⟩⟩
    case round =>
     clear H'
     try clear c4b0
     obtain ⟨x5_2, rfl, HA, HK2, HO_3, HB⟩ := hrel
     cases gk with
     | zero => exact absurd HA.out (by simp [spec_SortList.l1])
     | succ k2 =>
      have H := HA.out
      clear HA
      simp only [spec_SortList.l1] at H
      replace H := gj H; obtain ⟨c6, H⟩ | ⟨c6, H⟩ := H
      ·have c6b0 : decide (0 < x5_2) = true := decide_eq_true c6
       clear c6
       obtain ⟨ji7, hji7⟩ : ∃ j_ : Int, (wrap64 (x5_2 - 1)) = j_ := ⟨_, rfl⟩
       replace H : (if 0 ≤ (ji7) then (if (ji7) < (x3_1.length : Int) then (if 0 ≤ x4_1 then (if x4_1 < (l0.length : Int) then (if (rd x3_1 (ji7)) > (rd l0 x4_1) then (spec_SortList.l1 k2 l0 x3_1 x4_1 ji7) else (if (rd x3_1 (ji7)) = (rd l0 x4_1) then (spec_SortList.l0 k2 l0 x3_1 (wrap64 (x4_1 + 1))) else ((some (([] : List Int) : List Int)).bind fun y148 => (if 0 ≤ x5_2 then (if x5_2 ≤ (x3_1.length : Int) then ((some (x3_1.drop (x5_2 : Int).toNat : List Int)).bind fun y151 => (if y148.length + y151.length < 17592186044416 then ((some (y148 ++ y151 : List Int)).bind fun y155 => ((some (x3_1.take (x5_2 : Int).toNat : List Int)).bind fun y158 => (if y158.length < 17592186044416 then ((some (y158 ++ [rd l0 x4_1] : List Int)).bind fun y162 => (if y162.length + y155.length < 17592186044416 then (spec_SortList.l0 k2 l0 (y162 ++ y155) (wrap64 (x4_1 + 1))) else (none))) else (none)))) else (none))) else (none)) else (none))))) else (none)) else (none)) else (none)) else (none)) = some r := by first | (rw [hji7] at H; exact H) | (simp only [hji7] at H ⊢; exact H)
       have hji7w : (IntKind.i64.wrap (x5_2 - 1)) = ji7 := (i64_w _).trans hji7
       replace H := gd H; obtain ⟨c8b0, H⟩ := H
       replace H := gd H; obtain ⟨c9b0, H⟩ := H
       replace H := gd H; obtain ⟨c10b0, H⟩ := H
       replace H := gd H; obtain ⟨c11b0, H⟩ := H
       replace H := gj H; obtain ⟨c12, H⟩ | ⟨c12, H⟩ := H
       ·have c12b0 : decide ((rd l0 x4_1) < (rd x3_1 (ji7))) = true := decide_eq_true c12
        clear c12
        have H' := am H
        clear H
        try go_wp2
        replace HO_3 := am (Kd.R_drew HO_3.out)
        replace HB := am (below_drew1 HB.out)
        obtain ⟨⟨ad144, e144, hx144_0⟩, p144, q144⟩ := pq (Kd.at_int (Kd.R_reads' HO_3.out).2.2 (ji7))
        cases e144
        obtain ⟨⟨ad145, e145, hx145_0⟩, p145, q145⟩ := pq (Kd.at_int HR0.out x4_1)
        have hw145_0 := hx145_0
        cases e145
        replace hx145_0 := hw HB hx145_0
        refine start_ (n := 14) (S := fun w' => w'.cell? (ad144.add ((ji7)).toNat) = some (.int .i64 (rd x3_1 (ji7))) ∧ w'.cell? (ad145.add (x4_1).toNat) = some (.int .i64 (rd l0 x4_1))) (ds := []) (yz 14 0) (by kernel_rfl) rfl rfl ⟨hx144_0, ((HB.out.cell (World.block_lt_of_cell? w _ hw145_0)).trans hw145_0)⟩ (fun hHeld => ?_); refine with_tabW spec_SortList.tab6 spec_SortList.bits6 (fun HT_ HW_ => ?_)
        generalize wr.drew = w13 at HO_3 HB hx144_0 hx145_0 hHeld ⊢
        refine pa 0 (some 16) (yz 14 1) HT_ ?_
        refine pa 1 (some 17) (yz 14 3) HT_ ?_
        refine pa 2 (some 18) (yz 14 7) HT_ ?_
        refine pa 3 (some 19) (yz 14 15) HT_ ?_
        refine pa 4 (some 20) (yz 14 31) HT_ ?_
        refine pa 5 (some 21) (yz 14 63) HT_ ?_
        refine pa 6 (some 22) (yz 14 127) HT_ ?_
        refine pa 8 (some 24) (yz 14 383) HT_ ?_
        refine pa 9 (some 25) (yz 14 895) HT_ ?_
        refine pa 10 (some 26) (yz 14 1919) HT_ ?_
        refine tk 7 (some 23) (yz 14 2047) HT_ HW_ hHeld ?_
        refine tk 11 (some 27) (yz 14 4095) HT_ HW_ hHeld ?_
        refine pa 12 (some 28) (yz 14 8191) HT_ ?_
        refine pa 13 (some 29) (yz 14 16383) HT_ ?_
        refine done_ (done_of HT_.out (by kernel_rfl)) ?_
        try go_wp2
        go_roundg k2
        case measure => have := HK1.out; have := HK2.out; omega
        case rel => exact ⟨(ji7), (by first | rfl | (simp; done) | (simp only [← hji7] <;> (first | rfl | simp)) | (simp [*]; done)), H', ⟨by have := HK1.out; have := HK2.out; omega⟩, ⟨ro HO_3.out⟩, ⟨bw⟩⟩
       have c12b0 : decide ((rd l0 x4_1) < (rd x3_1 (ji7))) = false := decide_eq_false c12
       clear c12
       by_cases c14 : (rd x3_1 (ji7)) = (rd l0 x4_1)
       ·rw [if_pos c14] at H
        have c14b0 : ((rd x3_1 (ji7)) == (rd l0 x4_1)) = true := beq_iff_eq.mpr c14
        have c14b1 : ((rd x3_1 (ji7)) != (rd l0 x4_1)) = false := bne_eq_false_iff_eq.mpr c14
        clear c14
        have H' := am H
        clear H
        try go_wp2
        replace HO_3 := am (Kd.R_drew HO_3.out)
        replace HB := am (below_drew1 HB.out)
        obtain ⟨⟨ad144, e144, hx144_0⟩, p144, q144⟩ := pq (Kd.at_int (Kd.R_reads' HO_3.out).2.2 (ji7))
        cases e144
        obtain ⟨⟨ad145, e145, hx145_0⟩, p145, q145⟩ := pq (Kd.at_int HR0.out x4_1)
        have hw145_0 := hx145_0
        cases e145
        replace hx145_0 := hw HB hx145_0
        refine start_ (n := 14) (S := fun w' => w'.cell? (ad144.add ((ji7)).toNat) = some (.int .i64 (rd x3_1 (ji7))) ∧ w'.cell? (ad145.add (x4_1).toNat) = some (.int .i64 (rd l0 x4_1))) (ds := []) (yz 14 0) (by kernel_rfl) rfl rfl ⟨hx144_0, ((HB.out.cell (World.block_lt_of_cell? w _ hw145_0)).trans hw145_0)⟩ (fun hHeld => ?_); refine with_tabW spec_SortList.tab6 spec_SortList.bits6 (fun HT_ HW_ => ?_)
        generalize wr.drew = w15 at HO_3 HB hx144_0 hx145_0 hHeld ⊢
        refine pa 0 (some 16) (yz 14 1) HT_ ?_
        refine pa 1 (some 17) (yz 14 3) HT_ ?_
        refine pa 2 (some 18) (yz 14 7) HT_ ?_
        refine pa 3 (some 19) (yz 14 15) HT_ ?_
        refine pa 4 (some 20) (yz 14 31) HT_ ?_
        refine pa 5 (some 21) (yz 14 63) HT_ ?_
        refine pa 6 (some 22) (yz 14 127) HT_ ?_
        refine pa 8 (some 24) (yz 14 383) HT_ ?_
        refine pa 9 (some 25) (yz 14 895) HT_ ?_
        refine pa 10 (some 26) (yz 14 1919) HT_ ?_
        refine tk 7 (some 23) (yz 14 2047) HT_ HW_ hHeld ?_
        refine tk 11 (some 27) (yz 14 4095) HT_ HW_ hHeld ?_
        refine pa 12 (some 28) (yz 14 8191) HT_ ?_
        refine pa 13 (some 29) (yz 14 16383) HT_ ?_
        refine done_ (done_of HT_.out (by kernel_rfl)) ?_
        try go_wp2
        replace HO_3 := am (Kd.R_drew HO_3.out)
        replace HB := am (below_drew1 HB.out)
        obtain ⟨⟨ad146, e146, hx146_0⟩, p146, q146⟩ := pq (Kd.at_int (Kd.R_reads' HO_3.out).2.2 (ji7))
        obtain rfl : ad144 = ad146 := (by injection e146)
        obtain ⟨⟨ad147, e147, hx147_0⟩, p147, q147⟩ := pq (Kd.at_int HR0.out x4_1)
        have hw147_0 := hx147_0
        obtain rfl : ad145 = ad147 := (by injection e147)
        replace hx147_0 := hw HB hx147_0
        refine start_ (n := 14) (S := fun w' => w'.cell? (ad144.add ((ji7)).toNat) = some (.int .i64 (rd x3_1 (ji7))) ∧ w'.cell? (ad145.add (x4_1).toNat) = some (.int .i64 (rd l0 x4_1))) (ds := []) (yz 14 0) (by kernel_rfl) rfl rfl ⟨hx146_0, ((HB.out.cell (World.block_lt_of_cell? w _ hw147_0)).trans hw147_0)⟩ (fun hHeld => ?_); refine with_tabW spec_SortList.tab8 spec_SortList.bits8 (fun HT_ HW_ => ?_)
        generalize w15.drew = w16 at HO_3 HB hx146_0 hx147_0 hHeld ⊢
        refine pa 0 (some 32) (yz 14 1) HT_ ?_
        refine pa 1 (some 33) (yz 14 3) HT_ ?_
        refine pa 2 (some 34) (yz 14 7) HT_ ?_
        refine pa 3 (some 35) (yz 14 15) HT_ ?_
        refine pa 4 (some 36) (yz 14 31) HT_ ?_
        refine pa 5 (some 37) (yz 14 63) HT_ ?_
        refine pa 6 (some 38) (yz 14 127) HT_ ?_
        refine pa 8 (some 40) (yz 14 383) HT_ ?_
        refine pa 9 (some 41) (yz 14 895) HT_ ?_
        refine pa 10 (some 42) (yz 14 1919) HT_ ?_
        refine tk 7 (some 39) (yz 14 2047) HT_ HW_ hHeld ?_
        refine tk 11 (some 43) (yz 14 4095) HT_ HW_ hHeld ?_
        refine pa 12 (some 44) (yz 14 8191) HT_ ?_
        refine pa 13 (some 45) (yz 14 16383) HT_ ?_
        refine done_ (done_of HT_.out (by kernel_rfl)) ?_
        try go_wp2
        go_roundg k2
        case measure => have := HK1.out; have := HK2.out; omega
        case rel => exact ⟨(x3_1), (wrap64 (x4_1 + 1)), rr, H', ⟨by have := HK1.out; have := HK2.out; omega⟩, ⟨ro HO_3.out⟩, ⟨bw⟩⟩
       rw [if_neg c14] at H
       have c14b0 : ((rd x3_1 (ji7)) == (rd l0 x4_1)) = false := beq_eq_false_iff_ne.mpr c14
       have c14b1 : ((rd x3_1 (ji7)) != (rd l0 x4_1)) = true := bne_iff_ne.mpr c14
       obtain ⟨y148, hy148⟩ : ∃ y_ : List Int, y_ = (([] : List Int)) := ⟨_, rfl⟩
       replace H : (if 0 ≤ x5_2 then (if x5_2 ≤ (x3_1.length : Int) then ((some (x3_1.drop (x5_2 : Int).toNat : List Int)).bind fun y151 => (if y148.length + y151.length < 17592186044416 then ((some (y148 ++ y151 : List Int)).bind fun y155 => ((some (x3_1.take (x5_2 : Int).toNat : List Int)).bind fun y158 => (if y158.length < 17592186044416 then ((some (y158 ++ [rd l0 x4_1] : List Int)).bind fun y162 => (if y162.length + y155.length < 17592186044416 then (spec_SortList.l0 k2 l0 (y162 ++ y155) (wrap64 (x4_1 + 1))) else (none))) else (none)))) else (none))) else (none)) else (none)) = some r := by first | (rw [hy148]; with_reducible first | exact H | exact bs H) | (with_reducible first | exact bs H | exact H) | (rw [hy148]; exact H) | exact H
       have Ny148 := am hy148
       clear hy148
       replace H := gp H; obtain ⟨c17, H⟩ := H
       have c17b0 := eq_true c17
       have c17b1 : decide (0 ≤ x5_2) = true := decide_eq_true c17
       clear c17
       replace H := gp H; obtain ⟨c18, H⟩ := H
       have c18b0 := eq_true c18
       have c18b1 : decide (x5_2 ≤ (x3_1.length : Int)) = true := decide_eq_true c18
       clear c18
       obtain ⟨y151, hy151⟩ : ∃ y_ : List Int, y_ = (x3_1.drop (x5_2 : Int).toNat) := ⟨_, rfl⟩
       replace H : (if y148.length + y151.length < 17592186044416 then ((some (y148 ++ y151 : List Int)).bind fun y155 => ((some (x3_1.take (x5_2 : Int).toNat : List Int)).bind fun y158 => (if y158.length < 17592186044416 then ((some (y158 ++ [rd l0 x4_1] : List Int)).bind fun y162 => (if y162.length + y155.length < 17592186044416 then (spec_SortList.l0 k2 l0 (y162 ++ y155) (wrap64 (x4_1 + 1))) else (none))) else (none)))) else (none)) = some r := by first | (rw [hy151]; with_reducible first | exact H | exact bs H) | (with_reducible first | exact bs H | exact H) | (rw [hy151]; exact H) | exact H
       have Ny151 := am hy151
       clear hy151
       by_cases c19 : y148.length + y151.length < 17592186044416
       rotate_left
       ·rw [if_neg c19] at H
        exact absurd H (by simp)
       rw [if_pos c19] at H
       have LMc19 := am c19
       clear c19
       obtain ⟨y155, hy155⟩ : ∃ y_ : List Int, y_ = (y148 ++ y151) := ⟨_, rfl⟩
       replace H : ((some (x3_1.take (x5_2 : Int).toNat : List Int)).bind fun y158 => (if y158.length < 17592186044416 then ((some (y158 ++ [rd l0 x4_1] : List Int)).bind fun y162 => (if y162.length + y155.length < 17592186044416 then (spec_SortList.l0 k2 l0 (y162 ++ y155) (wrap64 (x4_1 + 1))) else (none))) else (none))) = some r := by first | (rw [hy155]; with_reducible first | exact H | exact bs H) | (with_reducible first | exact bs H | exact H) | (rw [hy155]; exact H) | exact H
       have Ny155 := am hy155
       clear hy155
       have c20b0 := eq_true (of_decide_eq_true (by first | (with_reducible assumption) | assumption) : x5_2 ≤ (x3_1.length : Int))
       obtain ⟨y158, hy158⟩ : ∃ y_ : List Int, y_ = (x3_1.take (x5_2 : Int).toNat) := ⟨_, rfl⟩
       replace H : (if y158.length < 17592186044416 then ((some (y158 ++ [rd l0 x4_1] : List Int)).bind fun y162 => (if y162.length + y155.length < 17592186044416 then (spec_SortList.l0 k2 l0 (y162 ++ y155) (wrap64 (x4_1 + 1))) else (none))) else (none)) = some r := by first | (rw [hy158]; with_reducible first | exact H | exact bs H) | (with_reducible first | exact bs H | exact H) | (rw [hy158]; exact H) | exact H
       have Ny158 := am hy158
       clear hy158
       by_cases c21 : y158.length < 17592186044416
       rotate_left
       ·rw [if_neg c21] at H
        exact absurd H (by simp)
       rw [if_pos c21] at H
       have LMc21 := am c21
       clear c21
       obtain ⟨y162, hy162⟩ : ∃ y_ : List Int, y_ = (y158 ++ [rd l0 x4_1]) := ⟨_, rfl⟩
       replace H : (if y162.length + y155.length < 17592186044416 then (spec_SortList.l0 k2 l0 (y162 ++ y155) (wrap64 (x4_1 + 1))) else (none)) = some r := by first | (rw [hy162]; with_reducible first | exact H | exact bs H) | (with_reducible first | exact bs H | exact H) | (rw [hy162]; exact H) | exact H
       have Ny162 := am hy162
       clear hy162
       by_cases c22 : y162.length + y155.length < 17592186044416
       rotate_left
       ·rw [if_neg c22] at H
        exact absurd H (by simp)
       rw [if_pos c22] at H
       have LMc22 := am c22
       clear c22
       obtain ⟨y165, hy165⟩ : ∃ y_ : List Int, y_ = (y162 ++ y155) := ⟨_, rfl⟩
       replace H : (spec_SortList.l0 k2 l0 y165 (wrap64 (x4_1 + 1))) = some r := by first | (rw [hy165]; with_reducible first | exact H | exact bs H) | (with_reducible first | exact bs H | exact H) | (rw [hy165]; exact H) | exact H
       have Ny165 := am hy165
       clear hy165
       have H' := am H
       clear H
       try go_wp2
       replace HO_3 := am (Kd.R_drew HO_3.out)
       replace HB := am (below_drew1 HB.out)
       obtain ⟨⟨ad144, e144, hx144_0⟩, p144, q144⟩ := pq (Kd.at_int (Kd.R_reads' HO_3.out).2.2 (ji7))
       cases e144
       obtain ⟨⟨ad145, e145, hx145_0⟩, p145, q145⟩ := pq (Kd.at_int HR0.out x4_1)
       have hw145_0 := hx145_0
       cases e145
       replace hx145_0 := hw HB hx145_0
       refine start_ (n := 14) (S := fun w' => w'.cell? (ad144.add ((ji7)).toNat) = some (.int .i64 (rd x3_1 (ji7))) ∧ w'.cell? (ad145.add (x4_1).toNat) = some (.int .i64 (rd l0 x4_1))) (ds := []) (yz 14 0) (by kernel_rfl) rfl rfl ⟨hx144_0, ((HB.out.cell (World.block_lt_of_cell? w _ hw145_0)).trans hw145_0)⟩ (fun hHeld => ?_); refine with_tabW spec_SortList.tab6 spec_SortList.bits6 (fun HT_ HW_ => ?_)
       generalize wr.drew = w23 at HO_3 HB hx144_0 hx145_0 hHeld ⊢
       refine pa 0 (some 16) (yz 14 1) HT_ ?_
       refine pa 1 (some 17) (yz 14 3) HT_ ?_
       refine pa 2 (some 18) (yz 14 7) HT_ ?_
       refine pa 3 (some 19) (yz 14 15) HT_ ?_
       refine pa 4 (some 20) (yz 14 31) HT_ ?_
       refine pa 5 (some 21) (yz 14 63) HT_ ?_
       refine pa 6 (some 22) (yz 14 127) HT_ ?_
       refine pa 8 (some 24) (yz 14 383) HT_ ?_
       refine pa 9 (some 25) (yz 14 895) HT_ ?_
       refine pa 10 (some 26) (yz 14 1919) HT_ ?_
       refine tk 7 (some 23) (yz 14 2047) HT_ HW_ hHeld ?_
       refine tk 11 (some 27) (yz 14 4095) HT_ HW_ hHeld ?_
       refine pa 12 (some 28) (yz 14 8191) HT_ ?_
       refine pa 13 (some 29) (yz 14 16383) HT_ ?_
       refine done_ (done_of HT_.out (by kernel_rfl)) ?_
       try go_wp2
       replace HO_3 := am (Kd.R_drew HO_3.out)
       replace HB := am (below_drew1 HB.out)
       obtain ⟨⟨ad146, e146, hx146_0⟩, p146, q146⟩ := pq (Kd.at_int (Kd.R_reads' HO_3.out).2.2 (ji7))
       obtain rfl : ad144 = ad146 := (by injection e146)
       obtain ⟨⟨ad147, e147, hx147_0⟩, p147, q147⟩ := pq (Kd.at_int HR0.out x4_1)
       have hw147_0 := hx147_0
       obtain rfl : ad145 = ad147 := (by injection e147)
       replace hx147_0 := hw HB hx147_0
       refine start_ (n := 14) (S := fun w' => w'.cell? (ad144.add ((ji7)).toNat) = some (.int .i64 (rd x3_1 (ji7))) ∧ w'.cell? (ad145.add (x4_1).toNat) = some (.int .i64 (rd l0 x4_1))) (ds := []) (yz 14 0) (by kernel_rfl) rfl rfl ⟨hx146_0, ((HB.out.cell (World.block_lt_of_cell? w _ hw147_0)).trans hw147_0)⟩ (fun hHeld => ?_); refine with_tabW spec_SortList.tab8 spec_SortList.bits8 (fun HT_ HW_ => ?_)
       generalize w23.drew = w24 at HO_3 HB hx146_0 hx147_0 hHeld ⊢
       refine pa 0 (some 32) (yz 14 1) HT_ ?_
       refine pa 1 (some 33) (yz 14 3) HT_ ?_
       refine pa 2 (some 34) (yz 14 7) HT_ ?_
       refine pa 3 (some 35) (yz 14 15) HT_ ?_
       refine pa 4 (some 36) (yz 14 31) HT_ ?_
       refine pa 5 (some 37) (yz 14 63) HT_ ?_
       refine pa 6 (some 38) (yz 14 127) HT_ ?_
       refine pa 8 (some 40) (yz 14 383) HT_ ?_
       refine pa 9 (some 41) (yz 14 895) HT_ ?_
       refine pa 10 (some 42) (yz 14 1919) HT_ ?_
       refine tk 7 (some 39) (yz 14 2047) HT_ HW_ hHeld ?_
       refine tk 11 (some 43) (yz 14 4095) HT_ HW_ hHeld ?_
       refine pa 12 (some 44) (yz 14 8191) HT_ ?_
       refine pa 13 (some 45) (yz 14 16383) HT_ ?_
       refine done_ (done_of HT_.out (by kernel_rfl)) ?_
       try go_wp2_with (first | ((with_reducible refine gate_dst (N := 46) rfl ?_); refine Kd.R_lit (Kd.int .i64) _ 3 ?hg (N := 46) ?hd (xs := ([] : List Int)) (inner := []) (ok := fun _ => True) (okp := fun _ => True) ?hr ?hp (fun _ hk => hk) trivial (Below.refl _ _) (Nat.le_refl _) (by simp) ?_; (case hd => rfl); (case hg => rfl); (case hr => first | (go_simp; done) | (go_simp; rfl)); (case hp => exact (Reps.none _ _)); intro v149 w25 ho26 hb hg_ hnew_; clear hg_ hnew_; (first | rw [← Ny148.out] at ho26 | (simp only [Int.reduceToNat] at ho26; rw [← Ny148.out] at ho26)); have HO150 := am (Kd.R_lower (Kd.R_new' ho26 (Kd.R_lt (ro HO_3.out))) (below_size bw)); replace HO_3 := am (Kd.R_elder' (ro HO_3.out) (Kd.R_base ho26) hb); replace HB := am (below_step bw hb); clear hb ho26; have q27 : (x5_2 : Int) ≤ ((x3_1.length : Int) : Int) := of_decide_eq_true (by first | (with_reducible assumption) | assumption); obtain ⟨i027, hi027, _, hsz27, _⟩ := info_parts info3; have hroom27 : x3_1.length ≤ co5 := (Kd.R_reads' HO_3.out).2.1; have hC27 : Kd.C (Kd.int .i64) _ (some ad144) x3_1.length x3_1 := (Kd.R_reads' HO_3.out).2.2; have q027 : (0 : Int) ≤ (x5_2 : Int) := of_decide_eq_true (by first | (with_reducible assumption) | assumption); have hcut27 := cut_from (P := Tryd.prog) 24 3 .i64 Tryd.underlying24 hi027 1 hsz27 (some ad144) x3_1.length co5 x5_2 q027 q27; have hr27 := Kd.C_drop (m := (x5_2 : Int).toNat) (c := co5) hC27 (by omega) hroom27; obtain ⟨A27, hA27⟩ : ∃ A1, A1 = (if co5 = (x5_2 : Int).toNat then (some ad144) else ((some ad144) : Option Addr).map (·.add ((x5_2 : Int).toNat * 1))) := ⟨_, rfl⟩; obtain ⟨c27, hc27⟩ : ∃ c1, c1 = co5 - (x5_2 : Int).toNat := ⟨_, rfl⟩; have hy27 : y151.length = x3_1.length - (x5_2 : Int).toNat := (by rw [Ny151.out, List.length_drop] <;> omega); rw [show (x3_1).drop (x5_2 : Int).toNat = y151 from Ny151.out.symm] at hr27; replace hr27 : Kd.C (Kd.int .i64) _ A27 y151.length y151 := (by rw [hA27]; exact hr27); rw [← hy27, ← hA27, ← hc27] at hcut27; have HR154 := am hr27; have HC154 := am (show y151.length ≤ c27 from by rw [hy27, hc27]; exact Nat.sub_le_sub_right hroom27 _); clear hr27 hC27 hroom27 hi027 hsz27 hc27; have KY27 := am hy27; have KA27 := am hA27; clear hy27 hA27; have KL27 := am (show (x5_2 : Int).toNat ≤ x3_1.length from by omega); replace q27 := eq_true q27) | ((with_reducible refine gate_builtin (b := .append) (xs := #[.tmp 46, .tmp 49]) rfl ?_); at_builtin; refine Kd.R_append_rows (Kd.int .i64) (w0 := w) w.heap.size rfl (.tmp 46) (.tmp 49) 24 3 (.int .i64 0) 8 rfl Tryd.underlying24 info3 rfl (by decide) (by omega) v149 y148 y151 _ _ _ (fun k_ => some k_ ≠ (.slice (some ad144) x3_1.length co5 : Value).ownBlock) (fun _ => False) rfl rfl ?aO ?aR (fun _ _ h => h) (fun _ h => h.elim) ?aF ?aB ?aS ?aL ?_; (case aR => exact co HR154.out); (case aB => exact bw); (case aF => exact (fun k_ hk => Kd.fresh' (Kd.R_lt (ro HO_3.out)) k_ hk)); (case aO => exact (by (with_reducible repeat (first | apply Kd.R_alloc | apply Kd.R_drewN | apply Kd.R_drew)); exact Kd.R_mono HO150.out (fun _ hk => hk.2))); (case aS => exact (below_size bw)); (case aL => have := LMc19.out; omega); intro v156 w28 ho hb hg hat; rw [← Ny155.out] at ho; replace HB := am (hb); replace HR154 := am ((show Kd.C (Kd.int .i64) w28 A27 y151.length y151 from by rw [Ny151.out, KA27.out]; exact Kd.C_drop (m := (x5_2 : Int).toNat) (c := co5) ((Kd.R_reads' (Kd.R_after (ok := (fun _ => True)) (ro HO_3.out) hg hat)).2.2) KL27.out ((Kd.R_reads' (Kd.R_after (ok := (fun _ => True)) (ro HO_3.out) hg hat)).2.1))); replace HO_3 := am (Kd.R_after (ok := (fun _ => True)) (ro HO_3.out) hg hat); have HO157 := am (ho); clear HO150 ho hb hg hat))
       replace HO_3 := am (Kd.R_drew HO_3.out)
       replace HO157 := am (Kd.R_drew HO157.out)
       replace HR154 := am (Kd.C_drew HR154.out)
       replace HB := am (below_drew1 HB.out)
       have q30 : (x5_2 : Int) ≤ ((x3_1.length : Int) : Int) := of_decide_eq_true (by first | (with_reducible assumption) | assumption)
       obtain ⟨i030, hi030, _, hsz30, _⟩ := info_parts info3
       have hcut30 := cut_to (P := Tryd.prog) 24 3 .i64 Tryd.underlying24 hi030 (some ad144) x3_1.length co5 x5_2 (of_decide_eq_true (by first | (with_reducible assumption) | assumption)) q30 (Kd.R_reads' HO_3.out).2.1
       have hr30 := Kd.R_take (m := (x5_2 : Int).toNat) HO_3.out (by omega)
       have hy30 : y158.length = (x5_2 : Int).toNat := (by rw [Ny158.out, List.length_take]; omega)
       rw [← Ny158.out] at hr30
       rw [← hy30] at hr30 hcut30
       clear hy30 hi030 hsz30 HO_3
       have HO160 := am hr30
       clear hr30
       replace q30 := eq_true q30
       obtain ⟨⟨ad161, e161, hx161_0⟩, p161, q161⟩ := pq (Kd.at_int HR0.out x4_1)
       have hw161_0 := hx161_0
       obtain rfl : ad145 = ad161 := (by injection e161)
       replace hx161_0 := hw HB hx161_0
       refine start_ (n := 12) (S := fun w' => w'.cell? (ad145.add (x4_1).toNat) = some (.int .i64 (rd l0 x4_1))) (ds := []) (yz 12 0) (by kernel_rfl) rfl rfl (((HB.out.cell (World.block_lt_of_cell? w _ hw161_0)).trans hw161_0)) (fun hHeld => ?_); refine with_tabW spec_SortList.tab10 spec_SortList.bits10 (fun HT_ HW_ => ?_)
       generalize w28.drew = w29 at HO_3 HO157 HR154 HB HO160 hx161_0 hHeld ⊢
       refine pa 0 (some 51) (yz 12 1) HT_ ?_
       refine pa 1 (some 52) (yz 12 3) HT_ ?_
       refine pa 2 (some 53) (yz 12 7) HT_ ?_
       refine pa 3 (some 54) (yz 12 15) HT_ ?_
       refine pa 4 (some 55) (yz 12 31) HT_ ?_
       refine pa 5 (some 56) (yz 12 63) HT_ ?_
       refine pa 9 (some 60) (yz 12 575) HT_ ?_
       refine tK 6 (some 57) (yz 12 639) HT_ HW_ hHeld ?_
       refine oa 7 (some 58) (yz 12 767) HT_ (fun K hK => ?_)
       refine value_ (w1 := ?_) (v := ?_) (by rfl) rfl ?_ ?_
       rotate_left 2
       ·go_simp
        constructor
        ·rfl
        rfl
       refine hK.out _ _ ((World.cell?_alloc_lt _ _ _ (World.block_lt_of_cell? _ _ (((HB.out.cell (World.block_lt_of_cell? w _ hw161_0)).trans hw161_0)))).trans (((HB.out.cell (World.block_lt_of_cell? w _ hw161_0)).trans hw161_0))) (fun hHeld => ?_)
       clear hK K
       refine nm (some 58) ?_
       refine oa 8 (some 59) (yz 12 1023) HT_ (fun K hK => ?_)
       refine Kd.R_append_step (Kd.int .i64) (w0 := w) w.heap.size (by rfl) (.tmp 53) (.tmp 58) 24 3 (.int .i64 0) 8 rfl Tryd.underlying24 info3 rfl (by decide) (by omega) (.slice (some ad144) y158.length co5) y158 (rd l0 x4_1) [.int .i64 (rd l0 x4_1)] (fun k_ => some k_ ≠ (v156 : Value).ownBlock) (fun _ => False) rfl rfl ?aP (fun _ hk => hk.elim) ?aF ?aO ?aB ?aS ?aL ?_
       (case aP => exact rfl)
       (case aB => exact bw)
       (case aF => exact (fun k_ hk => Kd.fresh' (Kd.R_lt (ro HO157.out)) k_ hk))
       (case aO => exact (by (with_reducible repeat (first | apply Kd.R_alloc | apply Kd.R_drewN | apply Kd.R_drew)); exact Kd.R_mono HO160.out (fun _ hk => hk.2)))
       (case aS => exact (below_size bw))
       (case aL => have := LMc21.out; omega)
       intro v163 w31 ho hb hg hat
       rw [← Ny162.out] at ho
       replace HO157 := am (Kd.R_after (ok := (fun _ => True)) (by (with_reducible repeat (first | apply Kd.R_alloc | apply Kd.R_drewN | apply Kd.R_drew)); exact Kd.R_mono HO157.out (fun _ hk => ⟨trivial, by first | exact hk | exact (by intro a n m c x h; cases a <;> exact h : ∀ (a : Option Addr) (n m c x : Nat), some x ≠ (Value.slice a n c).ownBlock → some x ≠ (Value.slice a m c).ownBlock) _ _ _ _ _ hk⟩)) hg hat)
       replace HB := am (hb)
       have HO164 := am (ho)
       clear HO160 ho hb hg hat
       obtain ⟨Ao33, co33, eo33⟩ := Kd.R_slice HO157.out
       (first | subst eo33 | (injection eo33 with f1_ f2_ f3_; have f4_ := f1_.symm; have f5_ := f3_.symm; clear f1_ f2_ f3_; subst f4_; subst f5_))
       refine hK.out _ _ (((HB.out.cell (World.block_lt_of_cell? w _ hw161_0)).trans hw161_0)) (fun hHeld => ?_)
       clear hK K
       refine nm (some 59) ?_
       refine oa 10 (some 61) (yz 12 2047) HT_ (fun K hK => ?_)
       refine Kd.R_append_rows_step (Kd.int .i64) (w0 := w) w.heap.size (by rfl) (.tmp 59) (.tmp 60) 24 3 (.int .i64 0) 8 rfl Tryd.underlying24 info3 rfl (by decide) (by omega) v163 y162 y155 _ _ _ (fun k_ => nb k_ Ao33 y155 co33) (fun _ => False) rfl rfl ?aO ?aR (fun _ _ h => h) (fun _ h => h.elim) ?aF ?aB ?aS ?aL ?_
       (case aR => exact co (Kd.R_reads' HO157.out).2.2)
       (case aB => exact bw)
       (case aF => exact (fun k_ hk => Kd.fresh' (Kd.R_lt (ro HO157.out)) k_ hk))
       (case aO => exact (ro HO164.out))
       (case aS => exact (below_size bw))
       (case aL => have := LMc22.out; omega)
       intro v166 w32 ho hb hg hat
       rw [← Ny165.out] at ho
       replace HO157 := am (Kd.R_after (ok := (fun _ => True)) (ro HO157.out) hg hat)
       replace HB := am (hb)
       have HO167 := am (ho)
       clear HO164 ho hb hg hat
       refine hK.out _ _ (((HB.out.cell (World.block_lt_of_cell? w _ hw161_0)).trans hw161_0)) (fun hHeld => ?_)
       clear hK K
       refine nm (some 61) ?_
       refine pa 11 (some 3) (yz 12 4095) HT_ ?_
       refine done_ (done_of HT_.out (by kernel_rfl)) ?_
       try go_wp2
       go_roundg k2
       case measure => have := HK1.out; have := HK2.out; omega
       case rel => exact ⟨(y165), (wrap64 (x4_1 + 1)), rr, H', ⟨by have := HK1.out; have := HK2.out; omega⟩, ⟨by (with_reducible repeat (first | apply Kd.R_alloc | apply Kd.R_drewN | apply Kd.R_drew)); exact Kd.R_mono HO167.out (fun _ hk => trivial)⟩, ⟨bw⟩⟩
      have c6b0 : decide (0 < x5_2) = false := decide_eq_false c6
      clear c6
      obtain ⟨y168, hy168⟩ : ∃ y_ : List Int, y_ = (([] : List Int)) := ⟨_, rfl⟩
      replace H : (if 0 ≤ x5_2 then (if x5_2 ≤ (x3_1.length : Int) then ((some (x3_1.drop (x5_2 : Int).toNat : List Int)).bind fun y171 => (if y168.length + y171.length < 17592186044416 then ((some (y168 ++ y171 : List Int)).bind fun y175 => ((some (x3_1.take (x5_2 : Int).toNat : List Int)).bind fun y178 => (if 0 ≤ x4_1 then (if x4_1 < (l0.length : Int) then (if y178.length < 17592186044416 then ((some (y178 ++ [rd l0 x4_1] : List Int)).bind fun y182 => (if y182.length + y175.length < 17592186044416 then (spec_SortList.l0 k2 l0 (y182 ++ y175) (wrap64 (x4_1 + 1))) else (none))) else (none)) else (none)) else (none)))) else (none))) else (none)) else (none)) = some r := by first | (rw [hy168]; with_reducible first | exact H | exact bs H) | (with_reducible first | exact bs H | exact H) | (rw [hy168]; exact H) | exact H
      have Ny168 := am hy168
      clear hy168
      replace H := gp H; obtain ⟨c34, H⟩ := H
      have c34b0 := eq_true c34
      have c34b1 : decide (0 ≤ x5_2) = true := decide_eq_true c34
      clear c34
      replace H := gp H; obtain ⟨c35, H⟩ := H
      have c35b0 := eq_true c35
      have c35b1 : decide (x5_2 ≤ (x3_1.length : Int)) = true := decide_eq_true c35
      clear c35
      obtain ⟨y171, hy171⟩ : ∃ y_ : List Int, y_ = (x3_1.drop (x5_2 : Int).toNat) := ⟨_, rfl⟩
      replace H : (if y168.length + y171.length < 17592186044416 then ((some (y168 ++ y171 : List Int)).bind fun y175 => ((some (x3_1.take (x5_2 : Int).toNat : List Int)).bind fun y178 => (if 0 ≤ x4_1 then (if x4_1 < (l0.length : Int) then (if y178.length < 17592186044416 then ((some (y178 ++ [rd l0 x4_1] : List Int)).bind fun y182 => (if y182.length + y175.length < 17592186044416 then (spec_SortList.l0 k2 l0 (y182 ++ y175) (wrap64 (x4_1 + 1))) else (none))) else (none)) else (none)) else (none)))) else (none)) = some r := by first | (rw [hy171]; with_reducible first | exact H | exact bs H) | (with_reducible first | exact bs H | exact H) | (rw [hy171]; exact H) | exact H
      have Ny171 := am hy171
      clear hy171
      by_cases c36 : y168.length + y171.length < 17592186044416
      rotate_left
      ·rw [if_neg c36] at H
       exact absurd H (by simp)
      rw [if_pos c36] at H
      have LMc36 := am c36
      clear c36
      obtain ⟨y175, hy175⟩ : ∃ y_ : List Int, y_ = (y168 ++ y171) := ⟨_, rfl⟩
      replace H : ((some (x3_1.take (x5_2 : Int).toNat : List Int)).bind fun y178 => (if 0 ≤ x4_1 then (if x4_1 < (l0.length : Int) then (if y178.length < 17592186044416 then ((some (y178 ++ [rd l0 x4_1] : List Int)).bind fun y182 => (if y182.length + y175.length < 17592186044416 then (spec_SortList.l0 k2 l0 (y182 ++ y175) (wrap64 (x4_1 + 1))) else (none))) else (none)) else (none)) else (none))) = some r := by first | (rw [hy175]; with_reducible first | exact H | exact bs H) | (with_reducible first | exact bs H | exact H) | (rw [hy175]; exact H) | exact H
      have Ny175 := am hy175
      clear hy175
      have c37b0 := eq_true (of_decide_eq_true (by first | (with_reducible assumption) | assumption) : x5_2 ≤ (x3_1.length : Int))
      obtain ⟨y178, hy178⟩ : ∃ y_ : List Int, y_ = (x3_1.take (x5_2 : Int).toNat) := ⟨_, rfl⟩
      replace H : (if 0 ≤ x4_1 then (if x4_1 < (l0.length : Int) then (if y178.length < 17592186044416 then ((some (y178 ++ [rd l0 x4_1] : List Int)).bind fun y182 => (if y182.length + y175.length < 17592186044416 then (spec_SortList.l0 k2 l0 (y182 ++ y175) (wrap64 (x4_1 + 1))) else (none))) else (none)) else (none)) else (none)) = some r := by first | (rw [hy178]; with_reducible first | exact H | exact bs H) | (with_reducible first | exact bs H | exact H) | (rw [hy178]; exact H) | exact H
      have Ny178 := am hy178
      clear hy178
      replace H := gd H; obtain ⟨c38b0, H⟩ := H
      replace H := gd H; obtain ⟨c39b0, H⟩ := H
      by_cases c40 : y178.length < 17592186044416
      rotate_left
      ·rw [if_neg c40] at H
       exact absurd H (by simp)
      rw [if_pos c40] at H
      have LMc40 := am c40
      clear c40
      obtain ⟨y182, hy182⟩ : ∃ y_ : List Int, y_ = (y178 ++ [rd l0 x4_1]) := ⟨_, rfl⟩
      replace H : (if y182.length + y175.length < 17592186044416 then (spec_SortList.l0 k2 l0 (y182 ++ y175) (wrap64 (x4_1 + 1))) else (none)) = some r := by first | (rw [hy182]; with_reducible first | exact H | exact bs H) | (with_reducible first | exact bs H | exact H) | (rw [hy182]; exact H) | exact H
      have Ny182 := am hy182
      clear hy182
      by_cases c41 : y182.length + y175.length < 17592186044416
      rotate_left
      ·rw [if_neg c41] at H
       exact absurd H (by simp)
      rw [if_pos c41] at H
      have LMc41 := am c41
      clear c41
      obtain ⟨y185, hy185⟩ : ∃ y_ : List Int, y_ = (y182 ++ y175) := ⟨_, rfl⟩
      replace H : (spec_SortList.l0 k2 l0 y185 (wrap64 (x4_1 + 1))) = some r := by first | (rw [hy185]; with_reducible first | exact H | exact bs H) | (with_reducible first | exact bs H | exact H) | (rw [hy185]; exact H) | exact H
      have Ny185 := am hy185
      clear hy185
      have H' := am H
      clear H
      try go_wp2
      replace HO_3 := am (Kd.R_drew HO_3.out)
      replace HB := am (below_drew1 HB.out)
      refine start_ (n := 14) (S := fun w' => True) (ds := []) (yz 14 0) (by kernel_rfl) rfl rfl trivial (fun hHeld => ?_); refine with_tabW spec_SortList.tab6 spec_SortList.bits6 (fun HT_ HW_ => ?_)
      generalize wr.drew = w42 at HO_3 HB hHeld ⊢
      refine pa 0 (some 16) (yz 14 1) HT_ ?_
      refine pa 1 (some 17) (yz 14 3) HT_ ?_
      refine pa 2 (some 18) (yz 14 7) HT_ ?_
      refine pu 3 (some 19) (yz 14 15) HT_ ?_
      refine pu 4 (some 20) (yz 14 31) HT_ ?_
      refine pu 5 (some 21) (yz 14 63) HT_ ?_
      refine pu 6 (some 22) (yz 14 127) HT_ ?_
      refine pu 7 (some 23) (yz 14 255) HT_ ?_
      refine pu 8 (some 24) (yz 14 511) HT_ ?_
      refine pu 9 (some 25) (yz 14 1023) HT_ ?_
      refine pu 10 (some 26) (yz 14 2047) HT_ ?_
      refine pu 11 (some 27) (yz 14 4095) HT_ ?_
      refine pu 12 (some 28) (yz 14 8191) HT_ ?_
      refine pa 13 (some 29) (yz 14 16383) HT_ ?_
      refine done_ (done_of HT_.out (by kernel_rfl)) ?_
      try go_wp2
      replace HO_3 := am (Kd.R_drew HO_3.out)
      replace HB := am (below_drew1 HB.out)
      refine start_ (n := 14) (S := fun w' => True) (ds := []) (yz 14 0) (by kernel_rfl) rfl rfl trivial (fun hHeld => ?_); refine with_tabW spec_SortList.tab8 spec_SortList.bits8 (fun HT_ HW_ => ?_)
      generalize w42.drew = w43 at HO_3 HB hHeld ⊢
      refine pa 0 (some 32) (yz 14 1) HT_ ?_
      refine pa 1 (some 33) (yz 14 3) HT_ ?_
      refine pa 2 (some 34) (yz 14 7) HT_ ?_
      refine pu 3 (some 35) (yz 14 15) HT_ ?_
      refine pu 4 (some 36) (yz 14 31) HT_ ?_
      refine pu 5 (some 37) (yz 14 63) HT_ ?_
      refine pu 6 (some 38) (yz 14 127) HT_ ?_
      refine pu 7 (some 39) (yz 14 255) HT_ ?_
      refine pu 8 (some 40) (yz 14 511) HT_ ?_
      refine pu 9 (some 41) (yz 14 1023) HT_ ?_
      refine pu 10 (some 42) (yz 14 2047) HT_ ?_
      refine pu 11 (some 43) (yz 14 4095) HT_ ?_
      refine pu 12 (some 44) (yz 14 8191) HT_ ?_
      refine pa 13 (some 45) (yz 14 16383) HT_ ?_
      refine done_ (done_of HT_.out (by kernel_rfl)) ?_
      try go_wp2_with (first | ((with_reducible refine gate_dst (N := 46) rfl ?_); refine Kd.R_lit (Kd.int .i64) _ 3 ?hg (N := 46) ?hd (xs := ([] : List Int)) (inner := []) (ok := fun _ => True) (okp := fun _ => True) ?hr ?hp (fun _ hk => hk) trivial (Below.refl _ _) (Nat.le_refl _) (by simp) ?_; (case hd => rfl); (case hg => rfl); (case hr => first | (go_simp; done) | (go_simp; rfl)); (case hp => exact (Reps.none _ _)); intro v169 w44 ho45 hb hg_ hnew_; clear hg_ hnew_; (first | rw [← Ny168.out] at ho45 | (simp only [Int.reduceToNat] at ho45; rw [← Ny168.out] at ho45)); have HO170 := am (Kd.R_lower (Kd.R_new' ho45 (Kd.R_lt (ro HO_3.out))) (below_size bw)); replace HO_3 := am (Kd.R_elder' (ro HO_3.out) (Kd.R_base ho45) hb); replace HB := am (below_step bw hb); clear hb ho45; have q46 : (x5_2 : Int) ≤ ((x3_1.length : Int) : Int) := of_decide_eq_true (by first | (with_reducible assumption) | assumption); obtain ⟨i046, hi046, _, hsz46, _⟩ := info_parts info3; have hroom46 : x3_1.length ≤ co5 := (Kd.R_reads' HO_3.out).2.1; have hC46 : Kd.C (Kd.int .i64) _ Ao5 x3_1.length x3_1 := (Kd.R_reads' HO_3.out).2.2; have q046 : (0 : Int) ≤ (x5_2 : Int) := of_decide_eq_true (by first | (with_reducible assumption) | assumption); have hcut46 := cut_from (P := Tryd.prog) 24 3 .i64 Tryd.underlying24 hi046 1 hsz46 Ao5 x3_1.length co5 x5_2 q046 q46; have hr46 := Kd.C_drop (m := (x5_2 : Int).toNat) (c := co5) hC46 (by omega) hroom46; obtain ⟨A46, hA46⟩ : ∃ A1, A1 = (if co5 = (x5_2 : Int).toNat then Ao5 else (Ao5 : Option Addr).map (·.add ((x5_2 : Int).toNat * 1))) := ⟨_, rfl⟩; obtain ⟨c46, hc46⟩ : ∃ c1, c1 = co5 - (x5_2 : Int).toNat := ⟨_, rfl⟩; have hy46 : y171.length = x3_1.length - (x5_2 : Int).toNat := (by rw [Ny171.out, List.length_drop] <;> omega); rw [show (x3_1).drop (x5_2 : Int).toNat = y171 from Ny171.out.symm] at hr46; replace hr46 : Kd.C (Kd.int .i64) _ A46 y171.length y171 := (by rw [hA46]; exact hr46); rw [← hy46, ← hA46, ← hc46] at hcut46; have HR174 := am hr46; have HC174 := am (show y171.length ≤ c46 from by rw [hy46, hc46]; exact Nat.sub_le_sub_right hroom46 _); clear hr46 hC46 hroom46 hi046 hsz46 hc46; have KY46 := am hy46; have KA46 := am hA46; clear hy46 hA46; have KL46 := am (show (x5_2 : Int).toNat ≤ x3_1.length from by omega); replace q46 := eq_true q46) | ((with_reducible refine gate_builtin (b := .append) (xs := #[.tmp 46, .tmp 49]) rfl ?_); at_builtin; refine Kd.R_append_rows (Kd.int .i64) (w0 := w) w.heap.size rfl (.tmp 46) (.tmp 49) 24 3 (.int .i64 0) 8 rfl Tryd.underlying24 info3 rfl (by decide) (by omega) v169 y168 y171 _ _ _ (fun k_ => nb k_ Ao5 x3_1 co5) (fun _ => False) rfl rfl ?aO ?aR (fun _ _ h => h) (fun _ h => h.elim) ?aF ?aB ?aS ?aL ?_; (case aR => exact co HR174.out); (case aB => exact bw); (case aF => exact (fun k_ hk => Kd.fresh' (Kd.R_lt (ro HO_3.out)) k_ hk)); (case aO => exact (by (with_reducible repeat (first | apply Kd.R_alloc | apply Kd.R_drewN | apply Kd.R_drew)); exact Kd.R_mono HO170.out (fun _ hk => hk.2))); (case aS => exact (below_size bw)); (case aL => have := LMc36.out; omega); intro v176 w47 ho hb hg hat; rw [← Ny175.out] at ho; replace HB := am (hb); replace HR174 := am ((show Kd.C (Kd.int .i64) w47 A46 y171.length y171 from by rw [Ny171.out, KA46.out]; exact Kd.C_drop (m := (x5_2 : Int).toNat) (c := co5) ((Kd.R_reads' (Kd.R_after (ok := (fun _ => True)) (ro HO_3.out) hg hat)).2.2) KL46.out ((Kd.R_reads' (Kd.R_after (ok := (fun _ => True)) (ro HO_3.out) hg hat)).2.1))); replace HO_3 := am (Kd.R_after (ok := (fun _ => True)) (ro HO_3.out) hg hat); have HO177 := am (ho); clear HO170 ho hb hg hat))
      replace HO_3 := am (Kd.R_drew HO_3.out)
      replace HO177 := am (Kd.R_drew HO177.out)
      replace HR174 := am (Kd.C_drew HR174.out)
      replace HB := am (below_drew1 HB.out)
      have q49 : (x5_2 : Int) ≤ ((x3_1.length : Int) : Int) := of_decide_eq_true (by first | (with_reducible assumption) | assumption)
      obtain ⟨i049, hi049, _, hsz49, _⟩ := info_parts info3
      have hcut49 := cut_to (P := Tryd.prog) 24 3 .i64 Tryd.underlying24 hi049 Ao5 x3_1.length co5 x5_2 (of_decide_eq_true (by first | (with_reducible assumption) | assumption)) q49 (Kd.R_reads' HO_3.out).2.1
      have hr49 := Kd.R_take (m := (x5_2 : Int).toNat) HO_3.out (by omega)
      have hy49 : y178.length = (x5_2 : Int).toNat := (by rw [Ny178.out, List.length_take]; omega)
      rw [← Ny178.out] at hr49
      rw [← hy49] at hr49 hcut49
      clear hy49 hi049 hsz49 HO_3
      have HO180 := am hr49
      clear hr49
      replace q49 := eq_true q49
      obtain ⟨⟨ad181, e181, hx181_0⟩, p181, q181⟩ := pq (Kd.at_int HR0.out x4_1)
      have hw181_0 := hx181_0
      cases e181
      replace hx181_0 := hw HB hx181_0
      refine start_ (n := 12) (S := fun w' => w'.cell? (ad181.add (x4_1).toNat) = some (.int .i64 (rd l0 x4_1))) (ds := []) (yz 12 0) (by kernel_rfl) rfl rfl (((HB.out.cell (World.block_lt_of_cell? w _ hw181_0)).trans hw181_0)) (fun hHeld => ?_); refine with_tabW spec_SortList.tab10 spec_SortList.bits10 (fun HT_ HW_ => ?_)
      generalize w47.drew = w48 at HO_3 HO177 HR174 HB HO180 hx181_0 hHeld ⊢
      refine pa 0 (some 51) (yz 12 1) HT_ ?_
      refine pa 1 (some 52) (yz 12 3) HT_ ?_
      refine pa 2 (some 53) (yz 12 7) HT_ ?_
      refine pa 3 (some 54) (yz 12 15) HT_ ?_
      refine pa 4 (some 55) (yz 12 31) HT_ ?_
      refine pa 5 (some 56) (yz 12 63) HT_ ?_
      refine pa 9 (some 60) (yz 12 575) HT_ ?_
      refine tK 6 (some 57) (yz 12 639) HT_ HW_ hHeld ?_
      refine oa 7 (some 58) (yz 12 767) HT_ (fun K hK => ?_)
      refine value_ (w1 := ?_) (v := ?_) (by rfl) rfl ?_ ?_
      rotate_left 2
      ·go_simp
       constructor
       ·rfl
       rfl
      refine hK.out _ _ ((World.cell?_alloc_lt _ _ _ (World.block_lt_of_cell? _ _ (((HB.out.cell (World.block_lt_of_cell? w _ hw181_0)).trans hw181_0)))).trans (((HB.out.cell (World.block_lt_of_cell? w _ hw181_0)).trans hw181_0))) (fun hHeld => ?_)
      clear hK K
      refine nm (some 58) ?_
      refine oa 8 (some 59) (yz 12 1023) HT_ (fun K hK => ?_)
      refine Kd.R_append_step (Kd.int .i64) (w0 := w) w.heap.size (by rfl) (.tmp 53) (.tmp 58) 24 3 (.int .i64 0) 8 rfl Tryd.underlying24 info3 rfl (by decide) (by omega) (.slice Ao5 y178.length co5) y178 (rd l0 x4_1) [.int .i64 (rd l0 x4_1)] (fun k_ => some k_ ≠ (v176 : Value).ownBlock) (fun _ => False) rfl rfl ?aP (fun _ hk => hk.elim) ?aF ?aO ?aB ?aS ?aL ?_
      (case aP => exact rfl)
      (case aB => exact bw)
      (case aF => exact (fun k_ hk => Kd.fresh' (Kd.R_lt (ro HO177.out)) k_ hk))
      (case aO => exact (by (with_reducible repeat (first | apply Kd.R_alloc | apply Kd.R_drewN | apply Kd.R_drew)); exact Kd.R_mono HO180.out (fun _ hk => hk.2)))
      (case aS => exact (below_size bw))
      (case aL => have := LMc40.out; omega)
      intro v183 w50 ho hb hg hat
      rw [← Ny182.out] at ho
      replace HO177 := am (Kd.R_after (ok := (fun _ => True)) (by (with_reducible repeat (first | apply Kd.R_alloc | apply Kd.R_drewN | apply Kd.R_drew)); exact Kd.R_mono HO177.out (fun _ hk => ⟨trivial, by first | exact hk | exact (by intro a n m c x h; cases a <;> exact h : ∀ (a : Option Addr) (n m c x : Nat), some x ≠ (Value.slice a n c).ownBlock → some x ≠ (Value.slice a m c).ownBlock) _ _ _ _ _ hk⟩)) hg hat)
      replace HB := am (hb)
      have HO184 := am (ho)
      clear HO180 ho hb hg hat
      obtain ⟨Ao52, co52, eo52⟩ := Kd.R_slice HO177.out
      (first | subst eo52 | (injection eo52 with f1_ f2_ f3_; have f4_ := f1_.symm; have f5_ := f3_.symm; clear f1_ f2_ f3_; subst f4_; subst f5_))
      refine hK.out _ _ (((HB.out.cell (World.block_lt_of_cell? w _ hw181_0)).trans hw181_0)) (fun hHeld => ?_)
      clear hK K
      refine nm (some 59) ?_
      refine oa 10 (some 61) (yz 12 2047) HT_ (fun K hK => ?_)
      refine Kd.R_append_rows_step (Kd.int .i64) (w0 := w) w.heap.size (by rfl) (.tmp 59) (.tmp 60) 24 3 (.int .i64 0) 8 rfl Tryd.underlying24 info3 rfl (by decide) (by omega) v183 y182 y175 _ _ _ (fun k_ => nb k_ Ao52 y175 co52) (fun _ => False) rfl rfl ?aO ?aR (fun _ _ h => h) (fun _ h => h.elim) ?aF ?aB ?aS ?aL ?_
      (case aR => exact co (Kd.R_reads' HO177.out).2.2)
      (case aB => exact bw)
      (case aF => exact (fun k_ hk => Kd.fresh' (Kd.R_lt (ro HO177.out)) k_ hk))
      (case aO => exact (ro HO184.out))
      (case aS => exact (below_size bw))
      (case aL => have := LMc41.out; omega)
      intro v186 w51 ho hb hg hat
      rw [← Ny185.out] at ho
      replace HO177 := am (Kd.R_after (ok := (fun _ => True)) (ro HO177.out) hg hat)
      replace HB := am (hb)
      have HO187 := am (ho)
      clear HO184 ho hb hg hat
      refine hK.out _ _ (((HB.out.cell (World.block_lt_of_cell? w _ hw181_0)).trans hw181_0)) (fun hHeld => ?_)
      clear hK K
      refine nm (some 61) ?_
      refine pa 11 (some 3) (yz 12 4095) HT_ ?_
      refine done_ (done_of HT_.out (by kernel_rfl)) ?_
      try go_wp2
      go_roundg k2
      case measure => have := HK1.out; have := HK2.out; omega
      case rel => exact ⟨(y185), (wrap64 (x4_1 + 1)), rr, H', ⟨by have := HK1.out; have := HK2.out; omega⟩, ⟨by (with_reducible repeat (first | apply Kd.R_alloc | apply Kd.R_drewN | apply Kd.R_drew)); exact Kd.R_mono HO187.out (fun _ hk => trivial)⟩, ⟨bw⟩⟩
   obtain rfl := Option.some.inj H
   go_wp2
   go_ret
   exact ⟨_, re, ro HO_3.out, bw⟩


/-! ### spec_l3Table: function 58 -/
mutual
def spec_l3Table.l0 : Nat → List Int → Int → List Bool → Int → Option (List Bool)
 | 0, _, _, _, _ => none
 | k + 1, x0, x1, x5, x6 => if x6 ≤ x1 then (spec_l3Table.l1 k x0 x1 x5 x6 0) else (some x5)
def spec_l3Table.l1 : Nat → List Int → Int → List Bool → Int → Int → Option (List Bool)
 | 0, _, _, _, _, _ => none
 | k + 1, x0, x1, x5, x6, x7 => if x7 < (x0.length : Int) then (if 0 ≤ x7 then (if x6 ≥ (rd x0 x7) then (if 0 ≤ (wrap64 (x6 - (rd x0 x7))) then (if (wrap64 (x6 - (rd x0 x7))) < (x5.length : Int) then (if rdOf false x5 (wrap64 (x6 - (rd x0 x7))) = true then (if 0 ≤ x6 then (if x6 < (x5.length : Int) then (spec_l3Table.l1 k x0 x1 (x5.set (x6 : Int).toNat true) x6 (wrap64 (x7 + 1))) else (none)) else (none)) else (spec_l3Table.l1 k x0 x1 x5 x6 (wrap64 (x7 + 1)))) else (none)) else (none)) else (spec_l3Table.l1 k x0 x1 x5 x6 (wrap64 (x7 + 1)))) else (none)) else (spec_l3Table.l0 k x0 x1 x5 (wrap64 (x6 + 1)))
end
def spec_l3Table.f (k : Nat) (l0 : List Int) (a1 : Int) : Option (List Bool) := if 0 ≤ (wrap64 (a1 + 1)) then (if (wrap64 (a1 + 1) : Int).toNat ≤ 281474976710656 then ((some (List.replicate (wrap64 (a1 + 1) : Int).toNat false : List Bool)).bind fun y188 => (if 0 < (y188.length : Int) then (spec_l3Table.l0 k l0 a1 (y188.set (0 : Int).toNat true) 1) else (none))) else (none)) else (none)
set_option maxHeartbeats 8000000 in
set_option maxRecDepth 100000 in
theorem spec_l3Table.calls (k : Nat) (A0 : Option Addr) (c0 : Nat) (l0 : List Int) (a1 : Int) (r : List Bool) (w : World) (hr0 : Kd.C (Kd.int .i64) w A0 l0.length l0) (hc0 : l0.length ≤ c0) (h : spec_l3Table.f k l0 a1 = some r) :
  Calls Tryd.prog 58 #[.slice A0 l0.length c0, .int .i64 a1] w fun e w' => ∃ v0_ : Value, e = .returned (v0_) ∧ Kd.R Kd.bool 4 w' w.heap.size (fun _ => True) v0_ r ∧ Below w.heap.size w w' := by
 have HR0 := am hr0
 have HC0 := am hc0
 clear hr0 hc0
 have HB := am (Below.refl w.heap.size w)
 have H : (if 0 ≤ (wrap64 (a1 + 1)) then (if (wrap64 (a1 + 1) : Int).toNat ≤ 281474976710656 then ((some (List.replicate (wrap64 (a1 + 1) : Int).toNat false : List Bool)).bind fun y188 => (if 0 < (y188.length : Int) then (spec_l3Table.l0 k l0 a1 (y188.set (0 : Int).toNat true) 1) else (none))) else (none)) else (none)) = some r := h
 clear h
 obtain ⟨ji3, hji3⟩ : ∃ j_ : Int, (wrap64 (a1 + 1)) = j_ := ⟨_, rfl⟩
 replace H : (if 0 ≤ (ji3) then (if (ji3 : Int).toNat ≤ 281474976710656 then ((some (List.replicate (ji3 : Int).toNat false : List Bool)).bind fun y188 => (if 0 < (y188.length : Int) then (spec_l3Table.l0 k l0 a1 (y188.set (0 : Int).toNat true) 1) else (none))) else (none)) else (none)) = some r := by first | (rw [hji3] at H; exact H) | (simp only [hji3] at H ⊢; exact H)
 have hji3w : (IntKind.i64.wrap (a1 + 1)) = ji3 := (i64_w _).trans hji3
 replace H := gp H; obtain ⟨c4, H⟩ := H
 have c4b0 := eq_true c4
 have c4b1 : decide (0 ≤ (ji3)) = true := decide_eq_true c4
 clear c4
 replace H := gp H; obtain ⟨c5, H⟩ := H
 have c5b0 := eq_true c5
 have c5b1 : decide ((ji3 : Int).toNat ≤ 281474976710656) = true := decide_eq_true c5
 clear c5
 obtain ⟨y188, hy188⟩ : ∃ y_ : List Bool, y_ = (List.replicate (ji3 : Int).toNat false) := ⟨_, rfl⟩
 replace H : (if 0 < (y188.length : Int) then (spec_l3Table.l0 k l0 a1 (y188.set (0 : Int).toNat true) 1) else (none)) = some r := by first | (rw [hy188]; with_reducible first | exact H | exact bs H) | (with_reducible first | exact bs H | exact H) | (rw [hy188]; exact H) | exact H
 have Ny188 := am hy188
 clear hy188
 replace H := gp H; obtain ⟨c6, H⟩ := H
 have c6b0 : decide (0 < (y188.length : Int)) = true := decide_eq_true c6
 have c6b1 : decide (0 < y188.length) = true := decide_eq_true (by omega)
 clear c6
 obtain ⟨y191, hy191⟩ : ∃ y_ : List Bool, y_ = (y188.set (0 : Int).toNat true) := ⟨_, rfl⟩
 replace H : (spec_l3Table.l0 k l0 a1 y191 1) = some r := by first | (rw [hy191]; with_reducible first | exact H | exact bs H) | (with_reducible first | exact bs H | exact H) | (rw [hy191]; exact H) | exact H
 have Ny191 := am hy191
 clear hy191
 have H' := am H
 clear H
 go_enter Tryd.func58, Tryd.ntmps58
 go_wp2_with (first | ((with_reducible refine gate_dst (N := 10) rfl ?_); refine Kd.R_make Kd.bool _ 4 rfl (N := 10) rfl 66 _ _ rfl ji3 rfl rfl Tryd.underlying66 (.bool false) 1 info4 rfl (by decide) (by omega) false (ok := fun _ => True) (okp := fun _ => True) rfl (fun _ hk => hk) trivial (of_decide_eq_true (by first | (with_reducible assumption) | assumption)) (Nat.le_trans (Nat.mul_le_mul_right _ (of_decide_eq_true (by first | (with_reducible assumption) | assumption) : ji3.toNat ≤ 281474976710656)) (by omega)) (Below.refl _ _) (Nat.le_refl _) ?_; intro v189 w8 ho9 hb hg_ hnew_; clear hg_ hnew_; (first | rw [← Ny188.out] at ho9 | (simp only [Int.reduceToNat] at ho9; rw [← Ny188.out] at ho9)); have HO190 := am (Kd.R_lower ho9 (below_size bw)); replace HB := am (below_step bw hb); clear hb ho9; have p7 : 0 ≤ (0 : Int) := (by omega); have q7 : (0 : Int) < ((y188.length : Int) : Int) := of_decide_eq_true (by first | (with_reducible assumption) | assumption); have qi7 : (0 < y188.length) = True := eq_true (by omega); obtain ⟨go7, co7, eo7, gb7, gl7, cl7, HG7⟩ := Kd.R_form HO190.out (by omega); (first | cases eo7 | (injection eo7 with ea_ en_ ec_; (first | subst ea_ | (injection ea_ with ea_; subst ea_)); subst ec_; clear en_)); have GB7 := am gb7; have GG7 := am HG7; clear gb7 gl7 HG7; obtain ⟨hx7_0, hf7_0⟩ := Kd.R_celln false HO190.out (0 : Int) p7 q7; (try rw [show ((0 : Int)).toNat = 0 from rfl] at hx7_0); (try simp only [Nat.reduceMul, Nat.zero_mul, Nat.zero_add, Nat.reduceAdd] at hx7_0); (try rw [show ((0 : Int)).toNat = 0 from rfl] at hf7_0); (try simp only [Nat.reduceMul, Nat.zero_mul, Nat.zero_add, Nat.reduceAdd] at hf7_0); replace p7 := eq_true p7; replace q7 := eq_true q7; obtain ⟨hy10_, hz10_⟩ := Kd.R_celln false HO190.out (0 : Int) (by omega) (of_decide_eq_true (by first | (with_reducible assumption) | assumption)); (try simp only [Int.reduceToNat, Int.toNat_zero, Int.toNat_ofNat, Nat.reduceMul, Nat.zero_mul, Nat.zero_add] at hy10_ hz10_); (try rw [show ((0 : Int)).toNat = 0 from rfl] at hy10_); (try rw [show ((0 : Int)).toNat = 0 from rfl] at hz10_); have HP10 := Kd.R_putg HO190.out (0 : Int) true) | ((with_reducible refine gate_store (t := 4) (p := 12) rfl ?_); refine store_event (t := 4) (p := 12) (v := ?vo_w11) (w1 := (w8.setCell ⟨go7, (0 : Int).toNat, none⟩ (.bool true))) ?hg ?ho ?hn ?hr ?_; (case ho => rfl); (case hg => rfl); (case hn => rfl); (case hr => first | (go_simp; done) | (go_simp; rfl)); intro w11 hw; have hg : w8.grownBy w11 (some go7) := (by rw [hw]; exact HP10.2); have hp_ : Kd.R Kd.bool 4 w11 w.heap.size (fun _ => True) (.slice (some ⟨go7, 0, none⟩) y188.length co7) y191 := (by rw [hw, Ny191.out]; exact HP10.1); clear HP10; replace HO190 := am (hp_); replace HB := am ((by rw [hw]; exact below_set (HB.out) GB7.out : Below w.heap.size w w11)); clear hg hw hp_))
 go_loopg [6] k (fun kq v6 w' => ∃ (x5_1 : List Bool) (x6_1 : Int), v6 = .int .i64 x6_1 ∧ Aside0 (spec_l3Table.l0 kq l0 a1 x5_1 x6_1 = some r) ∧ Aside0 (kq ≤ k) ∧ Aside0 (Kd.R Kd.bool 4 w' w.heap.size (fun _ => True) (.slice (some ⟨go7, 0, none⟩) y188.length co7) x5_1) ∧ Aside0 (Below w.heap.size w w'))
 case atStart => exact ⟨(y191), (1), rr, H', ⟨Nat.le_refl _⟩, ⟨ro HO190.out⟩, ⟨bw⟩⟩
 case round =>
  clear H'
  try clear c4; try clear c4b0; try clear c4b1; try clear c5; try clear c5b0; try clear c5b1; try clear c6; try clear c6b0; try clear c6b1; try clear p7; try clear q7; try clear qi7; try clear hx7_0
  obtain ⟨x5_1, x6_1, rfl, HA, HK1, HO_5, HB⟩ := hrel
  have hl5_1 := (Kd.R_reads' HO_5.out).1
  rw [hl5_1] at HO_5
  (try simp only [hl5_1])
  cases gk with
  | zero => exact absurd HA.out (by simp [spec_l3Table.l0])
  | succ k1 =>
   have H := HA.out
   clear HA
   simp only [spec_l3Table.l0] at H
   replace H := gi H; obtain ⟨c12b0, H⟩ | ⟨c12b0, H⟩ := H
   ·have H' := am H
    clear H
    go_wp2
    go_loopg [7] k1 (fun kq v7 w' => ∃ (x5_2 : List Bool) (x7_2 : Int), v7 = .int .i64 x7_2 ∧ Aside0 (spec_l3Table.l1 kq l0 a1 x5_2 x6_1 x7_2 = some r) ∧ Aside0 (kq ≤ k1) ∧ Aside0 (Kd.R Kd.bool 4 w' w.heap.size (fun _ => True) (.slice (some ⟨go7, 0, none⟩) x5_1.length co7) x5_2) ∧ Aside0 (Below w.heap.size w w'))
    case atStart => exact ⟨(x5_1), (0), rr, H', ⟨Nat.le_refl _⟩, ⟨by (try simp only [hl5_1]); (with_reducible repeat (first | apply Kd.R_alloc | apply Kd.R_drewN | apply Kd.R_drew)); exact HO_5.out⟩, ⟨bw⟩⟩
    case round =>
     clear H'
     try clear c4; try clear c4b0; try clear c4b1; try clear c5; try clear c5b0; try clear c5b1; try clear c6; try clear c6b0; try clear c6b1; try clear p7; try clear q7; try clear qi7; try clear c12b0; try clear hx7_0
     obtain ⟨x5_2, x7_2, rfl, HA, HK2, HO_5, HB⟩ := hrel
     have hl5_2 := (Kd.R_reads' HO_5.out).1
     rw [hl5_2] at HO_5
     (try simp only [hl5_2])
     cases gk with
     | zero => exact absurd HA.out (by simp [spec_l3Table.l1])
     | succ k2 =>
      have H := HA.out
      clear HA
      simp only [spec_l3Table.l1] at H
      replace H := gi H; obtain ⟨c13b0, H⟩ | ⟨c13b0, H⟩ := H
      ·replace H := gd H; obtain ⟨c14b0, H⟩ := H
       replace H := gj H; obtain ⟨c15, H⟩ | ⟨c15, H⟩ := H
       ·have c15b0 : decide ((rd l0 x7_2) ≤ x6_1) = true := decide_eq_true c15
        clear c15
        obtain ⟨ji16, hji16⟩ : ∃ j_ : Int, (wrap64 (x6_1 - (rd l0 x7_2))) = j_ := ⟨_, rfl⟩
        replace H : (if 0 ≤ (ji16) then (if (ji16) < (x5_2.length : Int) then (if rdOf false x5_2 (ji16) = true then (if 0 ≤ x6_1 then (if x6_1 < (x5_2.length : Int) then (spec_l3Table.l1 k2 l0 a1 (x5_2.set (x6_1 : Int).toNat true) x6_1 (wrap64 (x7_2 + 1))) else (none)) else (none)) else (spec_l3Table.l1 k2 l0 a1 x5_2 x6_1 (wrap64 (x7_2 + 1)))) else (none)) else (none)) = some r := by first | (rw [hji16] at H; exact H) | (simp only [hji16] at H ⊢; exact H)
        have hji16w : (IntKind.i64.wrap (x6_1 - (rd l0 x7_2))) = ji16 := (i64_w _).trans hji16
        replace H := gd H; obtain ⟨c17b0, H⟩ := H
        by_cases c18 : (ji16) < (x5_2.length : Int)
        rotate_left
        ·rw [if_neg c18] at H
         exact absurd H (by simp)
        rw [if_pos c18] at H
        have c18b0 : decide ((ji16) < (x5_2.length : Int)) = true := decide_eq_true c18
        (try simp only [hl5_1, hl5_2] at c18b0)
        clear c18
        obtain ⟨bq19, hbq19⟩ : ∃ b_ : Bool, b_ = (rdOf false x5_2 (ji16)) := ⟨_, rfl⟩
        replace H : (if bq19 = true then (if 0 ≤ x6_1 then (if x6_1 < (x5_2.length : Int) then (spec_l3Table.l1 k2 l0 a1 (x5_2.set (x6_1 : Int).toNat true) x6_1 (wrap64 (x7_2 + 1))) else (none)) else (none)) else (spec_l3Table.l1 k2 l0 a1 x5_2 x6_1 (wrap64 (x7_2 + 1)))) = some r := by rw [← hbq19] at H; exact H
        have Nbq19 := am hbq19
        clear hbq19
        replace H := gb H; obtain ⟨rfl, H⟩ | ⟨rfl, H⟩ := H
        ·replace H := gd H; obtain ⟨c21b0, H⟩ := H
         by_cases c22 : x6_1 < (x5_2.length : Int)
         rotate_left
         ·rw [if_neg c22] at H
          exact absurd H (by simp)
         rw [if_pos c22] at H
         have c22b0 : decide (x6_1 < (x5_2.length : Int)) = true := decide_eq_true c22
         (try simp only [hl5_1, hl5_2] at c22b0)
         clear c22
         obtain ⟨y195, hy195⟩ : ∃ y_ : List Bool, y_ = (x5_2.set (x6_1 : Int).toNat true) := ⟨_, rfl⟩
         replace H : (spec_l3Table.l1 k2 l0 a1 y195 x6_1 (wrap64 (x7_2 + 1))) = some r := by first | (rw [hy195]; with_reducible first | exact H | exact bs H) | (with_reducible first | exact bs H | exact H) | (rw [hy195]; exact H) | exact H
         have Ny195 := am hy195
         clear hy195
         have H' := am H
         clear H
         obtain ⟨⟨ad192, e192, hx192_0⟩, p192, q192⟩ := pq (Kd.at_int HR0.out x7_2)
         cases e192
         replace hx192_0 := hw HB hx192_0
         obtain ⟨⟨ad193, e193, hx193_0⟩, p193, q193⟩ := pq (Kd.at_int HR0.out x7_2)
         obtain rfl : ad192 = ad193 := (by injection e193)
         replace hx193_0 := hw HB hx193_0
         obtain ⟨⟨ad194, e194, hx194_0⟩, p194, q194⟩ := pq (Kd.at_bool (Kd.R_reads' HO_5.out).2.2 (ji16))
         (try rw [← Nbq19.out] at hx194_0)
         obtain rfl : (⟨go7, 0, none⟩ : Addr) = ad194 := (by injection e194)
         (first | simp only [add_plain] at hx194_0 | simp only [add_at] at hx194_0 | simp only [Addr.add, Nat.zero_add] at hx194_0 | skip)
         have p23 : 0 ≤ (x6_1 : Int) := of_decide_eq_true (by first | (with_reducible assumption) | assumption)
         have q23 : (x6_1 : Int) < ((x5_2.length : Int) : Int) := of_decide_eq_true (by first | (with_reducible assumption) | assumption)
         obtain ⟨hx23_0, hf23_0⟩ := Kd.R_celln false HO_5.out (x6_1 : Int) p23 q23
         replace p23 := eq_true p23
         replace q23 := eq_true q23
         have HP24 := Kd.R_putg HO_5.out (x6_1 : Int) true
         go_wp2_with (first | ((with_reducible refine gate_store (t := 4) (p := 43) rfl ?_); refine store_event (t := 4) (p := 43) (v := ?vo_w25) (w1 := (wr.setCell ⟨go7, (x6_1 : Int).toNat, none⟩ (.bool true))) ?hg ?ho ?hn ?hr ?_; (case ho => rfl); (case hg => rfl); (case hn => rfl); (case hr => first | (go_simp; done) | (go_simp; rfl)); intro w25 hw; have hg : wr.grownBy w25 (some go7) := (by rw [hw]; exact HP24.2); have hp_ : Kd.R Kd.bool 4 w25 w.heap.size (fun _ => True) (.slice (some ⟨go7, 0, none⟩) x5_2.length co7) y195 := (by rw [hw, Ny195.out]; exact HP24.1); clear HP24; replace HO_5 := am (hp_); replace HB := am ((by rw [hw]; exact below_set (HB.out) GB7.out : Below w.heap.size w w25)); clear hg hw hp_))
         (try simp only [← hl5_2])
         go_roundg k2
         case measure => have := HK1.out; have := HK2.out; omega
         case rel => exact ⟨(y195), (wrap64 (x7_2 + 1)), rr, H', ⟨by have := HK1.out; have := HK2.out; omega⟩, ⟨by (try simp only [hl5_1]); (try simp only [hl5_2]); (with_reducible repeat (first | apply Kd.R_alloc | apply Kd.R_drewN | apply Kd.R_drew)); exact HO_5.out⟩, ⟨bw⟩⟩
        have H' := am H
        clear H
        obtain ⟨⟨ad192, e192, hx192_0⟩, p192, q192⟩ := pq (Kd.at_int HR0.out x7_2)
        cases e192
        replace hx192_0 := hw HB hx192_0
        obtain ⟨⟨ad193, e193, hx193_0⟩, p193, q193⟩ := pq (Kd.at_int HR0.out x7_2)
        obtain rfl : ad192 = ad193 := (by injection e193)
        replace hx193_0 := hw HB hx193_0
        obtain ⟨⟨ad194, e194, hx194_0⟩, p194, q194⟩ := pq (Kd.at_bool (Kd.R_reads' HO_5.out).2.2 (ji16))
        (try rw [← Nbq19.out] at hx194_0)
        obtain rfl : (⟨go7, 0, none⟩ : Addr) = ad194 := (by injection e194)
        (first | simp only [add_plain] at hx194_0 | simp only [add_at] at hx194_0 | simp only [Addr.add, Nat.zero_add] at hx194_0 | skip)
        go_wp2
        (try simp only [← hl5_2])
        go_roundg k2
        case measure => have := HK1.out; have := HK2.out; omega
        case rel => exact ⟨(x5_2), (wrap64 (x7_2 + 1)), rr, H', ⟨by have := HK1.out; have := HK2.out; omega⟩, ⟨by (try simp only [hl5_1]); (try simp only [hl5_2]); (with_reducible repeat (first | apply Kd.R_alloc | apply Kd.R_drewN | apply Kd.R_drew)); exact HO_5.out⟩, ⟨bw⟩⟩
       have c15b0 : decide ((rd l0 x7_2) ≤ x6_1) = false := decide_eq_false c15
       clear c15
       have H' := am H
       clear H
       obtain ⟨⟨ad192, e192, hx192_0⟩, p192, q192⟩ := pq (Kd.at_int HR0.out x7_2)
       cases e192
       replace hx192_0 := hw HB hx192_0
       go_wp2
       (try simp only [← hl5_2])
       go_roundg k2
       case measure => have := HK1.out; have := HK2.out; omega
       case rel => exact ⟨(x5_2), (wrap64 (x7_2 + 1)), rr, H', ⟨by have := HK1.out; have := HK2.out; omega⟩, ⟨by (try simp only [hl5_1]); (try simp only [hl5_2]); (with_reducible repeat (first | apply Kd.R_alloc | apply Kd.R_drewN | apply Kd.R_drew)); exact HO_5.out⟩, ⟨bw⟩⟩
      have H' := am H
      clear H
      go_wp2
      (try simp only [← hl5_1, ← hl5_2])
      go_roundg k2
      case measure => have := HK1.out; have := HK2.out; omega
      case rel => exact ⟨(x5_2), (wrap64 (x6_1 + 1)), rr, H', ⟨by have := HK1.out; have := HK2.out; omega⟩, ⟨by (try simp only [hl5_1]); (try simp only [hl5_2]); (with_reducible repeat (first | apply Kd.R_alloc | apply Kd.R_drewN | apply Kd.R_drew)); exact HO_5.out⟩, ⟨bw⟩⟩
   obtain rfl := Option.some.inj H
   go_wp2
   go_ret
   exact ⟨_, by first | rfl | (simp [errW_none, errW_some] <;> rfl) | (simp only [← hji3]; first | rfl | (simp [errW_none, errW_some] <;> rfl)) | (simp [*, errW_none, errW_some] <;> rfl), ro HO_5.out, bw⟩

end Go.Proofs.YtbbehmbpoilffaaDoor.C
