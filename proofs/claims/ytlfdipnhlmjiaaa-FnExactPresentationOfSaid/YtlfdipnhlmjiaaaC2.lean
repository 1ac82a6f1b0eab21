/- Contracts of functions of the program: spec_SortList, spec_l3Minimal, spec_l3Ends. -/
import Derived.Test.YtlfdipnhlmjiaaaC0
import Derived.Test.YtlfdipnhlmjiaaaC1
namespace Go.Proofs.Ytlfdipnhlmjiaaa.C
open Go.RowKit Go.Proofs.YtlfdipnhlmjiaaaW.PrintWords Go.Proofs.YtlfdipnhlmjiaaaW.PrintLast Go.Proofs.YtlfdipnhlmjiaaaW.PrintMore
attribute [local go_sem] max2_int min2_int max_two min_two max_three min_three max_four min_four
set_option linter.unusedVariables false
set_option linter.unusedSimpArgs false

/-! ### spec_SortList: function 143 -/
mutual
def spec_SortList.l0 : Nat → List Int → List Int → Int → Option (List Int)
 | 0, _, _, _ => none
 | k + 1, x0, x3, x4 => if x4 < (x0.length : Int) then (spec_SortList.l1 k x0 x3 x4 (x3.length : Int)) else (some x3)
def spec_SortList.l1 : Nat → List Int → List Int → Int → Int → Option (List Int)
 | 0, _, _, _, _ => none
 | k + 1, x0, x3, x4, x5 => if x5 > 0 then (if 0 ≤ (wrap64 (x5 - 1)) then (if (wrap64 (x5 - 1)) < (x3.length : Int) then (if 0 ≤ x4 then (if x4 < (x0.length : Int) then (if (rd x3 (wrap64 (x5 - 1))) > (rd x0 x4) then (spec_SortList.l1 k x0 x3 x4 (wrap64 (x5 - 1))) else (if (rd x3 (wrap64 (x5 - 1))) = (rd x0 x4) then (spec_SortList.l0 k x0 x3 (wrap64 (x4 + 1))) else ((some (([] : List Int) : List Int)).bind fun y152 => (if 0 ≤ x5 then (if x5 ≤ (x3.length : Int) then ((some (x3.drop (x5 : Int).toNat : List Int)).bind fun y155 => (if y152.length + y155.length < 17592186044416 then ((some (y152 ++ y155 : List Int)).bind fun y159 => ((some (x3.take (x5 : Int).toNat : List Int)).bind fun y162 => (if y162.length < 17592186044416 then ((some (y162 ++ [rd x0 x4] : List Int)).bind fun y166 => (if y166.length + y159.length < 17592186044416 then (spec_SortList.l0 k x0 (y166 ++ y159) (wrap64 (x4 + 1))) else (none))) else (none)))) else (none))) else (none)) else (none))))) else (none)) else (none)) else (none)) else (none)) else ((some (([] : List Int) : List Int)).bind fun y172 => (if 0 ≤ x5 then (if x5 ≤ (x3.length : Int) then ((some (x3.drop (x5 : Int).toNat : List Int)).bind fun y175 => (if y172.length + y175.length < 17592186044416 then ((some (y172 ++ y175 : List Int)).bind fun y179 => ((some (x3.take (x5 : Int).toNat : List Int)).bind fun y182 => (if 0 ≤ x4 then (if x4 < (x0.length : Int) then (if y182.length < 17592186044416 then ((some (y182 ++ [rd x0 x4] : List Int)).bind fun y186 => (if y186.length + y179.length < 17592186044416 then (spec_SortList.l0 k x0 (y186 ++ y179) (wrap64 (x4 + 1))) else (none))) else (none)) else (none)) else (none)))) else (none))) else (none)) else (none)))
end
def spec_SortList.f (k : Nat) (l0 : List Int) : Option (List Int) := spec_SortList.l0 k l0 (([] : List Int)) 0
def spec_SortList.T6 : Bool × List (List Nat × List Nat) := (true, [([], []), ([0], [0]), ([1], [1]), ([2], [2]), ([2], [2]), ([4, 2], [2, 4]), ([3, 5, 2], [2, 3, 5]), ([6, 2], [2, 6]), ([2], [2]), ([2], [2]), ([8, 9, 2], [2, 8, 9]), ([10, 2], [2, 10]), ([7, 11, 2], [2, 7, 11]), ([2, 12], [2, 12])])
def spec_SortList.B6 : List Nat := [0, 1, 3, 7, 7, 23, 63, 127, 7, 7, 775, 1799, 4095, 8191]
theorem spec_SortList.tab6 : rtab .any (opsOf Try.f143 6) = spec_SortList.T6 := by kernel_rfl
theorem spec_SortList.bits6 : waitsOk spec_SortList.T6.2 spec_SortList.B6 = true := by kernel_rfl
def spec_SortList.T8 : Bool × List (List Nat × List Nat) := (true, [([], []), ([0], [0]), ([1], [1]), ([2], [2]), ([2], [2]), ([4, 2], [2, 4]), ([3, 5, 2], [2, 3, 5]), ([6, 2], [2, 6]), ([2], [2]), ([2], [2]), ([8, 9, 2], [2, 8, 9]), ([10, 2], [2, 10]), ([7, 11, 2], [2, 7, 11]), ([2, 12], [2, 12])])
def spec_SortList.B8 : List Nat := [0, 1, 3, 7, 7, 23, 63, 127, 7, 7, 775, 1799, 4095, 8191]
theorem spec_SortList.tab8 : rtab .any (opsOf Try.f143 8) = spec_SortList.T8 := by kernel_rfl
theorem spec_SortList.bits8 : waitsOk spec_SortList.T8.2 spec_SortList.B8 = true := by kernel_rfl
def spec_SortList.T10 : Bool × List (List Nat × List Nat) := (true, [([], []), ([], []), ([0, 1], [0, 1]), ([], []), ([], []), ([3, 4], [3, 4]), ([5], [5]), ([6], [6]), ([2, 7], [2, 7]), ([], []), ([8, 9, 8], [8, 9]), ([10, 10, 0, 1, 2, 3, 4, 5, 6, 7, 8, 9, 10], [0, 10])])
def spec_SortList.B10 : List Nat := [0, 0, 3, 0, 0, 24, 56, 120, 255, 0, 1023, 2047]
theorem spec_SortList.tab10 : rtab .any (opsOf Try.f143 10) = spec_SortList.T10 := by kernel_rfl
theorem spec_SortList.bits10 : waitsOk spec_SortList.T10.2 spec_SortList.B10 = true := by kernel_rfl
set_option maxHeartbeats 8000000 in
set_option maxRecDepth 100000 in
theorem spec_SortList.calls (k : Nat) (A0 : Option Addr) (c0 : Nat) (l0 : List Int) (r : List Int) (w : World) (hr0 : Kd.C (Kd.int .i64) w A0 l0.length l0) (hc0 : l0.length ≤ c0) (h : spec_SortList.f k l0 = some r) :
  Calls Try.prog 143 #[.slice A0 l0.length c0] w fun e w' => ∃ v0_ : Value, e = .returned (v0_) ∧ Kd.R (Kd.int .i64) 3 w' w.heap.size (fun _ => True) v0_ r ∧ Below w.heap.size w w' := by
 have HR0 := am hr0
 have HC0 := am hc0
 clear hr0 hc0
 have HB := am (Below.refl w.heap.size w)
 have H : (spec_SortList.l0 k l0 (([] : List Int)) 0) = some r := h
 clear h
 obtain ⟨y145, hy145⟩ : ∃ y_ : List Int, y_ = (([] : List Int)) := ⟨_, rfl⟩
 replace H : (spec_SortList.l0 k l0 y145 0) = some r := by first | (rw [hy145]; with_reducible first | exact H | exact bs H) | (with_reducible first | exact bs H | exact H) | (rw [hy145]; exact H) | exact H
 have Ny145 := am hy145
 clear hy145
 have H' := am H
 clear H
 go_enter Try.func143, Try.ntmps143
 go_wp2_with (first | ((with_reducible refine gate_dst (N := 7) rfl ?_); refine Kd.R_lit (Kd.int .i64) _ 3 ?hg (N := 7) ?hd (xs := ([] : List Int)) (inner := []) (ok := fun _ => True) (okp := fun _ => True) ?hr ?hp (fun _ hk => hk) trivial (Below.refl _ _) (Nat.le_refl _) (by simp) ?_; (case hd => rfl); (case hg => rfl); (case hr => first | (go_simp; done) | (go_simp; rfl)); (case hp => exact (Reps.none _ _)); intro v146 w2 ho3 hb hg_ hnew_; clear hg_ hnew_; (first | rw [← Ny145.out] at ho3 | (simp only [Int.reduceToNat] at ho3; rw [← Ny145.out] at ho3)); have HO147 := am (Kd.R_lower ho3 (below_size bw)); replace HB := am (below_step bw hb); clear hb ho3))
 go_loopg [3, 4] k (fun kq v3 v4 w' => ∃ (x3_1 : List Int) (x4_1 : Int), v4 = .int .i64 x4_1 ∧ Aside0 (spec_SortList.l0 kq l0 x3_1 x4_1 = some r) ∧ Aside0 (kq ≤ k) ∧ Aside0 (Kd.R (Kd.int .i64) 3 w' w.heap.size (fun _ => True) v3 x3_1) ∧ Aside0 (Below w.heap.size w w'))
 case atStart => exact ⟨(y145), (0), rr, H', ⟨Nat.le_refl _⟩, ⟨ro HO147.out⟩, ⟨bw⟩⟩
 case round =>
  clear H'
  obtain ⟨x3_1, x4_1, rfl, HA, HK1, HO_3, HB⟩ := hrel
  cases gk with
  | zero => exact absurd HA.out (by simp [spec_SortList.l0])
  | succ k1 =>
   have H := HA.out
   clear HA
   simp only [spec_SortList.l0] at H
   replace H := gi H; obtain ⟨c4b0, H⟩ | ⟨c4b0, H⟩ := H
   ·have H' := am H
    clear H
    obtain ⟨Ao5, co5, eo5⟩ := Kd.R_slice HO_3.out
    subst eo5
    go_wp2
    go_loopg [5] k1 (fun kq v5 w' => ∃ (x5_2 : Int), v5 = .int .i64 x5_2 ∧ Aside0 (spec_SortList.l1 kq l0 x3_1 x4_1 x5_2 = some r) ∧ Aside0 (kq ≤ k1) ∧ Aside0 (Kd.R (Kd.int .i64) 3 w' w.heap.size (fun _ => True) (.slice Ao5 x3_1.length co5) x3_1) ∧ Aside0 (Below w.heap.size w w'))
    case atStart => exact ⟨((x3_1.length : Int)), rr, H', ⟨Nat.le_refl _⟩, ⟨ro HO_3.out⟩, ⟨bw⟩⟩
    case round =>
     clear H'
     try clear c4b0
     obtain ⟨x5_2, rfl, HA, HK2, HO_3, HB⟩ := hrel
     cases gk with
     | zero => exact absurd HA.out (by simp [spec_SortList.l1])
     | succ k2 =>
      have H := HA.out
      clear HA
      simp only [spec_SortList.l1] at H
      replace H := gj H; obtain ⟨c6, H⟩ | ⟨c6, H⟩ := H
      ·have c6b0 : decide (0 < x5_2) = true := decide_eq_true c6
       clear c6
       obtain ⟨ji7, hji7⟩ : ∃ j_ : Int, (wrap64 (x5_2 - 1)) = j_ := ⟨_, rfl⟩
       replace H : (if 0 ≤ (ji7) then (if (ji7) < (x3_1.length : Int) then (if 0 ≤ x4_1 then (if x4_1 < (l0.length : Int) then (if (rd x3_1 (ji7)) > (rd l0 x4_1) then (spec_SortList.l1 k2 l0 x3_1 x4_1 ji7) else (if (rd x3_1 (ji7)) = (rd l0 x4_1) then (spec_SortList.l0 k2 l0 x3_1 (wrap64 (x4_1 + 1))) else ((some (([] : List Int) : List Int)).bind fun y152 => (if 0 ≤ x5_2 then (if x5_2 ≤ (x3_1.length : Int) then ((some (x3_1.drop (x5_2 : Int).toNat : List Int)).bind fun y155 => (if y152.length + y155.length < 17592186044416 then ((some (y152 ++ y155 : List Int)).bind fun y159 => ((some (x3_1.take (x5_2 : Int).toNat : List Int)).bind fun y162 => (if y162.length < 17592186044416 then ((some (y162 ++ [rd l0 x4_1] : List Int)).bind fun y166 => (if y166.length + y159.length < 17592186044416 then (spec_SortList.l0 k2 l0 (y166 ++ y159) (wrap64 (x4_1 + 1))) else (none))) else (none)))) else (none))) else (none)) else (none))))) else (none)) else (none)) else (none)) else (none)) = some r := by first | (rw [hji7] at H; exact H) | (simp only [hji7] at H ⊢; exact H)
       have hji7w : (IntKind.i64.wrap (x5_2 - 1)) = ji7 := (i64_w _).trans hji7
       replace H := gd H; obtain ⟨c8b0, H⟩ := H
       replace H := gd H; obtain ⟨c9b0, H⟩ := H
       replace H := gd H; obtain ⟨c10b0, H⟩ := H
       replace H := gd H; obtain ⟨c11b0, H⟩ := H
       replace H := gj H; obtain ⟨c12, H⟩ | ⟨c12, H⟩ := H
       ·have c12b0 : decide ((rd l0 x4_1) < (rd x3_1 (ji7))) = true := decide_eq_true c12
        clear c12
        have H' := am H
        clear H
        try go_wp2
        replace HO_3 := am (Kd.R_drew HO_3.out)
        replace HB := am (below_drew1 HB.out)
        obtain ⟨⟨ad148, e148, hx148_0⟩, p148, q148⟩ := pq (Kd.at_int (Kd.R_reads' HO_3.out).2.2 (ji7))
        cases e148
        obtain ⟨⟨ad149, e149, hx149_0⟩, p149, q149⟩ := pq (Kd.at_int HR0.out x4_1)
        have hw149_0 := hx149_0
        cases e149
        replace hx149_0 := hw HB hx149_0
        refine start_ (n := 14) (S := fun w' => w'.cell? (ad148.add ((ji7)).toNat) = some (.int .i64 (rd x3_1 (ji7))) ∧ w'.cell? (ad149.add (x4_1).toNat) = some (.int .i64 (rd l0 x4_1))) (ds := []) (yz 14 0) (by kernel_rfl) rfl rfl ⟨hx148_0, ((HB.out.cell (World.block_lt_of_cell? w _ hw149_0)).trans hw149_0)⟩ (fun hHeld => ?_); refine with_tabW spec_SortList.tab6 spec_SortList.bits6 (fun HT_ HW_ => ?_)
        generalize wr.drew = w13 at HO_3 HB hx148_0 hx149_0 hHeld ⊢
        refine pa 0 (some 16) (yz 14 1) HT_ ?_
        refine pa 1 (some 17) (yz 14 3) HT_ ?_
        refine pa 2 (some 18) (yz 14 7) HT_ ?_
        refine pa 3 (some 19) (yz 14 15) HT_ ?_
        refine pa 4 (some 20) (yz 14 31) HT_ ?_
        refine pa 5 (some 21) (yz 14 63) HT_ ?_
        refine pa 6 (some 22) (yz 14 127) HT_ ?_
        refine pa 8 (some 24) (yz 14 383) HT_ ?_
        refine pa 9 (some 25) (yz 14 895) HT_ ?_
        refine pa 10 (some 26) (yz 14 1919) HT_ ?_
        refine tk 7 (some 23) (yz 14 2047) HT_ HW_ hHeld ?_
        refine tk 11 (some 27) (yz 14 4095) HT_ HW_ hHeld ?_
        refine pa 12 (some 28) (yz 14 8191) HT_ ?_
        refine pa 13 (some 29) (yz 14 16383) HT_ ?_
        refine done_ (done_of HT_.out (by kernel_rfl)) ?_
        try go_wp2
        go_roundg k2
        case measure => have := HK1.out; have := HK2.out; omega
        case rel => exact ⟨(ji7), (by first | rfl | (simp; done) | (simp only [← hji7] <;> (first | rfl | simp)) | (simp [*]; done)), H', ⟨by have := HK1.out; have := HK2.out; omega⟩, ⟨ro HO_3.out⟩, ⟨bw⟩⟩
       have c12b0 : decide ((rd l0 x4_1) < (rd x3_1 (ji7))) = false := decide_eq_false c12
       clear c12
       by_cases c14 : (rd x3_1 (ji7)) = (rd l0 x4_1)
       ·rw [if_pos c14] at H
        have c14b0 : ((rd x3_1 (ji7)) == (rd l0 x4_1)) = true := beq_iff_eq.mpr c14
        have c14b1 : ((rd x3_1 (ji7)) != (rd l0 x4_1)) = false := bne_eq_false_iff_eq.mpr c14
        clear c14
        have H' := am H
        clear H
        try go_wp2
        replace HO_3 := am (Kd.R_drew HO_3.out)
        replace HB := am (below_drew1 HB.out)
        obtain ⟨⟨ad148, e148, hx148_0⟩, p148, q148⟩ := pq (Kd.at_int (Kd.R_reads' HO_3.out).2.2 (ji7))
        cases e148
        obtain ⟨⟨ad149, e149, hx149_0⟩, p149, q149⟩ := pq (Kd.at_int HR0.out x4_1)
        have hw149_0 := hx149_0
        cases e149
        replace hx149_0 := hw HB hx149_0
        refine start_ (n := 14) (S := fun w' => w'.cell? (ad148.add ((ji7)).toNat) = some (.int .i64 (rd x3_1 (ji7))) ∧ w'.cell? (ad149.add (x4_1).toNat) = some (.int .i64 (rd l0 x4_1))) (ds := []) (yz 14 0) (by kernel_rfl) rfl rfl ⟨hx148_0, ((HB.out.cell (World.block_lt_of_cell? w _ hw149_0)).trans hw149_0)⟩ (fun hHeld => ?_); refine with_tabW spec_SortList.tab6 spec_SortList.bits6 (fun HT_ HW_ => ?_)
        generalize wr.drew = w15 at HO_3 HB hx148_0 hx149_0 hHeld ⊢
        refine pa 0 (some 16) (yz 14 1) HT_ ?_
        refine pa 1 (some 17) (yz 14 3) HT_ ?_
        refine pa 2 (some 18) (yz 14 7) HT_ ?_
        refine pa 3 (some 19) (yz 14 15) HT_ ?_
        refine pa 4 (some 20) (yz 14 31) HT_ ?_
        refine pa 5 (some 21) (yz 14 63) HT_ ?_
        refine pa 6 (some 22) (yz 14 127) HT_ ?_
        refine pa 8 (some 24) (yz 14 383) HT_ ?_
        refine pa 9 (some 25) (yz 14 895) HT_ ?_
        refine pa 10 (some 26) (yz 14 1919) HT_ ?_
        refine tk 7 (some 23) (yz 14 2047) HT_ HW_ hHeld ?_
        refine tk 11 (some 27) (yz 14 4095) HT_ HW_ hHeld ?_
        refine pa 12 (some 28) (yz 14 8191) HT_ ?_
        refine pa 13 (some 29) (yz 14 16383) HT_ ?_
        refine done_ (done_of HT_.out (by kernel_rfl)) ?_
        try go_wp2
        replace HO_3 := am (Kd.R_drew HO_3.out)
        replace HB := am (below_drew1 HB.out)
        obtain ⟨⟨ad150, e150, hx150_0⟩, p150, q150⟩ := pq (Kd.at_int (Kd.R_reads' HO_3.out).2.2 (ji7))
        obtain rfl : ad148 = ad150 := (by injection e150)
        obtain ⟨⟨ad151, e151, hx151_0⟩, p151, q151⟩ := pq (Kd.at_int HR0.out x4_1)
        have hw151_0 := hx151_0
        obtain rfl : ad149 = ad151 := (by injection e151)
        replace hx151_0 := hw HB hx151_0
        refine start_ (n := 14) (S := fun w' => w'.cell? (ad148.add ((ji7)).toNat) = some (.int .i64 (rd x3_1 (ji7))) ∧ w'.cell? (ad149.add (x4_1).toNat) = some (.int .i64 (rd l0 x4_1))) (ds := []) (yz 14 0) (by kernel_rfl) rfl rfl ⟨hx150_0, ((HB.out.cell (World.block_lt_of_cell? w _ hw151_0)).trans hw151_0)⟩ (fun hHeld => ?_); refine with_tabW spec_SortList.tab8 spec_SortList.bits8 (fun HT_ HW_ => ?_)
        generalize w15.drew = w16 at HO_3 HB hx150_0 hx151_0 hHeld ⊢
        refine pa 0 (some 32) (yz 14 1) HT_ ?_
        refine pa 1 (some 33) (yz 14 3) HT_ ?_
        refine pa 2 (some 34) (yz 14 7) HT_ ?_
        refine pa 3 (some 35) (yz 14 15) HT_ ?_
        refine pa 4 (some 36) (yz 14 31) HT_ ?_
        refine pa 5 (some 37) (yz 14 63) HT_ ?_
        refine pa 6 (some 38) (yz 14 127) HT_ ?_
        refine pa 8 (some 40) (yz 14 383) HT_ ?_
        refine pa 9 (some 41) (yz 14 895) HT_ ?_
        refine pa 10 (some 42) (yz 14 1919) HT_ ?_
        refine tk 7 (some 39) (yz 14 2047) HT_ HW_ hHeld ?_
        refine tk 11 (some 43) (yz 14 4095) HT_ HW_ hHeld ?_
        refine pa 12 (some 44) (yz 14 8191) HT_ ?_
        refine pa 13 (some 45) (yz 14 16383) HT_ ?_
        refine done_ (done_of HT_.out (by kernel_rfl)) ?_
        try go_wp2
        go_roundg k2
        case measure => have := HK1.out; have := HK2.out; omega
        case rel => exact ⟨(x3_1), (wrap64 (x4_1 + 1)), rr, H', ⟨by have := HK1.out; have := HK2.out; omega⟩, ⟨ro HO_3.out⟩, ⟨bw⟩⟩
       rw [if_neg c14] at H
       have c14b0 : ((rd x3_1 (ji7)) == (rd l0 x4_1)) = false := beq_eq_false_iff_ne.mpr c14
       have c14b1 : ((rd x3_1 (ji7)) != (rd l0 x4_1)) = true := bne_iff_ne.mpr c14
       obtain ⟨y152, hy152⟩ : ∃ y_ : List Int, y_ = (([] : List Int)) := ⟨_, rfl⟩
       replace H : (if 0 ≤ x5_2 then (if x5_2 ≤ (x3_1.length : Int) then ((some (x3_1.drop (x5_2 : Int).toNat : List Int)).bind fun y155 => (if y152.length + y155.length < 17592186044416 then ((some (y152 ++ y155 : List Int)).bind fun y159 => ((some (x3_1.take (x5_2 : Int).toNat : List Int)).bind fun y162 => (if y162.length < 17592186044416 then ((some (y162 ++ [rd l0 x4_1] : List Int)).bind fun y166 => (if y166.length + y159.length < 17592186044416 then (spec_SortList.l0 k2 l0 (y166 ++ y159) (wrap64 (x4_1 + 1))) else (none))) else (none)))) else (none))) else (none)) else (none)) = some r := by first | (rw [hy152]; with_reducible first | exact H | exact bs H) | (with_reducible first | exact bs H | exact H) | (rw [hy152]; exact H) | exact H
       have Ny152 := am hy152
       clear hy152
       replace H := gp H; obtain ⟨c17, H⟩ := H
       have c17b0 := eq_true c17
       have c17b1 : decide (0 ≤ x5_2) = true := decide_eq_true c17
       clear c17
       replace H := gp H; obtain ⟨c18, H⟩ := H
       have c18b0 := eq_true c18
       have c18b1 : decide (x5_2 ≤ (x3_1.length : Int)) = true := decide_eq_true c18
       clear c18
       obtain ⟨y155, hy155⟩ : ∃ y_ : List Int, y_ = (x3_1.drop (x5_2 : Int).toNat) := ⟨_, rfl⟩
       replace H : (if y152.length + y155.length < 17592186044416 then ((some (y152 ++ y155 : List Int)).bind fun y159 => ((some (x3_1.take (x5_2 : Int).toNat : List Int)).bind fun y162 => (if y162.length < 17592186044416 then ((some (y162 ++ [rd l0 x4_1] : List Int)).bind fun y166 => (if y166.length + y159.length < 17592186044416 then (spec_SortList.l0 k2 l0 (y166 ++ y159) (wrap64 (x4_1 + 1))) else (none))) else (none)))) else (none)) = some r := by first | (rw [hy155]; with_reducible first | exact H | exact bs H) | (with_reducible first | exact bs H | exact H) | (rw [hy155]; exact H) | exact H
       have Ny155 := am hy155
       clear hy155
       by_cases c19 : y152.length + y155.length < 17592186044416
       rotate_left
       ·rw [if_neg c19] at H
        exact absurd H (by simp)
       rw [if_pos c19] at H
       have LMc19 := am c19
       clear c19
       obtain ⟨y159, hy159⟩ : ∃ y_ : List Int, y_ = (y152 ++ y155) := ⟨_, rfl⟩
       replace H : ((some (x3_1.take (x5_2 : Int).toNat : List Int)).bind fun y162 => (if y162.length < 17592186044416 then ((some (y162 ++ [rd l0 x4_1] : List Int)).bind fun y166 => (if y166.length + y159.length < 17592186044416 then (spec_SortList.l0 k2 l0 (y166 ++ y159) (wrap64 (x4_1 + 1))) else (none))) else (none))) = some r := by first | (rw [hy159]; with_reducible first | exact H | exact bs H) | (with_reducible first | exact bs H | exact H) | (rw [hy159]; exact H) | exact H
       have Ny159 := am hy159
       clear hy159
       have c20b0 := eq_true (of_decide_eq_true (by first | (with_reducible assumption) | assumption) : x5_2 ≤ (x3_1.length : Int))
       obtain ⟨y162, hy162⟩ : ∃ y_ : List Int, y_ = (x3_1.take (x5_2 : Int).toNat) := ⟨_, rfl⟩
       replace H : (if y162.length < 17592186044416 then ((some (y162 ++ [rd l0 x4_1] : List Int)).bind fun y166 => (if y166.length + y159.length < 17592186044416 then (spec_SortList.l0 k2 l0 (y166 ++ y159) (wrap64 (x4_1 + 1))) else (none))) else (none)) = some r := by first | (rw [hy162]; with_reducible first | exact H | exact bs H) | (with_reducible first | exact bs H | exact H) | (rw [hy162]; exact H) | exact H
       have Ny162 := am hy162
       clear hy162
       by_cases c21 : y162.length < 17592186044416
       rotate_left
       ·rw [if_neg c21] at H
        exact absurd H (by simp)
       rw [if_pos c21] at H
       have LMc21 := am c21
       clear c21
       obtain ⟨y166, hy166⟩ : ∃ y_ : List Int, y_ = (y162 ++ [rd l0 x4_1]) := ⟨_, rfl⟩
       replace H : (if y166.length + y159.length < 17592186044416 then (spec_SortList.l0 k2 l0 (y166 ++ y159) (wrap64 (x4_1 + 1))) else (none)) = some r := by first | (rw [hy166]; with_reducible first | exact H | exact bs H) | (with_reducible first | exact bs H | exact H) | (rw [hy166]; exact H) | exact H
       have Ny166 := am hy166
       clear hy166
       by_cases c22 : y166.length + y159.length < 17592186044416
       rotate_left
       ·rw [if_neg c22] at H
        exact absurd H (by simp)
       rw [if_pos c22] at H
       have LMc22 := am c22
       clear c22
       obtain ⟨y169, hy169⟩ : ∃ y_ : List Int, y_ = (y166 ++ y159) := ⟨_, rfl⟩
       replace H : (spec_SortList.l0 k2 l0 y169 (wrap64 (x4_1 + 1))) = some r := by first | (rw [hy169]; with_reducible first | exact H | exact bs H) | (with_reducible first | exact bs H | exact H) | (rw [hy169]; exact H) | exact H
       have Ny169 := am hy169
       clear hy169
       have H' := am H
       clear H
       try go_wp2
       replace HO_3 := am (Kd.R_drew HO_3.out)
       replace HB := am (below_drew1 HB.out)
       obtain ⟨⟨ad148, e148, hx148_0⟩, p148, q148⟩ := pq (Kd.at_int (Kd.R_reads' HO_3.out).2.2 (ji7))
       cases e148
       obtain ⟨⟨ad149, e149, hx149_0⟩, p149, q149⟩ := pq (Kd.at_int HR0.out x4_1)
       have hw149_0 := hx149_0
       cases e149
       replace hx149_0 := hw HB hx149_0
       refine start_ (n := 14) (S := fun w' => w'.cell? (ad148.add ((ji7)).toNat) = some (.int .i64 (rd x3_1 (ji7))) ∧ w'.cell? (ad149.add (x4_1).toNat) = some (.int .i64 (rd l0 x4_1))) (ds := []) (yz 14 0) (by kernel_rfl) rfl rfl ⟨hx148_0, ((HB.out.cell (World.block_lt_of_cell? w _ hw149_0)).trans hw149_0)⟩ (fun hHeld => ?_); refine with_tabW spec_SortList.tab6 spec_SortList.bits6 (fun HT_ HW_ => ?_)
       generalize wr.drew = w23 at HO_3 HB hx148_0 hx149_0 hHeld ⊢
       refine pa 0 (some 16) (yz 14 1) HT_ ?_
       refine pa 1 (some 17) (yz 14 3) HT_ ?_
       refine pa 2 (some 18) (yz 14 7) HT_ ?_
       refine pa 3 (some 19) (yz 14 15) HT_ ?_
       refine pa 4 (some 20) (yz 14 31) HT_ ?_
       refine pa 5 (some 21) (yz 14 63) HT_ ?_
       refine pa 6 (some 22) (yz 14 127) HT_ ?_
       refine pa 8 (some 24) (yz 14 383) HT_ ?_
       refine pa 9 (some 25) (yz 14 895) HT_ ?_
       refine pa 10 (some 26) (yz 14 1919) HT_ ?_
       refine tk 7 (some 23) (yz 14 2047) HT_ HW_ hHeld ?_
       refine tk 11 (some 27) (yz 14 4095) HT_ HW_ hHeld ?_
       refine pa 12 (some 28) (yz 14 8191) HT_ ?_
       refine pa 13 (some 29) (yz 14 16383) HT_ ?_
       refine done_ (done_of HT_.out (by kernel_rfl)) ?_
       try go_wp2
       replace HO_3 := am (Kd.R_drew HO_3.out)
       replace HB := am (below_drew1 HB.out)
       obtain ⟨⟨ad150, e150, hx150_0⟩, p150, q150⟩ := pq (Kd.at_int (Kd.R_reads' HO_3.out).2.2 (ji7))
       obtain rfl : ad148 = ad150 := (by injection e150)
       obtain ⟨⟨ad151, e151, hx151_0⟩, p151, q151⟩ := pq (Kd.at_int HR0.out x4_1)
       have hw151_0 := hx151_0
       obtain rfl : ad149 = ad151 := (by injection e151)
       replace hx151_0 := hw HB hx151_0
       refine start_ (n := 14) (S := fun w' => w'.cell? (ad148.add ((ji7)).toNat) = some (.int .i64 (rd x3_1 (ji7))) ∧ w'.cell? (ad149.add (x4_1).toNat) = some (.int .i64 (rd l0 x4_1))) (ds := []) (yz 14 0) (by kernel_rfl) rfl rfl ⟨hx150_0, ((HB.out.cell (World.block_lt_of_cell? w _ hw151_0)).trans hw151_0)⟩ (fun hHeld => ?_); refine with_tabW spec_SortList.tab8 spec_SortList.bits8 (fun HT_ HW_ => ?_)
       generalize w23.drew = w24 at HO_3 HB hx150_0 hx151_0 hHeld ⊢
       refine pa 0 (some 32) (yz 14 1) HT_ ?_
       refine pa 1 (some 33) (yz 14 3) HT_ ?_
       refine pa 2 (some 34) (yz 14 7) HT_ ?_
       refine pa 3 (some 35) (yz 14 15) HT_ ?_
       refine pa 4 (some 36) (yz 14 31) HT_ ?_
       refine pa 5 (some 37) (yz 14 63) HT_ ?_
       refine pa 6 (some 38) (yz 14 127) HT_ ?_
       refine pa 8 (some 40) (yz 14 383) HT_ ?_
       refine pa 9 (some 41) (yz 14 895) HT_ ?_
       refine pa 10 (some 42) (yz 14 1919) HT_ ?_
       refine tk 7 (some 39) (yz 14 2047) HT_ HW_ hHeld ?_
       refine tk 11 (some 43) (yz 14 4095) HT_ HW_ hHeld ?_
       refine pa 12 (some 44) (yz 14 8191) HT_ ?_
       refine pa 13 (some 45) (yz 14 16383) HT_ ?_
       refine done_ (done_of HT_.out (by kernel_rfl)) ?_
       try go_wp2_with (first | ((with_reducible refine gate_dst (N := 46) rfl ?_); refine Kd.R_lit (Kd.int .i64) _ 3 ?hg (N := 46) ?hd (xs := ([] : List Int)) (inner := []) (ok := fun _ => True) (okp := fun _ => True) ?hr ?hp (fun _ hk => hk) trivial (Below.refl _ _) (Nat.le_refl _) (by simp) ?_; (case hd => rfl); (case hg => rfl); (case hr => first | (go_simp; done) | (go_simp; rfl)); (case hp => exact (Reps.none _ _)); intro v153 w25 ho26 hb hg_ hnew_; clear hg_ hnew_; (first | rw [← Ny152.out] at ho26 | (simp only [Int.reduceToNat] at ho26; rw [← Ny152.out] at ho26)); have HO154 := am (Kd.R_lower (Kd.R_new' ho26 (Kd.R_lt (ro HO_3.out))) (below_size bw)); replace HO_3 := am (Kd.R_elder' (ro HO_3.out) (Kd.R_base ho26) hb); replace HB := am (below_step bw hb); clear hb ho26; have q27 : (x5_2 : Int) ≤ ((x3_1.length : Int) : Int) := of_decide_eq_true (by first | (with_reducible assumption) | assumption); obtain ⟨i027, hi027, _, hsz27, _⟩ := info_parts info3; have hroom27 : x3_1.length ≤ co5 := (Kd.R_reads' HO_3.out).2.1; have hC27 : Kd.C (Kd.int .i64) _ (some ad148) x3_1.length x3_1 := (Kd.R_reads' HO_3.out).2.2; have q027 : (0 : Int) ≤ (x5_2 : Int) := of_decide_eq_true (by first | (with_reducible assumption) | assumption); have hcut27 := cut_from (P := Try.prog) 22 3 .i64 Try.underlying22 hi027 1 hsz27 (some ad148) x3_1.length co5 x5_2 q027 q27; have hr27 := Kd.C_drop (m := (x5_2 : Int).toNat) (c := co5) hC27 (by omega) hroom27; obtain ⟨A27, hA27⟩ : ∃ A1, A1 = (if co5 = (x5_2 : Int).toNat then (some ad148) else ((some ad148) : Option Addr).map (·.add ((x5_2 : Int).toNat * 1))) := ⟨_, rfl⟩; obtain ⟨c27, hc27⟩ : ∃ c1, c1 = co5 - (x5_2 : Int).toNat := ⟨_, rfl⟩; have hy27 : y155.length = x3_1.length - (x5_2 : Int).toNat := (by rw [Ny155.out, List.length_drop] <;> omega); rw [show (x3_1).drop (x5_2 : Int).toNat = y155 from Ny155.out.symm] at hr27; replace hr27 : Kd.C (Kd.int .i64) _ A27 y155.length y155 := (by rw [hA27]; exact hr27); rw [← hy27, ← hA27, ← hc27] at hcut27; have HR158 := am hr27; have HC158 := am (show y155.length ≤ c27 from by rw [hy27, hc27]; exact Nat.sub_le_sub_right hroom27 _); clear hr27 hC27 hroom27 hi027 hsz27 hc27; have KY27 := am hy27; have KA27 := am hA27; clear hy27 hA27; have KL27 := am (show (x5_2 : Int).toNat ≤ x3_1.length from by omega); replace q27 := eq_true q27) | ((with_reducible refine gate_builtin (b := .append) (xs := #[.tmp 46, .tmp 49]) rfl ?_); at_builtin; refine Kd.R_append_rows (Kd.int .i64) (w0 := w) w.heap.size rfl (.tmp 46) (.tmp 49) 22 3 (.int .i64 0) 8 rfl Try.underlying22 info3 rfl (by decide) (by omega) v153 y152 y155 _ _ _ (fun k_ => some k_ ≠ (.slice (some ad148) x3_1.length co5 : Value).ownBlock) (fun _ => False) rfl rfl ?aO ?aR (fun _ _ h => h) (fun _ h => h.elim) ?aF ?aB ?aS ?aL ?_; (case aR => exact co HR158.out); (case aB => exact bw); (case aF => exact (fun k_ hk => Kd.fresh' (Kd.R_lt (ro HO_3.out)) k_ hk)); (case aO => exact (by (with_reducible repeat (first | apply Kd.R_alloc | apply Kd.R_drewN | apply Kd.R_drew)); exact Kd.R_mono HO154.out (fun _ hk => hk.2))); (case aS => exact (below_size bw)); (case aL => have := LMc19.out; omega); intro v160 w28 ho hb hg hat; rw [← Ny159.out] at ho; replace HB := am (hb); replace HR158 := am ((show Kd.C (Kd.int .i64) w28 A27 y155.length y155 from by rw [Ny155.out, KA27.out]; exact Kd.C_drop (m := (x5_2 : Int).toNat) (c := co5) ((Kd.R_reads' (Kd.R_after (ok := (fun _ => True)) (ro HO_3.out) hg hat)).2.2) KL27.out ((Kd.R_reads' (Kd.R_after (ok := (fun _ => True)) (ro HO_3.out) hg hat)).2.1))); replace HO_3 := am (Kd.R_after (ok := (fun _ => True)) (ro HO_3.out) hg hat); have HO161 := am (ho); clear HO154 ho hb hg hat))
       replace HO_3 := am (Kd.R_drew HO_3.out)
       replace HO161 := am (Kd.R_drew HO161.out)
       replace HR158 := am (Kd.C_drew HR158.out)
       replace HB := am (below_drew1 HB.out)
       have q30 : (x5_2 : Int) ≤ ((x3_1.length : Int) : Int) := of_decide_eq_true (by first | (with_reducible assumption) | assumption)
       obtain ⟨i030, hi030, _, hsz30, _⟩ := info_parts info3
       have hcut30 := cut_to (P := Try.prog) 22 3 .i64 Try.underlying22 hi030 (some ad148) x3_1.length co5 x5_2 (of_decide_eq_true (by first | (with_reducible assumption) | assumption)) q30 (Kd.R_reads' HO_3.out).2.1
       have hr30 := Kd.R_take (m := (x5_2 : Int).toNat) HO_3.out (by omega)
       have hy30 : y162.length = (x5_2 : Int).toNat := (by rw [Ny162.out, List.length_take]; omega)
       rw [← Ny162.out] at hr30
       rw [← hy30] at hr30 hcut30
       clear hy30 hi030 hsz30 HO_3
       have HO164 := am hr30
       clear hr30
       replace q30 := eq_true q30
       obtain ⟨⟨ad165, e165, hx165_0⟩, p165, q165⟩ := pq (Kd.at_int HR0.out x4_1)
       have hw165_0 := hx165_0
       obtain rfl : ad149 = ad165 := (by injection e165)
       replace hx165_0 := hw HB hx165_0
       refine start_ (n := 12) (S := fun w' => w'.cell? (ad149.add (x4_1).toNat) = some (.int .i64 (rd l0 x4_1))) (ds := []) (yz 12 0) (by kernel_rfl) rfl rfl (((HB.out.cell (World.block_lt_of_cell? w _ hw165_0)).trans hw165_0)) (fun hHeld => ?_); refine with_tabW spec_SortList.tab10 spec_SortList.bits10 (fun HT_ HW_ => ?_)
       generalize w28.drew = w29 at HO_3 HO161 HR158 HB HO164 hx165_0 hHeld ⊢
       refine pa 0 (some 51) (yz 12 1) HT_ ?_
       refine pa 1 (some 52) (yz 12 3) HT_ ?_
       refine pa 2 (some 53) (yz 12 7) HT_ ?_
       refine pa 3 (some 54) (yz 12 15) HT_ ?_
       refine pa 4 (some 55) (yz 12 31) HT_ ?_
       refine pa 5 (some 56) (yz 12 63) HT_ ?_
       refine pa 9 (some 60) (yz 12 575) HT_ ?_
       refine tK 6 (some 57) (yz 12 639) HT_ HW_ hHeld ?_
       refine oa 7 (some 58) (yz 12 767) HT_ (fun K hK => ?_)
       refine value_ (w1 := ?_) (v := ?_) (by rfl) rfl ?_ ?_
       rotate_left 2
       ·go_simp
        constructor
        ·rfl
        rfl
       refine hK.out _ _ ((World.cell?_alloc_lt _ _ _ (World.block_lt_of_cell? _ _ (((HB.out.cell (World.block_lt_of_cell? w _ hw165_0)).trans hw165_0)))).trans (((HB.out.cell (World.block_lt_of_cell? w _ hw165_0)).trans hw165_0))) (fun hHeld => ?_)
       clear hK K
       refine nm (some 58) ?_
       refine oa 8 (some 59) (yz 12 1023) HT_ (fun K hK => ?_)
       refine Kd.R_append_step (Kd.int .i64) (w0 := w) w.heap.size (by rfl) (.tmp 53) (.tmp 58) 22 3 (.int .i64 0) 8 rfl Try.underlying22 info3 rfl (by decide) (by omega) (.slice (some ad148) y162.length co5) y162 (rd l0 x4_1) [.int .i64 (rd l0 x4_1)] (fun k_ => some k_ ≠ (v160 : Value).ownBlock) (fun _ => False) rfl rfl ?aP (fun _ hk => hk.elim) ?aF ?aO ?aB ?aS ?aL ?_
       (case aP => exact rfl)
       (case aB => exact bw)
       (case aF => exact (fun k_ hk => Kd.fresh' (Kd.R_lt (ro HO161.out)) k_ hk))
       (case aO => exact (by (with_reducible repeat (first | apply Kd.R_alloc | apply Kd.R_drewN | apply Kd.R_drew)); exact Kd.R_mono HO164.out (fun _ hk => hk.2)))
       (case aS => exact (below_size bw))
       (case aL => have := LMc21.out; omega)
       intro v167 w31 ho hb hg hat
       rw [← Ny166.out] at ho
       replace HO161 := am (Kd.R_after (ok := (fun _ => True)) (by (with_reducible repeat (first | apply Kd.R_alloc | apply Kd.R_drewN | apply Kd.R_drew)); exact Kd.R_mono HO161.out (fun _ hk => ⟨trivial, by first | exact hk | exact (by intro a n m c x h; cases a <;> exact h : ∀ (a : Option Addr) (n m c x : Nat), some x ≠ (Value.slice a n c).ownBlock → some x ≠ (Value.slice a m c).ownBlock) _ _ _ _ _ hk⟩)) hg hat)
       replace HB := am (hb)
       have HO168 := am (ho)
       clear HO164 ho hb hg hat
       obtain ⟨Ao33, co33, eo33⟩ := Kd.R_slice HO161.out
       (first | subst eo33 | (injection eo33 with f1_ f2_ f3_; have f4_ := f1_.symm; have f5_ := f3_.symm; clear f1_ f2_ f3_; subst f4_; subst f5_))
       refine hK.out _ _ (((HB.out.cell (World.block_lt_of_cell? w _ hw165_0)).trans hw165_0)) (fun hHeld => ?_)
       clear hK K
       refine nm (some 59) ?_
       refine oa 10 (some 61) (yz 12 2047) HT_ (fun K hK => ?_)
       refine Kd.R_append_rows_step (Kd.int .i64) (w0 := w) w.heap.size (by rfl) (.tmp 59) (.tmp 60) 22 3 (.int .i64 0) 8 rfl Try.underlying22 info3 rfl (by decide) (by omega) v167 y166 y159 _ _ _ (fun k_ => nb k_ Ao33 y159 co33) (fun _ => False) rfl rfl ?aO ?aR (fun _ _ h => h) (fun _ h => h.elim) ?aF ?aB ?aS ?aL ?_
       (case aR => exact co (Kd.R_reads' HO161.out).2.2)
       (case aB => exact bw)
       (case aF => exact (fun k_ hk => Kd.fresh' (Kd.R_lt (ro HO161.out)) k_ hk))
       (case aO => exact (ro HO168.out))
       (case aS => exact (below_size bw))
       (case aL => have := LMc22.out; omega)
       intro v170 w32 ho hb hg hat
       rw [← Ny169.out] at ho
       replace HO161 := am (Kd.R_after (ok := (fun _ => True)) (ro HO161.out) hg hat)
       replace HB := am (hb)
       have HO171 := am (ho)
       clear HO168 ho hb hg hat
       refine hK.out _ _ (((HB.out.cell (World.block_lt_of_cell? w _ hw165_0)).trans hw165_0)) (fun hHeld => ?_)
       clear hK K
       refine nm (some 61) ?_
       refine pa 11 (some 3) (yz 12 4095) HT_ ?_
       refine done_ (done_of HT_.out (by kernel_rfl)) ?_
       try go_wp2
       go_roundg k2
       case measure => have := HK1.out; have := HK2.out; omega
       case rel => exact ⟨(y169), (wrap64 (x4_1 + 1)), rr, H', ⟨by have := HK1.out; have := HK2.out; omega⟩, ⟨by (with_reducible repeat (first | apply Kd.R_alloc | apply Kd.R_drewN | apply Kd.R_drew)); exact Kd.R_mono HO171.out (fun _ hk => trivial)⟩, ⟨bw⟩⟩
      have c6b0 : decide (0 < x5_2) = false := decide_eq_false c6
      clear c6
      obtain ⟨y172, hy172⟩ : ∃ y_ : List Int, y_ = (([] : List Int)) := ⟨_, rfl⟩
      replace H : (if 0 ≤ x5_2 then (if x5_2 ≤ (x3_1.length : Int) then ((some (x3_1.drop (x5_2 : Int).toNat : List Int)).bind fun y175 => (if y172.length + y175.length < 17592186044416 then ((some (y172 ++ y175 : List Int)).bind fun y179 => ((some (x3_1.take (x5_2 : Int).toNat : List Int)).bind fun y182 => (if 0 ≤ x4_1 then (if x4_1 < (l0.length : Int) then (if y182.length < 17592186044416 then ((some (y182 ++ [rd l0 x4_1] : List Int)).bind fun y186 => (if y186.length + y179.length < 17592186044416 then (spec_SortList.l0 k2 l0 (y186 ++ y179) (wrap64 (x4_1 + 1))) else (none))) else (none)) else (none)) else (none)))) else (none))) else (none)) else (none)) = some r := by first | (rw [hy172]; with_reducible first | exact H | exact bs H) | (with_reducible first | exact bs H | exact H) | (rw [hy172]; exact H) | exact H
      have Ny172 := am hy172
      clear hy172
      replace H := gp H; obtain ⟨c34, H⟩ := H
      have c34b0 := eq_true c34
      have c34b1 : decide (0 ≤ x5_2) = true := decide_eq_true c34
      clear c34
      replace H := gp H; obtain ⟨c35, H⟩ := H
      have c35b0 := eq_true c35
      have c35b1 : decide (x5_2 ≤ (x3_1.length : Int)) = true := decide_eq_true c35
      clear c35
      obtain ⟨y175, hy175⟩ : ∃ y_ : List Int, y_ = (x3_1.drop (x5_2 : Int).toNat) := ⟨_, rfl⟩
      replace H : (if y172.length + y175.length < 17592186044416 then ((some (y172 ++ y175 : List Int)).bind fun y179 => ((some (x3_1.take (x5_2 : Int).toNat : List Int)).bind fun y182 => (if 0 ≤ x4_1 then (if x4_1 < (l0.length : Int) then (if y182.length < 17592186044416 then ((some (y182 ++ [rd l0 x4_1] : List Int)).bind fun y186 => (if y186.length + y179.length < 17592186044416 then (spec_SortList.l0 k2 l0 (y186 ++ y179) (wrap64 (x4_1 + 1))) else (none))) else (none)) else (none)) else (none)))) else (none)) = some r := by first | (rw [hy175]; with_reducible first | exact H | exact bs H) | (with_reducible first | exact bs H | exact H) | (rw [hy175]; exact H) | exact H
      have Ny175 := am hy175
      clear hy175
      by_cases c36 : y172.length + y175.length < 17592186044416
      rotate_left
      ·rw [if_neg c36] at H
       exact absurd H (by simp)
      rw [if_pos c36] at H
      have LMc36 := am c36
      clear c36
      obtain ⟨y179, hy179⟩ : ∃ y_ : List Int, y_ = (y172 ++ y175) := ⟨_, rfl⟩
      replace H : ((some (x3_1.take (x5_2 : Int).toNat : List Int)).bind fun y182 => (if 0 ≤ x4_1 then (if x4_1 < (l0.length : Int) then (if y182.length < 17592186044416 then ((some (y182 ++ [rd l0 x4_1] : List Int)).bind fun y186 => (if y186.length + y179.length < 17592186044416 then (spec_SortList.l0 k2 l0 (y186 ++ y179) (wrap64 (x4_1 + 1))) else (none))) else (none)) else (none)) else (none))) = some r := by first | (rw [hy179]; with_reducible first | exact H | exact bs H) | (with_reducible first | exact bs H | exact H) | (rw [hy179]; exact H) | exact H
      have Ny179 := am hy179
      clear hy179
      have c37b0 := eq_true (of_decide_eq_true (by first | (with_reducible assumption) | assumption) : x5_2 ≤ (x3_1.length : Int))
      obtain ⟨y182, hy182⟩ : ∃ y_ : List Int, y_ = (x3_1.take (x5_2 : Int).toNat) := ⟨_, rfl⟩
      replace H : (if 0 ≤ x4_1 then (if x4_1 < (l0.length : Int) then (if y182.length < 17592186044416 then ((some (y182 ++ [rd l0 x4_1] : List Int)).bind fun y186 => (if y186.length + y179.length < 17592186044416 then (spec_SortList.l0 k2 l0 (y186 ++ y179) (wrap64 (x4_1 + 1))) else (none))) else (none)) else (none)) else (none)) = some r := by first | (rw [hy182]; with_reducible first | exact H | exact bs H) | (with_reducible first | exact bs H | exact H) | (rw [hy182]; exact H) | exact H
      have Ny182 := am hy182
      clear hy182
      replace H := gd H; obtain ⟨c38b0, H⟩ := H
      replace H := gd H; obtain ⟨c39b0, H⟩ := H
      by_cases c40 : y182.length < 17592186044416
      rotate_left
      ·rw [if_neg c40] at H
       exact absurd H (by simp)
      rw [if_pos c40] at H
      have LMc40 := am c40
      clear c40
      obtain ⟨y186, hy186⟩ : ∃ y_ : List Int, y_ = (y182 ++ [rd l0 x4_1]) := ⟨_, rfl⟩
      replace H : (if y186.length + y179.length < 17592186044416 then (spec_SortList.l0 k2 l0 (y186 ++ y179) (wrap64 (x4_1 + 1))) else (none)) = some r := by first | (rw [hy186]; with_reducible first | exact H | exact bs H) | (with_reducible first | exact bs H | exact H) | (rw [hy186]; exact H) | exact H
      have Ny186 := am hy186
      clear hy186
      by_cases c41 : y186.length + y179.length < 17592186044416
      rotate_left
      ·rw [if_neg c41] at H
       exact absurd H (by simp)
      rw [if_pos c41] at H
      have LMc41 := am c41
      clear c41
      obtain ⟨y189, hy189⟩ : ∃ y_ : List Int, y_ = (y186 ++ y179) := ⟨_, rfl⟩
      replace H : (spec_SortList.l0 k2 l0 y189 (wrap64 (x4_1 + 1))) = some r := by first | (rw [hy189]; with_reducible first | exact H | exact bs H) | (with_reducible first | exact bs H | exact H) | (rw [hy189]; exact H) | exact H
      have Ny189 := am hy189
      clear hy189
      have H' := am H
      clear H
      try go_wp2
      replace HO_3 := am (Kd.R_drew HO_3.out)
      replace HB := am (below_drew1 HB.out)
      refine start_ (n := 14) (S := fun w' => True) (ds := []) (yz 14 0) (by kernel_rfl) rfl rfl trivial (fun hHeld => ?_); refine with_tabW spec_SortList.tab6 spec_SortList.bits6 (fun HT_ HW_ => ?_)
      generalize wr.drew = w42 at HO_3 HB hHeld ⊢
      refine pa 0 (some 16) (yz 14 1) HT_ ?_
      refine pa 1 (some 17) (yz 14 3) HT_ ?_
      refine pa 2 (some 18) (yz 14 7) HT_ ?_
      refine pu 3 (some 19) (yz 14 15) HT_ ?_
      refine pu 4 (some 20) (yz 14 31) HT_ ?_
      refine pu 5 (some 21) (yz 14 63) HT_ ?_
      refine pu 6 (some 22) (yz 14 127) HT_ ?_
      refine pu 7 (some 23) (yz 14 255) HT_ ?_
      refine pu 8 (some 24) (yz 14 511) HT_ ?_
      refine pu 9 (some 25) (yz 14 1023) HT_ ?_
      refine pu 10 (some 26) (yz 14 2047) HT_ ?_
      refine pu 11 (some 27) (yz 14 4095) HT_ ?_
      refine pu 12 (some 28) (yz 14 8191) HT_ ?_
      refine pa 13 (some 29) (yz 14 16383) HT_ ?_
      refine done_ (done_of HT_.out (by kernel_rfl)) ?_
      try go_wp2
      replace HO_3 := am (Kd.R_drew HO_3.out)
      replace HB := am (below_drew1 HB.out)
      refine start_ (n := 14) (S := fun w' => True) (ds := []) (yz 14 0) (by kernel_rfl) rfl rfl trivial (fun hHeld => ?_); refine with_tabW spec_SortList.tab8 spec_SortList.bits8 (fun HT_ HW_ => ?_)
      generalize w42.drew = w43 at HO_3 HB hHeld ⊢
      refine pa 0 (some 32) (yz 14 1) HT_ ?_
      refine pa 1 (some 33) (yz 14 3) HT_ ?_
      refine pa 2 (some 34) (yz 14 7) HT_ ?_
      refine pu 3 (some 35) (yz 14 15) HT_ ?_
      refine pu 4 (some 36) (yz 14 31) HT_ ?_
      refine pu 5 (some 37) (yz 14 63) HT_ ?_
      refine pu 6 (some 38) (yz 14 127) HT_ ?_
      refine pu 7 (some 39) (yz 14 255) HT_ ?_
      refine pu 8 (some 40) (yz 14 511) HT_ ?_
      refine pu 9 (some 41) (yz 14 1023) HT_ ?_
      refine pu 10 (some 42) (yz 14 2047) HT_ ?_
      refine pu 11 (some 43) (yz 14 4095) HT_ ?_
      refine pu 12 (some 44) (yz 14 8191) HT_ ?_
      refine pa 13 (some 45) (yz 14 16383) HT_ ?_
      refine done_ (done_of HT_.out (by kernel_rfl)) ?_
      try go_wp2_with (first | ((with_reducible refine gate_dst (N := 46) rfl ?_); refine Kd.R_lit (Kd.int .i64) _ 3 ?hg (N := 46) ?hd (xs := ([] : List Int)) (inner := []) (ok := fun _ => True) (okp := fun _ => True) ?hr ?hp (fun _ hk => hk) trivial (Below.refl _ _) (Nat.le_refl _) (by simp) ?_; (case hd => rfl); (case hg => rfl); (case hr => first | (go_simp; done) | (go_simp; rfl)); (case hp => exact (Reps.none _ _)); intro v173 w44 ho45 hb hg_ hnew_; clear hg_ hnew_; (first | rw [← Ny172.out] at ho45 | (simp only [Int.reduceToNat] at ho45; rw [← Ny172.out] at ho45)); have HO174 := am (Kd.R_lower (Kd.R_new' ho45 (Kd.R_lt (ro HO_3.out))) (below_size bw)); replace HO_3 := am (Kd.R_elder' (ro HO_3.out) (Kd.R_base ho45) hb); replace HB := am (below_step bw hb); clear hb ho45; have q46 : (x5_2 : Int) ≤ ((x3_1.length : Int) : Int) := of_decide_eq_true (by first | (with_reducible assumption) | assumption); obtain ⟨i046, hi046, _, hsz46, _⟩ := info_parts info3; have hroom46 : x3_1.length ≤ co5 := (Kd.R_reads' HO_3.out).2.1; have hC46 : Kd.C (Kd.int .i64) _ Ao5 x3_1.length x3_1 := (Kd.R_reads' HO_3.out).2.2; have q046 : (0 : Int) ≤ (x5_2 : Int) := of_decide_eq_true (by first | (with_reducible assumption) | assumption); have hcut46 := cut_from (P := Try.prog) 22 3 .i64 Try.underlying22 hi046 1 hsz46 Ao5 x3_1.length co5 x5_2 q046 q46; have hr46 := Kd.C_drop (m := (x5_2 : Int).toNat) (c := co5) hC46 (by omega) hroom46; obtain ⟨A46, hA46⟩ : ∃ A1, A1 = (if co5 = (x5_2 : Int).toNat then Ao5 else (Ao5 : Option Addr).map (·.add ((x5_2 : Int).toNat * 1))) := ⟨_, rfl⟩; obtain ⟨c46, hc46⟩ : ∃ c1, c1 = co5 - (x5_2 : Int).toNat := ⟨_, rfl⟩; have hy46 : y175.length = x3_1.length - (x5_2 : Int).toNat := (by rw [Ny175.out, List.length_drop] <;> omega); rw [show (x3_1).drop (x5_2 : Int).toNat = y175 from Ny175.out.symm] at hr46; replace hr46 : Kd.C (Kd.int .i64) _ A46 y175.length y175 := (by rw [hA46]; exact hr46); rw [← hy46, ← hA46, ← hc46] at hcut46; have HR178 := am hr46; have HC178 := am (show y175.length ≤ c46 from by rw [hy46, hc46]; exact Nat.sub_le_sub_right hroom46 _); clear hr46 hC46 hroom46 hi046 hsz46 hc46; have KY46 := am hy46; have KA46 := am hA46; clear hy46 hA46; have KL46 := am (show (x5_2 : Int).toNat ≤ x3_1.length from by omega); replace q46 := eq_true q46) | ((with_reducible refine gate_builtin (b := .append) (xs := #[.tmp 46, .tmp 49]) rfl ?_); at_builtin; refine Kd.R_append_rows (Kd.int .i64) (w0 := w) w.heap.size rfl (.tmp 46) (.tmp 49) 22 3 (.int .i64 0) 8 rfl Try.underlying22 info3 rfl (by decide) (by omega) v173 y172 y175 _ _ _ (fun k_ => nb k_ Ao5 x3_1 co5) (fun _ => False) rfl rfl ?aO ?aR (fun _ _ h => h) (fun _ h => h.elim) ?aF ?aB ?aS ?aL ?_; (case aR => exact co HR178.out); (case aB => exact bw); (case aF => exact (fun k_ hk => Kd.fresh' (Kd.R_lt (ro HO_3.out)) k_ hk)); (case aO => exact (by (with_reducible repeat (first | apply Kd.R_alloc | apply Kd.R_drewN | apply Kd.R_drew)); exact Kd.R_mono HO174.out (fun _ hk => hk.2))); (case aS => exact (below_size bw)); (case aL => have := LMc36.out; omega); intro v180 w47 ho hb hg hat; rw [← Ny179.out] at ho; replace HB := am (hb); replace HR178 := am ((show Kd.C (Kd.int .i64) w47 A46 y175.length y175 from by rw [Ny175.out, KA46.out]; exact Kd.C_drop (m := (x5_2 : Int).toNat) (c := co5) ((Kd.R_reads' (Kd.R_after (ok := (fun _ => True)) (ro HO_3.out) hg hat)).2.2) KL46.out ((Kd.R_reads' (Kd.R_after (ok := (fun _ => True)) (ro HO_3.out) hg hat)).2.1))); replace HO_3 := am (Kd.R_after (ok := (fun _ => True)) (ro HO_3.out) hg hat); have HO181 := am (ho); clear HO174 ho hb hg hat))
      replace HO_3 := am (Kd.R_drew HO_3.out)
      replace HO181 := am (Kd.R_drew HO181.out)
      replace HR178 := am (Kd.C_drew HR178.out)
      replace HB := am (below_drew1 HB.out)
      have q49 : (x5_2 : Int) ≤ ((x3_1.length : Int) : Int) := of_decide_eq_true (by first | (with_reducible assumption) | assumption)
      obtain ⟨i049, hi049, _, hsz49, _⟩ := info_parts info3
      have hcut49 := cut_to (P := Try.prog) 22 3 .i64 Try.underlying22 hi049 Ao5 x3_1.length co5 x5_2 (of_decide_eq_true (by first | (with_reducible assumption) | assumption)) q49 (Kd.R_reads' HO_3.out).2.1
      have hr49 := Kd.R_take (m := (x5_2 : Int).toNat) HO_3.out (by omega)
      have hy49 : y182.length = (x5_2 : Int).toNat := (by rw [Ny182.out, List.length_take]; omega)
      rw [← Ny182.out] at hr49
      rw [← hy49] at hr49 hcut49
      clear hy49 hi049 hsz49 HO_3
      have HO184 := am hr49
      clear hr49
      replace q49 := eq_true q49
      obtain ⟨⟨ad185, e185, hx185_0⟩, p185, q185⟩ := pq (Kd.at_int HR0.out x4_1)
      have hw185_0 := hx185_0
      cases e185
      replace hx185_0 := hw HB hx185_0
      refine start_ (n := 12) (S := fun w' => w'.cell? (ad185.add (x4_1).toNat) = some (.int .i64 (rd l0 x4_1))) (ds := []) (yz 12 0) (by kernel_rfl) rfl rfl (((HB.out.cell (World.block_lt_of_cell? w _ hw185_0)).trans hw185_0)) (fun hHeld => ?_); refine with_tabW spec_SortList.tab10 spec_SortList.bits10 (fun HT_ HW_ => ?_)
      generalize w47.drew = w48 at HO_3 HO181 HR178 HB HO184 hx185_0 hHeld ⊢
      refine pa 0 (some 51) (yz 12 1) HT_ ?_
      refine pa 1 (some 52) (yz 12 3) HT_ ?_
      refine pa 2 (some 53) (yz 12 7) HT_ ?_
      refine pa 3 (some 54) (yz 12 15) HT_ ?_
      refine pa 4 (some 55) (yz 12 31) HT_ ?_
      refine pa 5 (some 56) (yz 12 63) HT_ ?_
      refine pa 9 (some 60) (yz 12 575) HT_ ?_
      refine tK 6 (some 57) (yz 12 639) HT_ HW_ hHeld ?_
      refine oa 7 (some 58) (yz 12 767) HT_ (fun K hK => ?_)
      refine value_ (w1 := ?_) (v := ?_) (by rfl) rfl ?_ ?_
      rotate_left 2
      ·go_simp
       constructor
       ·rfl
       rfl
      refine hK.out _ _ ((World.cell?_alloc_lt _ _ _ (World.block_lt_of_cell? _ _ (((HB.out.cell (World.block_lt_of_cell? w _ hw185_0)).trans hw185_0)))).trans (((HB.out.cell (World.block_lt_of_cell? w _ hw185_0)).trans hw185_0))) (fun hHeld => ?_)
      clear hK K
      refine nm (some 58) ?_
      refine oa 8 (some 59) (yz 12 1023) HT_ (fun K hK => ?_)
      refine Kd.R_append_step (Kd.int .i64) (w0 := w) w.heap.size (by rfl) (.tmp 53) (.tmp 58) 22 3 (.int .i64 0) 8 rfl Try.underlying22 info3 rfl (by decide) (by omega) (.slice Ao5 y182.length co5) y182 (rd l0 x4_1) [.int .i64 (rd l0 x4_1)] (fun k_ => some k_ ≠ (v180 : Value).ownBlock) (fun _ => False) rfl rfl ?aP (fun _ hk => hk.elim) ?aF ?aO ?aB ?aS ?aL ?_
      (case aP => exact rfl)
      (case aB => exact bw)
      (case aF => exact (fun k_ hk => Kd.fresh' (Kd.R_lt (ro HO181.out)) k_ hk))
      (case aO => exact (by (with_reducible repeat (first | apply Kd.R_alloc | apply Kd.R_drewN | apply Kd.R_drew)); exact Kd.R_mono HO184.out (fun _ hk => hk.2)))
      (case aS => exact (below_size bw))
      (case aL => have := LMc40.out; omega)
      intro v187 w50 ho hb hg hat
      rw [← Ny186.out] at ho
      replace HO181 := am (Kd.R_after (ok := (fun _ => True)) (by (with_reducible repeat (first | apply Kd.R_alloc | apply Kd.R_drewN | apply Kd.R_drew)); exact Kd.R_mono HO181.out (fun _ hk => ⟨trivial, by first | exact hk | exact (by intro a n m c x h; cases a <;> exact h : ∀ (a : Option Addr) (n m c x : Nat), some x ≠ (Value.slice a n c).ownBlock → some x ≠ (Value.slice a m c).ownBlock) _ _ _ _ _ hk⟩)) hg hat)
      replace HB := am (hb)
      have HO188 := am (ho)
      clear HO184 ho hb hg hat
      obtain ⟨Ao52, co52, eo52⟩ := Kd.R_slice HO181.out
      (first | subst eo52 | (injection eo52 with f1_ f2_ f3_; have f4_ := f1_.symm; have f5_ := f3_.symm; clear f1_ f2_ f3_; subst f4_; subst f5_))
      refine hK.out _ _ (((HB.out.cell (World.block_lt_of_cell? w _ hw185_0)).trans hw185_0)) (fun hHeld => ?_)
      clear hK K
      refine nm (some 59) ?_
      refine oa 10 (some 61) (yz 12 2047) HT_ (fun K hK => ?_)
      refine Kd.R_append_rows_step (Kd.int .i64) (w0 := w) w.heap.size (by rfl) (.tmp 59) (.tmp 60) 22 3 (.int .i64 0) 8 rfl Try.underlying22 info3 rfl (by decide) (by omega) v187 y186 y179 _ _ _ (fun k_ => nb k_ Ao52 y179 co52) (fun _ => False) rfl rfl ?aO ?aR (fun _ _ h => h) (fun _ h => h.elim) ?aF ?aB ?aS ?aL ?_
      (case aR => exact co (Kd.R_reads' HO181.out).2.2)
      (case aB => exact bw)
      (case aF => exact (fun k_ hk => Kd.fresh' (Kd.R_lt (ro HO181.out)) k_ hk))
      (case aO => exact (ro HO188.out))
      (case aS => exact (below_size bw))
      (case aL => have := LMc41.out; omega)
      intro v190 w51 ho hb hg hat
      rw [← Ny189.out] at ho
      replace HO181 := am (Kd.R_after (ok := (fun _ => True)) (ro HO181.out) hg hat)
      replace HB := am (hb)
      have HO191 := am (ho)
      clear HO188 ho hb hg hat
      refine hK.out _ _ (((HB.out.cell (World.block_lt_of_cell? w _ hw185_0)).trans hw185_0)) (fun hHeld => ?_)
      clear hK K
      refine nm (some 61) ?_
      refine pa 11 (some 3) (yz 12 4095) HT_ ?_
      refine done_ (done_of HT_.out (by kernel_rfl)) ?_
      try go_wp2
      go_roundg k2
      case measure => have := HK1.out; have := HK2.out; omega
      case rel => exact ⟨(y189), (wrap64 (x4_1 + 1)), rr, H', ⟨by have := HK1.out; have := HK2.out; omega⟩, ⟨by (with_reducible repeat (first | apply Kd.R_alloc | apply Kd.R_drewN | apply Kd.R_drew)); exact Kd.R_mono HO191.out (fun _ hk => trivial)⟩, ⟨bw⟩⟩
   obtain rfl := Option.some.inj H
   go_wp2
   go_ret
   exact ⟨_, re, ro HO_3.out, bw⟩


/-! ### spec_l3Minimal: function 110 -/
def spec_l3Minimal.l0 : Nat → List Int → List Int → Int → Option (List Int)
 | 0, _, _, _ => none
 | k + 1, x3, x4, x5 => if x5 < (x4.length : Int) then (if x5 = 0 then (if 0 ≤ x5 then (if x3.length < 17592186044416 then (spec_l3Minimal.l0 k (x3 ++ [rd x4 x5]) x4 (wrap64 (x5 + 1))) else (none)) else (none)) else (if 0 ≤ x5 then (if x5 ≤ (x4.length : Int) then ((spec_l3Table.f k (x4.take (x5 : Int).toNat) (rd x4 x5)).bind fun t207 => (if 0 ≤ (rd x4 x5) then (if (rd x4 x5) < (t207.length : Int) then (if (rdOf false t207 (rd x4 x5) = true) then (spec_l3Minimal.l0 k x3 x4 (wrap64 (x5 + 1))) else (if x3.length < 17592186044416 then (spec_l3Minimal.l0 k (x3 ++ [rd x4 x5]) x4 (wrap64 (x5 + 1))) else (none))) else (none)) else (none))) else (none)) else (none))) else (some x3)
def spec_l3Minimal.f (k : Nat) (l0 : List Int) : Option (List Int) := (spec_SortList.f k l0).bind fun t195 => (spec_l3Minimal.l0 k (([] : List Int)) t195 0)
def spec_l3Minimal.T6 : Bool × List (List Nat × List Nat) := (true, [([], []), ([0], [0]), ([1], [1]), ([2], [2]), ([2], [2]), ([3, 4, 2], [2, 3, 4]), ([2], [2]), ([2], [2]), ([6, 7, 2], [2, 6, 7]), ([8, 2], [2, 8]), ([5, 9, 2, 2], [2, 5, 9]), ([2], [2]), ([2], [2]), ([11, 12, 2], [2, 11, 12]), ([13, 2], [2, 13]), ([10, 14, 2], [2, 10, 14]), ([15, 2], [2, 15]), ([16, 2], [2, 16]), ([2, 17], [2, 17])])
def spec_l3Minimal.B6 : List Nat := [0, 1, 3, 7, 7, 31, 7, 7, 199, 455, 1023, 7, 7, 6151, 14343, 32767, 65535, 131071, 262143]
theorem spec_l3Minimal.tab6 : rtab .any (opsOf Try.f110 6) = spec_l3Minimal.T6 := by kernel_rfl
theorem spec_l3Minimal.bits6 : waitsOk spec_l3Minimal.T6.2 spec_l3Minimal.B6 = true := by kernel_rfl
set_option maxHeartbeats 8000000 in
set_option maxRecDepth 100000 in
theorem spec_l3Minimal.calls (k : Nat) (A0 : Option Addr) (c0 : Nat) (l0 : List Int) (r : List Int) (w : World) (hr0 : Kd.C (Kd.int .i64) w A0 l0.length l0) (hc0 : l0.length ≤ c0) (h : spec_l3Minimal.f k l0 = some r) :
  Calls Try.prog 110 #[.slice A0 l0.length c0] w fun e w' => ∃ v0_ : Value, e = .returned (v0_) ∧ Kd.R (Kd.int .i64) 3 w' w.heap.size (fun _ => True) v0_ r ∧ Below w.heap.size w w' := by
 have HR0 := am hr0
 have HC0 := am hc0
 clear hr0 hc0
 have HB := am (Below.refl w.heap.size w)
 have H : ((spec_SortList.f k l0).bind fun t195 => (spec_l3Minimal.l0 k (([] : List Int)) t195 0)) = some r := h
 clear h
 obtain ⟨y192, hy192⟩ : ∃ y_ : List Int, y_ = (([] : List Int)) := ⟨_, rfl⟩
 replace H : ((spec_SortList.f k l0).bind fun t195 => (spec_l3Minimal.l0 k y192 t195 0)) = some r := by first | (rw [hy192]; with_reducible first | exact H | exact bs H) | (with_reducible first | exact bs H | exact H) | (rw [hy192]; exact H) | exact H
 have Ny192 := am hy192
 clear hy192
 replace H := ga H; obtain ⟨t195, A2, H⟩ := H
 have H' := am H
 clear H
 go_enter Try.func110, Try.ntmps110
 go_wp2_with (first | ((with_reducible refine gate_dst (N := 6) rfl ?_); refine Kd.R_lit (Kd.int .i64) _ 3 ?hg (N := 6) ?hd (xs := ([] : List Int)) (inner := []) (ok := fun _ => True) (okp := fun _ => True) ?hr ?hp (fun _ hk => hk) trivial (Below.refl _ _) (Nat.le_refl _) (by simp) ?_; (case hd => rfl); (case hg => rfl); (case hr => first | (go_simp; done) | (go_simp; rfl)); (case hp => exact (Reps.none _ _)); intro v193 w3 ho4 hb hg_ hnew_; clear hg_ hnew_; (first | rw [← Ny192.out] at ho4 | (simp only [Int.reduceToNat] at ho4; rw [← Ny192.out] at ho4)); have HO194 := am (Kd.R_lower ho4 (below_size bw)); replace HB := am (below_step bw hb); clear hb ho4) | ((with_reducible refine gate_callee (f := 143) rfl ?_); refine gl (some 8) Try.func143 #[.slice A0 l0.length c0] ?_; (with_reducible refine (spec_SortList.calls k _ _ l0 t195 _ ?side1 ?side2 A2.out).mono ?_); (case side1 => exact co (Kd.C_below HR0.out HB.out)); (case side2 => exact HC0.out); rintro e w5 ⟨v196, rfl, ho0, hb⟩; refine ⟨_, rfl, ?_⟩; have HO197 := am (Kd.R_lower (Kd.R_new' ho0 (Kd.R_lt (ro HO194.out))) (below_size bw)); replace HO194 := am (Kd.R_elder' (ro HO194.out) (Kd.R_base ho0) hb); replace HB := am (below_step bw hb); clear hb ho0))
 go_loopg [3, 5] k (fun kq v3 v5 w' => ∃ (x3_1 : List Int) (x5_1 : Int), v5 = .int .i64 x5_1 ∧ Aside0 (spec_l3Minimal.l0 kq x3_1 t195 x5_1 = some r) ∧ Aside0 (kq ≤ k) ∧ Aside0 (Kd.R (Kd.int .i64) 3 w' w.heap.size (fun k_ => some k_ ≠ (v196 : Value).ownBlock) v3 x3_1) ∧ Aside0 (Kd.R (Kd.int .i64) 3 w' w.heap.size (fun k_ => some k_ ≠ (v3 : Value).ownBlock) v196 t195) ∧ Aside0 (Below w.heap.size w w'))
 case atStart => exact ⟨(y192), (0), rr, H', ⟨Nat.le_refl _⟩, ⟨by (with_reducible repeat (first | apply Kd.R_alloc | apply Kd.R_drewN | apply Kd.R_drew)); exact Kd.R_mono HO194.out (fun _ hk => hk.2)⟩, ⟨by (with_reducible repeat (first | apply Kd.R_alloc | apply Kd.R_drewN | apply Kd.R_drew)); exact Kd.R_mono HO197.out (fun _ hk => hk.2)⟩, ⟨bw⟩⟩
 case round =>
  clear H'
  obtain ⟨x3_1, x5_1, rfl, HA, HK1, HO_3, HO_4, HB⟩ := hrel
  cases gk with
  | zero => exact absurd HA.out (by simp [spec_l3Minimal.l0])
  | succ k1 =>
   have H := HA.out
   clear HA
   simp only [spec_l3Minimal.l0] at H
   replace H := gi H; obtain ⟨c6b0, H⟩ | ⟨c6b0, H⟩ := H
   ·by_cases c7 : x5_1 = 0
    ·rw [if_pos c7] at H
     have c7b0 : (x5_1 == 0) = true := beq_iff_eq.mpr c7
     have c7b1 : (x5_1 != 0) = false := bne_eq_false_iff_eq.mpr c7
     clear c7
     replace H := gd H; obtain ⟨c8b0, H⟩ := H
     by_cases c9 : x3_1.length < 17592186044416
     rotate_left
     ·rw [if_neg c9] at H
      exact absurd H (by simp)
     rw [if_pos c9] at H
     have LMc9 := am c9
     clear c9
     obtain ⟨y199, hy199⟩ : ∃ y_ : List Int, y_ = (x3_1 ++ [rd t195 x5_1]) := ⟨_, rfl⟩
     replace H : (spec_l3Minimal.l0 k1 y199 t195 (wrap64 (x5_1 + 1))) = some r := by first | (rw [hy199]; with_reducible first | exact H | exact bs H) | (with_reducible first | exact bs H | exact H) | (rw [hy199]; exact H) | exact H
     have Ny199 := am hy199
     clear hy199
     have H' := am H
     clear H
     obtain ⟨Ao10, co10, eo10⟩ := Kd.R_slice HO_4.out
     subst eo10
     try go_wp2
     replace HO_3 := am (Kd.R_drew HO_3.out)
     replace HO_4 := am (Kd.R_drew HO_4.out)
     replace HB := am (below_drew1 HB.out)
     refine start_ (n := 19) (S := fun w' => True) (ds := []) (yz 19 0) (by kernel_rfl) rfl rfl trivial (fun hHeld => ?_); refine with_tabW spec_l3Minimal.tab6 spec_l3Minimal.bits6 (fun HT_ HW_ => ?_)
     generalize wr.drew = w11 at HO_3 HO_4 HB hHeld ⊢
     refine pa 0 (some 15) (yz 19 1) HT_ ?_
     refine pa 1 (some 16) (yz 19 3) HT_ ?_
     refine pa 2 (some 17) (yz 19 7) HT_ ?_
     refine pu 3 (some 18) (yz 19 15) HT_ ?_
     refine pu 4 (some 19) (yz 19 31) HT_ ?_
     refine pu 5 (some 20) (yz 19 63) HT_ ?_
     refine pu 6 (some 21) (yz 19 127) HT_ ?_
     refine pu 7 (some 22) (yz 19 255) HT_ ?_
     refine pu 8 (some 23) (yz 19 511) HT_ ?_
     refine pu 9 (some 24) (yz 19 1023) HT_ ?_
     refine pu 10 (some 25) (yz 19 2047) HT_ ?_
     refine pu 11 (some 26) (yz 19 4095) HT_ ?_
     refine pu 12 (some 27) (yz 19 8191) HT_ ?_
     refine pu 13 (some 28) (yz 19 16383) HT_ ?_
     refine pu 14 (some 29) (yz 19 32767) HT_ ?_
     refine pu 15 (some 30) (yz 19 65535) HT_ ?_
     refine pu 16 (some 31) (yz 19 131071) HT_ ?_
     refine pu 17 (some 32) (yz 19 262143) HT_ ?_
     refine pa 18 (some 33) (yz 19 524287) HT_ ?_
     refine done_ (done_of HT_.out (by kernel_rfl)) ?_
     obtain ⟨⟨ad198, e198, hx198_0⟩, p198, q198⟩ := pq (Kd.at_int (Kd.R_reads' HO_4.out).2.2 x5_1)
     cases e198
     try go_wp2_with (first | ((with_reducible refine gate_builtin (b := .append) (xs := #[.tmp 34, .tmp 39]) rfl ?_); at_builtin; refine Kd.R_append (Kd.int .i64) (w0 := w) w.heap.size rfl (.tmp 34) (.tmp 39) 22 3 (.int .i64 0) 8 rfl Try.underlying22 info3 rfl (by decide) (by omega) u3 x3_1 (rd t195 x5_1) [.int .i64 (rd t195 x5_1)] (fun k_ => some k_ ≠ (.slice (some ad198) t195.length co10 : Value).ownBlock) (fun _ => False) rfl rfl ?aP (fun _ hk => hk.elim) ?aF ?aO ?aB ?aS ?aL ?_; (case aP => exact rfl); (case aB => exact bw); (case aF => exact (fun k_ hk => Kd.fresh' (Kd.R_lt (ro HO_4.out)) k_ hk)); (case aO => exact (ro HO_3.out)); (case aS => exact (below_size bw)); (case aL => have := LMc9.out; omega); intro v200 w12 ho hb hg hat; rw [← Ny199.out] at ho; replace HO_4 := am (Kd.R_after (ok := (fun _ => True)) (by (with_reducible repeat (first | apply Kd.R_alloc | apply Kd.R_drewN | apply Kd.R_drew)); exact Kd.R_mono HO_4.out (fun _ hk => ⟨trivial, by first | exact hk | exact (by intro a n m c x h; cases a <;> exact h : ∀ (a : Option Addr) (n m c x : Nat), some x ≠ (Value.slice a n c).ownBlock → some x ≠ (Value.slice a m c).ownBlock) _ _ _ _ _ hk⟩)) hg hat); replace HB := am (hb); have HO201 := am (ho); clear HO_3 ho hb hg hat))
     go_roundg k1
     case measure => have := HK1.out; omega
     case rel => exact ⟨(y199), (wrap64 (x5_1 + 1)), rr, H', ⟨by have := HK1.out; omega⟩, ⟨ro HO201.out⟩, ⟨by (with_reducible repeat (first | apply Kd.R_alloc | apply Kd.R_drewN | apply Kd.R_drew)); exact Kd.R_mono HO_4.out (fun _ hk => hk.2)⟩, ⟨bw⟩⟩
    rw [if_neg c7] at H
    have c7b0 : (x5_1 == 0) = false := beq_eq_false_iff_ne.mpr c7
    have c7b1 : (x5_1 != 0) = true := bne_iff_ne.mpr c7
    replace H := gp H; obtain ⟨c13, H⟩ := H
    have c13b0 := eq_true c13
    have c13b1 : decide (0 ≤ x5_1) = true := decide_eq_true c13
    clear c13
    replace H := gp H; obtain ⟨c14, H⟩ := H
    have c14b0 := eq_true c14
    have c14b1 : decide (x5_1 ≤ (t195.length : Int)) = true := decide_eq_true c14
    clear c14
    obtain ⟨y202, hy202⟩ : ∃ y_ : List Int, y_ = (t195.take (x5_1 : Int).toNat) := ⟨_, rfl⟩
    replace H : ((spec_l3Table.f k1 y202 (rd t195 x5_1)).bind fun t207 => (if 0 ≤ (rd t195 x5_1) then (if (rd t195 x5_1) < (t207.length : Int) then (if (rdOf false t207 (rd t195 x5_1) = true) then (spec_l3Minimal.l0 k1 x3_1 t195 (wrap64 (x5_1 + 1))) else (if x3_1.length < 17592186044416 then (spec_l3Minimal.l0 k1 (x3_1 ++ [rd t195 x5_1]) t195 (wrap64 (x5_1 + 1))) else (none))) else (none)) else (none))) = some r := by first | (rw [hy202]; with_reducible first | exact H | exact bs H) | (with_reducible first | exact bs H | exact H) | (rw [hy202]; exact H) | exact H
    have Ny202 := am hy202
    clear hy202
    replace H := ga H; obtain ⟨t207, A15, H⟩ := H
    replace H := gd H; obtain ⟨c16b0, H⟩ := H
    replace H := gd H; obtain ⟨c17b0, H⟩ := H
    obtain ⟨bq18, hbq18⟩ : ∃ b_ : Bool, b_ = (rdOf false t207 (rd t195 x5_1)) := ⟨_, rfl⟩
    replace H : (if (bq18 = true) then (spec_l3Minimal.l0 k1 x3_1 t195 (wrap64 (x5_1 + 1))) else (if x3_1.length < 17592186044416 then (spec_l3Minimal.l0 k1 (x3_1 ++ [rd t195 x5_1]) t195 (wrap64 (x5_1 + 1))) else (none))) = some r := by rw [← hbq18] at H; exact H
    have Nbq18 := am hbq18
    clear hbq18
    by_cases c19 : (bq18 = true)
    ·subst c19
     have H1 : (spec_l3Minimal.l0 k1 x3_1 t195 (wrap64 (x5_1 + 1))) = some r := by rw [if_pos rfl] at H; exact H
     clear H
     have H := H1
     clear H1
     have H' := am H
     clear H
     obtain ⟨Ao20, co20, eo20⟩ := Kd.R_slice HO_4.out
     subst eo20
     try go_wp2
     replace HO_3 := am (Kd.R_drew HO_3.out)
     replace HO_4 := am (Kd.R_drew HO_4.out)
     replace HB := am (below_drew1 HB.out)
     have q22 : (x5_1 : Int) ≤ ((t195.length : Int) : Int) := of_decide_eq_true (by first | (with_reducible assumption) | assumption)
     obtain ⟨i022, hi022, _, hsz22, _⟩ := info_parts info3
     have hroom22 : t195.length ≤ co20 := (Kd.R_reads' HO_4.out).2.1
     have hC22 : Kd.C (Kd.int .i64) _ Ao20 t195.length t195 := (Kd.R_reads' HO_4.out).2.2
     have hcut22 := cut_to (P := Try.prog) 22 3 .i64 Try.underlying22 hi022 Ao20 t195.length co20 x5_1 (of_decide_eq_true (by first | (with_reducible assumption) | assumption)) q22 hroom22
     have hr22 := Kd.C_take (m := (x5_1 : Int).toNat) hC22 (by omega)
     have hy22 : y202.length = (x5_1 : Int).toNat := (by rw [Ny202.out, List.length_take]; omega)
     rw [← Ny202.out] at hr22
     rw [← hy22] at hcut22
     have HR205 := am hr22
     have HC205 := am (show y202.length ≤ co20 from by omega)
     clear hr22 hC22 hroom22 hi022 hsz22
     have KY22 := am hy22
     clear hy22
     have KL22 := am (show (x5_1 : Int).toNat ≤ t195.length from by omega)
     replace q22 := eq_true q22
     obtain ⟨⟨ad206, e206, hx206_0⟩, p206, q206⟩ := pq (Kd.at_int (Kd.R_reads' HO_4.out).2.2 x5_1)
     cases e206
     obtain ⟨⟨ad210, e210, hx210_0⟩, p210, q210⟩ := pq (Kd.at_int (Kd.R_reads' HO_4.out).2.2 x5_1)
     obtain rfl : ad206 = ad210 := (by injection e210)
     refine start_ (n := 19) (S := fun w' => w'.cell? (ad206.add (x5_1).toNat) = some (.int .i64 (rd t195 x5_1)) ∧ w'.cell? (ad206.add (x5_1).toNat) = some (.int .i64 (rd t195 x5_1))) (ds := []) (yz 19 0) (by kernel_rfl) rfl rfl ⟨hx206_0, hx210_0⟩ (fun hHeld => ?_); refine with_tabW spec_l3Minimal.tab6 spec_l3Minimal.bits6 (fun HT_ HW_ => ?_)
     generalize wr.drew = w21 at HO_3 HO_4 HB HR205 hx206_0 hx210_0 hHeld ⊢
     refine pa 0 (some 15) (yz 19 1) HT_ ?_
     refine pa 1 (some 16) (yz 19 3) HT_ ?_
     refine pa 2 (some 17) (yz 19 7) HT_ ?_
     refine pa 3 (some 18) (yz 19 15) HT_ ?_
     refine pa 4 (some 19) (yz 19 31) HT_ ?_
     refine pa 5 (some 20) (yz 19 63) HT_ ?_
     refine pa 6 (some 21) (yz 19 127) HT_ ?_
     refine pa 7 (some 22) (yz 19 255) HT_ ?_
     refine pa 8 (some 23) (yz 19 511) HT_ ?_
     refine pa 11 (some 26) (yz 19 2559) HT_ ?_
     refine pa 12 (some 27) (yz 19 6655) HT_ ?_
     refine pa 13 (some 28) (yz 19 14847) HT_ ?_
     refine tk 9 (some 24) (yz 19 15359) HT_ HW_ hHeld ?_
     refine tk 14 (some 29) (yz 19 31743) HT_ HW_ hHeld ?_
     refine oa 10 (some 25) (yz 19 32767) HT_ (fun K hK => ?_)
     refine gm Try.func123 #[.slice (some ad206) y202.length co20, .int .i64 (rd t195 x5_1)] ?_
     with_reducible refine (spec_l3Table.calls k1 _ _ y202 (rd t195 x5_1) t207 _ ?side1 ?side2 A15.out).mono ?_
     (case side1 => exact co HR205.out)
     (case side2 => exact HC205.out)
     rintro e w23 ⟨v208, rfl, ho0, hb⟩
     have HS0_ := (hb.cell (World.block_lt_of_cell? _ _ (hHeld.1))).trans (hHeld.1)
     have HS1_ := (hb.cell (World.block_lt_of_cell? _ _ (hHeld.2))).trans (hHeld.2)
     refine ⟨_, rfl, ?_⟩
     replace HO_3 := rK HO_3 hb
     replace HO_4 := rK HO_4 hb
     have HO209 := am (Kd.R_lower ho0 (below_size bw))
     replace HR205 := am (Kd.C_below (co HR205.out) hb)
     replace HB := am (below_step bw hb)
     clear hb ho0
     obtain ⟨Ao24, co24, eo24⟩ := Kd.R_slice HO209.out
     (first | subst eo24 | (injection eo24 with f1_ f2_ f3_; have f4_ := f1_.symm; have f5_ := f3_.symm; clear f1_ f2_ f3_; subst f4_; subst f5_))
     obtain ⟨⟨ad211, e211, hx211_0⟩, p211, q211⟩ := pq (Kd.at_bool (Kd.R_reads' HO209.out).2.2 (rd t195 x5_1))
     (try rw [← Nbq18.out] at hx211_0)
     cases e211
     refine hK.out _ _ ⟨HS0_, HS1_⟩ (fun hHeld => ?_)
     clear hK K
     refine nm (some 25) ?_
     refine pa 15 (some 30) (yz 19 65535) HT_ ?_
     refine oa 16 (some 31) (yz 19 131071) HT_ (fun K hK => ?_)
     refine value_ (w1 := ?_) (v := ?_) (by rfl) rfl ?_ ?_
     rotate_left 2
     ·go_simp
      constructor
      ·rfl
      rfl
     refine hK.out _ _ hHeld (fun hHeld => ?_)
     clear hK K
     refine nm (some 31) ?_
     refine pa 17 (some 32) (yz 19 262143) HT_ ?_
     refine pa 18 (some 33) (yz 19 524287) HT_ ?_
     refine done_ (done_of HT_.out (by kernel_rfl)) ?_
     try go_wp2
     go_roundg k1
     case measure => have := HK1.out; omega
     case rel => exact ⟨(x3_1), (wrap64 (x5_1 + 1)), rr, H', ⟨by have := HK1.out; omega⟩, ⟨ro HO_3.out⟩, ⟨ro HO_4.out⟩, ⟨bw⟩⟩
    replace c19 := Bool.eq_false_iff.mpr c19
    subst c19
    have H1 : (if x3_1.length < 17592186044416 then (spec_l3Minimal.l0 k1 (x3_1 ++ [rd t195 x5_1]) t195 (wrap64 (x5_1 + 1))) else (none)) = some r := by rw [if_neg (show ¬ (false = true) by decide)] at H; exact H
    clear H
    have H := H1
    clear H1
    by_cases c25 : x3_1.length < 17592186044416
    rotate_left
    ·rw [if_neg c25] at H
     exact absurd H (by simp)
    rw [if_pos c25] at H
    have LMc25 := am c25
    clear c25
    obtain ⟨y213, hy213⟩ : ∃ y_ : List Int, y_ = (x3_1 ++ [rd t195 x5_1]) := ⟨_, rfl⟩
    replace H : (spec_l3Minimal.l0 k1 y213 t195 (wrap64 (x5_1 + 1))) = some r := by first | (rw [hy213]; with_reducible first | exact H | exact bs H) | (with_reducible first | exact bs H | exact H) | (rw [hy213]; exact H) | exact H
    have Ny213 := am hy213
    clear hy213
    have H' := am H
    clear H
    obtain ⟨Ao26, co26, eo26⟩ := Kd.R_slice HO_4.out
    subst eo26
    try go_wp2
    replace HO_3 := am (Kd.R_drew HO_3.out)
    replace HO_4 := am (Kd.R_drew HO_4.out)
    replace HB := am (below_drew1 HB.out)
    have q28 : (x5_1 : Int) ≤ ((t195.length : Int) : Int) := of_decide_eq_true (by first | (with_reducible assumption) | assumption)
    obtain ⟨i028, hi028, _, hsz28, _⟩ := info_parts info3
    have hroom28 : t195.length ≤ co26 := (Kd.R_reads' HO_4.out).2.1
    have hC28 : Kd.C (Kd.int .i64) _ Ao26 t195.length t195 := (Kd.R_reads' HO_4.out).2.2
    have hcut28 := cut_to (P := Try.prog) 22 3 .i64 Try.underlying22 hi028 Ao26 t195.length co26 x5_1 (of_decide_eq_true (by first | (with_reducible assumption) | assumption)) q28 hroom28
    have hr28 := Kd.C_take (m := (x5_1 : Int).toNat) hC28 (by omega)
    have hy28 : y202.length = (x5_1 : Int).toNat := (by rw [Ny202.out, List.length_take]; omega)
    rw [← Ny202.out] at hr28
    rw [← hy28] at hcut28
    have HR205 := am hr28
    have HC205 := am (show y202.length ≤ co26 from by omega)
    clear hr28 hC28 hroom28 hi028 hsz28
    have KY28 := am hy28
    clear hy28
    have KL28 := am (show (x5_1 : Int).toNat ≤ t195.length from by omega)
    replace q28 := eq_true q28
    obtain ⟨⟨ad206, e206, hx206_0⟩, p206, q206⟩ := pq (Kd.at_int (Kd.R_reads' HO_4.out).2.2 x5_1)
    cases e206
    obtain ⟨⟨ad210, e210, hx210_0⟩, p210, q210⟩ := pq (Kd.at_int (Kd.R_reads' HO_4.out).2.2 x5_1)
    obtain rfl : ad206 = ad210 := (by injection e210)
    refine start_ (n := 19) (S := fun w' => w'.cell? (ad206.add (x5_1).toNat) = some (.int .i64 (rd t195 x5_1)) ∧ w'.cell? (ad206.add (x5_1).toNat) = some (.int .i64 (rd t195 x5_1))) (ds := []) (yz 19 0) (by kernel_rfl) rfl rfl ⟨hx206_0, hx210_0⟩ (fun hHeld => ?_); refine with_tabW spec_l3Minimal.tab6 spec_l3Minimal.bits6 (fun HT_ HW_ => ?_)
    generalize wr.drew = w27 at HO_3 HO_4 HB HR205 hx206_0 hx210_0 hHeld ⊢
    refine pa 0 (some 15) (yz 19 1) HT_ ?_
    refine pa 1 (some 16) (yz 19 3) HT_ ?_
    refine pa 2 (some 17) (yz 19 7) HT_ ?_
    refine pa 3 (some 18) (yz 19 15) HT_ ?_
    refine pa 4 (some 19) (yz 19 31) HT_ ?_
    refine pa 5 (some 20) (yz 19 63) HT_ ?_
    refine pa 6 (some 21) (yz 19 127) HT_ ?_
    refine pa 7 (some 22) (yz 19 255) HT_ ?_
    refine pa 8 (some 23) (yz 19 511) HT_ ?_
    refine pa 11 (some 26) (yz 19 2559) HT_ ?_
    refine pa 12 (some 27) (yz 19 6655) HT_ ?_
    refine pa 13 (some 28) (yz 19 14847) HT_ ?_
    refine tk 9 (some 24) (yz 19 15359) HT_ HW_ hHeld ?_
    refine tk 14 (some 29) (yz 19 31743) HT_ HW_ hHeld ?_
    refine oa 10 (some 25) (yz 19 32767) HT_ (fun K hK => ?_)
    refine gm Try.func123 #[.slice (some ad206) y202.length co26, .int .i64 (rd t195 x5_1)] ?_
    with_reducible refine (spec_l3Table.calls k1 _ _ y202 (rd t195 x5_1) t207 _ ?side1 ?side2 A15.out).mono ?_
    (case side1 => exact co HR205.out)
    (case side2 => exact HC205.out)
    rintro e w29 ⟨v208, rfl, ho0, hb⟩
    have HS0_ := (hb.cell (World.block_lt_of_cell? _ _ (hHeld.1))).trans (hHeld.1)
    have HS1_ := (hb.cell (World.block_lt_of_cell? _ _ (hHeld.2))).trans (hHeld.2)
    refine ⟨_, rfl, ?_⟩
    replace HO_3 := rK HO_3 hb
    replace HO_4 := rK HO_4 hb
    have HO209 := am (Kd.R_lower ho0 (below_size bw))
    replace HR205 := am (Kd.C_below (co HR205.out) hb)
    replace HB := am (below_step bw hb)
    clear hb ho0
    obtain ⟨Ao30, co30, eo30⟩ := Kd.R_slice HO209.out
    (first | subst eo30 | (injection eo30 with f1_ f2_ f3_; have f4_ := f1_.symm; have f5_ := f3_.symm; clear f1_ f2_ f3_; subst f4_; subst f5_))
    obtain ⟨⟨ad211, e211, hx211_0⟩, p211, q211⟩ := pq (Kd.at_bool (Kd.R_reads' HO209.out).2.2 (rd t195 x5_1))
    (try rw [← Nbq18.out] at hx211_0)
    cases e211
    refine hK.out _ _ ⟨HS0_, HS1_⟩ (fun hHeld => ?_)
    clear hK K
    refine nm (some 25) ?_
    refine pa 15 (some 30) (yz 19 65535) HT_ ?_
    refine oa 16 (some 31) (yz 19 131071) HT_ (fun K hK => ?_)
    refine value_ (w1 := ?_) (v := ?_) (by rfl) rfl ?_ ?_
    rotate_left 2
    ·go_simp
     constructor
     ·rfl
     rfl
    refine hK.out _ _ hHeld (fun hHeld => ?_)
    clear hK K
    refine nm (some 31) ?_
    refine pa 17 (some 32) (yz 19 262143) HT_ ?_
    refine pa 18 (some 33) (yz 19 524287) HT_ ?_
    refine done_ (done_of HT_.out (by kernel_rfl)) ?_
    obtain ⟨⟨ad212, e212, hx212_0⟩, p212, q212⟩ := pq (Kd.at_int (Kd.R_reads' HO_4.out).2.2 x5_1)
    obtain rfl : ad206 = ad212 := (by injection e212)
    try go_wp2_with (first | ((with_reducible refine gate_builtin (b := .append) (xs := #[.tmp 34, .tmp 39]) rfl ?_); at_builtin; refine Kd.R_append (Kd.int .i64) (w0 := w) w.heap.size rfl (.tmp 34) (.tmp 39) 22 3 (.int .i64 0) 8 rfl Try.underlying22 info3 rfl (by decide) (by omega) u3 x3_1 (rd t195 x5_1) [.int .i64 (rd t195 x5_1)] (fun k_ => some k_ ≠ (.slice (some ad206) t195.length co26 : Value).ownBlock) (fun _ => False) rfl rfl ?aP (fun _ hk => hk.elim) ?aF ?aO ?aB ?aS ?aL ?_; (case aP => exact rfl); (case aB => exact bw); (case aF => exact (fun k_ hk => Kd.fresh' (Kd.R_lt (ro HO_4.out)) k_ hk)); (case aO => exact (ro HO_3.out)); (case aS => exact (below_size bw)); (case aL => have := LMc25.out; omega); intro v214 w31 ho hb hg hat; rw [← Ny213.out] at ho; replace HO209 := am (Kd.R_over' (ro HO209.out) (Kd.R_typed (ro HO_3.out)) (by decide) hg); replace HB := am (hb); replace HR205 := am ((show Kd.C (Kd.int .i64) w31 (some ad206) y202.length y202 from by rw [Ny202.out]; exact Kd.C_take (m := (x5_1 : Int).toNat) ((Kd.R_reads' (Kd.R_after (ok := (fun _ => True)) (by (with_reducible repeat (first | apply Kd.R_alloc | apply Kd.R_drewN | apply Kd.R_drew)); exact Kd.R_mono HO_4.out (fun _ hk => ⟨trivial, by first | exact hk | exact (by intro a n m c x h; cases a <;> exact h : ∀ (a : Option Addr) (n m c x : Nat), some x ≠ (Value.slice a n c).ownBlock → some x ≠ (Value.slice a m c).ownBlock) _ _ _ _ _ hk⟩)) hg hat)).2.2) KL28.out)); replace HO_4 := am (Kd.R_after (ok := (fun _ => True)) (by (with_reducible repeat (first | apply Kd.R_alloc | apply Kd.R_drewN | apply Kd.R_drew)); exact Kd.R_mono HO_4.out (fun _ hk => ⟨trivial, by first | exact hk | exact (by intro a n m c x h; cases a <;> exact h : ∀ (a : Option Addr) (n m c x : Nat), some x ≠ (Value.slice a n c).ownBlock → some x ≠ (Value.slice a m c).ownBlock) _ _ _ _ _ hk⟩)) hg hat); have HO215 := am (ho); clear HO_3 ho hb hg hat))
    go_roundg k1
    case measure => have := HK1.out; omega
    case rel => exact ⟨(y213), (wrap64 (x5_1 + 1)), rr, H', ⟨by have := HK1.out; omega⟩, ⟨ro HO215.out⟩, ⟨by (with_reducible repeat (first | apply Kd.R_alloc | apply Kd.R_drewN | apply Kd.R_drew)); exact Kd.R_mono HO_4.out (fun _ hk => hk.2)⟩, ⟨bw⟩⟩
   obtain rfl := Option.some.inj H
   obtain ⟨Ao32, co32, eo32⟩ := Kd.R_slice HO_4.out
   subst eo32
   go_wp2
   go_ret
   exact ⟨_, re, by (with_reducible repeat (first | apply Kd.R_alloc | apply Kd.R_drewN | apply Kd.R_drew)); exact Kd.R_mono HO_3.out (fun _ hk => trivial), bw⟩


/-! ### spec_l3Ends: function 111 -/
def spec_l3Ends.l0 : Nat → List Int → List Bool → Int → Option (Bool)
 | 0, _, _, _ => none
 | k + 1, x0, x3, x4 => if 0 < (x0.length : Int) then (if x4 < (wrap64 (200 + (rd x0 0))) then (if 0 ≤ x4 then (if x4 < (x3.length : Int) then (if rdOf false x3 x4 = true then (spec_l3Ends.l0 k x0 x3 (wrap64 (x4 + 1))) else (some false)) else (none)) else (none)) else (some true)) else (none)
def spec_l3Ends.f (k : Nat) (l0 : List Int) : Option (Bool) := (spec_l3Table.f k l0 260).bind fun t216 => (spec_l3Ends.l0 k l0 t216 200)
set_option maxHeartbeats 8000000 in
set_option maxRecDepth 100000 in
theorem spec_l3Ends.calls (k : Nat) (A0 : Option Addr) (c0 : Nat) (l0 : List Int) (r : Bool) (w : World) (hr0 : Kd.C (Kd.int .i64) w A0 l0.length l0) (hc0 : l0.length ≤ c0) (h : spec_l3Ends.f k l0 = some r) :
  Calls Try.prog 111 #[.slice A0 l0.length c0] w fun e w' => e = .returned (.bool r) ∧ Below w.heap.size w w' := by
 have HR0 := am hr0
 have HC0 := am hc0
 clear hr0 hc0
 have HB := am (Below.refl w.heap.size w)
 have H : ((spec_l3Table.f k l0 260).bind fun t216 => (spec_l3Ends.l0 k l0 t216 200)) = some r := h
 clear h
 replace H := ga H; obtain ⟨t216, A2, H⟩ := H
 have H' := am H
 clear H
 go_enter Try.func111, Try.ntmps111
 go_wp2_with (first | ((with_reducible refine gate_callee (f := 123) rfl ?_); refine gl (some 6) Try.func123 #[.slice A0 l0.length c0, .int .i64 260] ?_; (with_reducible refine (spec_l3Table.calls k _ _ l0 260 t216 _ ?side1 ?side2 A2.out).mono ?_); (case side1 => exact co HR0.out); (case side2 => exact HC0.out); rintro e w3 ⟨v217, rfl, ho0, hb⟩; refine ⟨_, rfl, ?_⟩; have HO218 := am (Kd.R_lower ho0 (below_size bw)); replace HB := am (below_step bw hb); clear hb ho0))
 go_loopg [4] k (fun kq v4 w' => ∃ (x4_1 : Int), v4 = .int .i64 x4_1 ∧ Aside0 (spec_l3Ends.l0 kq l0 t216 x4_1 = some r) ∧ Aside0 (kq ≤ k) ∧ Aside0 (Kd.R Kd.bool 4 w' w.heap.size (fun _ => True) v217 t216) ∧ Aside0 (Below w.heap.size w w'))
 case atStart => exact ⟨(200), rr, H', ⟨Nat.le_refl _⟩, ⟨ro HO218.out⟩, ⟨bw⟩⟩
 case round =>
  clear H'
  obtain ⟨x4_1, rfl, HA, HK1, HO_3, HB⟩ := hrel
  cases gk with
  | zero => exact absurd HA.out (by simp [spec_l3Ends.l0])
  | succ k1 =>
   have H := HA.out
   clear HA
   simp only [spec_l3Ends.l0] at H
   replace H := gp H; obtain ⟨c4, H⟩ := H
   have c4b0 : decide (0 < (l0.length : Int)) = true := decide_eq_true c4
   have c4b1 : decide (0 < l0.length) = true := decide_eq_true (by omega)
   clear c4
   replace H := gi H; obtain ⟨c5b0, H⟩ | ⟨c5b0, H⟩ := H
   ·replace H := gd H; obtain ⟨c6b0, H⟩ := H
    replace H := gd H; obtain ⟨c7b0, H⟩ := H
    obtain ⟨bq8, hbq8⟩ : ∃ b_ : Bool, b_ = (rdOf false t216 x4_1) := ⟨_, rfl⟩
    replace H : (if bq8 = true then (spec_l3Ends.l0 k1 l0 t216 (wrap64 (x4_1 + 1))) else (some false)) = some r := by rw [← hbq8] at H; exact H
    have Nbq8 := am hbq8
    clear hbq8
    replace H := gb H; obtain ⟨rfl, H⟩ | ⟨rfl, H⟩ := H
    ·have H' := am H
     clear H
     have p219 : 0 ≤ (0 : Int) := (by omega)
     have q219 : 0 < (l0.length : Int) := of_decide_eq_true (by first | (with_reducible assumption) | assumption)
     obtain ⟨ad219, e219, hx219_0⟩ := Kd.at_int HR0.out 0 p219 q219
     cases e219
     have qi219 : (0 < l0.length) = True := eq_true (by omega)
     (try rw [show ((0 : Int)).toNat = 0 from rfl] at hx219_0)
     (try rw [Addr.add_zero'] at hx219_0)
     replace hx219_0 := hw HB hx219_0
     replace p219 := eq_true p219
     replace q219 := eq_true q219
     obtain ⟨Ao10, co10, eo10⟩ := Kd.R_slice HO_3.out
     subst eo10
     obtain ⟨⟨ad220, e220, hx220_0⟩, p220, q220⟩ := pq (Kd.at_bool (Kd.R_reads' HO_3.out).2.2 x4_1)
     (try rw [← Nbq8.out] at hx220_0)
     cases e220
     go_wp2
     go_roundg k1
     case measure => have := HK1.out; omega
     case rel => exact ⟨(wrap64 (x4_1 + 1)), rr, H', ⟨by have := HK1.out; omega⟩, ⟨ro HO_3.out⟩, ⟨bw⟩⟩
    obtain rfl := Option.some.inj H
    have p219 : 0 ≤ (0 : Int) := (by omega)
    have q219 : 0 < (l0.length : Int) := of_decide_eq_true (by first | (with_reducible assumption) | assumption)
    obtain ⟨ad219, e219, hx219_0⟩ := Kd.at_int HR0.out 0 p219 q219
    cases e219
    have qi219 : (0 < l0.length) = True := eq_true (by omega)
    (try rw [show ((0 : Int)).toNat = 0 from rfl] at hx219_0)
    (try rw [Addr.add_zero'] at hx219_0)
    replace hx219_0 := hw HB hx219_0
    replace p219 := eq_true p219
    replace q219 := eq_true q219
    obtain ⟨Ao11, co11, eo11⟩ := Kd.R_slice HO_3.out
    subst eo11
    obtain ⟨⟨ad220, e220, hx220_0⟩, p220, q220⟩ := pq (Kd.at_bool (Kd.R_reads' HO_3.out).2.2 x4_1)
    (try rw [← Nbq8.out] at hx220_0)
    cases e220
    go_wp2
    go_ret
    exact ⟨re, bw⟩
   obtain rfl := Option.some.inj H
   have p219 : 0 ≤ (0 : Int) := (by omega)
   have q219 : 0 < (l0.length : Int) := of_decide_eq_true (by first | (with_reducible assumption) | assumption)
   obtain ⟨ad219, e219, hx219_0⟩ := Kd.at_int HR0.out 0 p219 q219
   cases e219
   have qi219 : (0 < l0.length) = True := eq_true (by omega)
   (try rw [show ((0 : Int)).toNat = 0 from rfl] at hx219_0)
   (try rw [Addr.add_zero'] at hx219_0)
   replace hx219_0 := hw HB hx219_0
   replace p219 := eq_true p219
   replace q219 := eq_true q219
   go_wp2
   go_ret
   exact ⟨re, bw⟩

end Go.Proofs.Ytlfdipnhlmjiaaa.C
