/- Contracts of functions of the program: spec_l11Find. -/
import Derived.Test.YtkfplkdchkmgbaaC0
namespace Go.Proofs.Ytkfplkdchkmgbaa.C
open Go.RowKit Go.Proofs.YtkfplkdchkmgbaaW.PrintWords Go.Proofs.YtkfplkdchkmgbaaW.PrintLast Go.Proofs.YtkfplkdchkmgbaaW.PrintMore
attribute [local go_sem] max2_int min2_int max_two min_two max_three min_three max_four min_four
set_option linter.unusedVariables false
set_option linter.unusedSimpArgs false

/-! ### spec_l11Find: function 193 -/
mutual
def spec_l11Find.l0 : Nat → List Int → Int → List Int → Int → List (List Int) → Int → Option ((List (List Int)))
 | 0, _, _, _, _, _, _ => none
 | k + 1, x0, x1, x2, x7, x8, x9 => if x9 ≥ 0 then (if 0 ≤ x7 then (if x7 < (x0.length : Int) then ((some (([] : List Int) : List Int)).bind fun y1057 => (if y1057.length + x2.length < 17592186044416 then ((some (y1057 ++ x2 : List Int)).bind fun y1060 => ((some (([x9] : List Int) : List Int)).bind fun y1063 => (if y1060.length + y1063.length < 17592186044416 then ((spec_l11Find.f k x0 (wrap64 (x1 - (wrap64 (x9 * (rd x0 x7))))) (y1060 ++ y1063)).bind fun t1069 => (if x8.length + t1069.length < 5864062014805 then (spec_l11Find.l0 k x0 x1 x2 x7 (x8 ++ t1069) (wrap64 (x9 - 1))) else (none))) else (none)))) else (none))) else (none)) else (none)) else (some x8)
def spec_l11Find.f : Nat → List Int → Int → List Int → Option ((List (List Int)))
 | 0, _, _, _ => none
 | k + 1, l0, a1, l2 => if (l2.length : Int) = (l0.length : Int) then (if a1 = 0 then ((some (([] : List Int) : List Int)).bind fun y1020 => (if y1020.length + l2.length < 17592186044416 then (some (([(y1020 ++ l2)] : List (List Int)))) else (none))) else (some (([] : List (List Int))))) else ((some (([] : List (List Int)) : List (List Int))).bind fun y1032 => (if (l2.length : Int) = (wrap64 ((l0.length : Int) - 1)) then (if 0 ≤ (l2.length : Int) then (if (l2.length : Int) < (l0.length : Int) then (if (rd l0 (l2.length : Int)) = 0 then (none) else (if (Int.tmod a1 (rd l0 (l2.length : Int))) = 0 then ((some (([] : List Int) : List Int)).bind fun y1036 => (if y1036.length + l2.length < 17592186044416 then ((some (y1036 ++ l2 : List Int)).bind fun y1039 => ((some (([wrap64 (Int.tdiv a1 (rd l0 (l2.length : Int)))] : List Int) : List Int)).bind fun y1043 => (if y1039.length + y1043.length < 17592186044416 then ((some (([(y1039 ++ y1043)] : List (List Int)) : List (List Int))).bind fun y1049 => (if y1032.length + y1049.length < 5864062014805 then (some (y1032 ++ y1049)) else (none))) else (none)))) else (none))) else (some y1032))) else (none)) else (none)) else (if 0 ≤ (l2.length : Int) then (if (l2.length : Int) < (l0.length : Int) then (if (rd l0 (l2.length : Int)) = 0 then (none) else (spec_l11Find.l0 k l0 a1 l2 (l2.length : Int) y1032 (wrap64 (Int.tdiv a1 (rd l0 (l2.length : Int)))))) else (none)) else (none))))
end
def spec_l11Find.T9 : Bool × List (List Nat × List Nat) := (true, [([], []), ([], []), ([], []), ([1, 2], [1, 2]), ([], []), ([], []), ([], []), ([5, 6], [5, 6]), ([7], [7]), ([4, 8], [4, 8]), ([9], [9]), ([3, 10, 3], [3, 10]), ([11], [11]), ([0, 12, 11], [0, 12]), ([13, 13, 0, 1, 2, 3, 4, 5, 6, 7, 8, 9, 10, 11, 12, 13], [0, 13])])
def spec_l11Find.B9 : List Nat := [0, 0, 0, 6, 0, 0, 0, 96, 224, 496, 1008, 2046, 4094, 8191, 16383]
theorem spec_l11Find.tab9 : rtab .any (opsOf Try.f193 9) = spec_l11Find.T9 := by kernel_rfl
theorem spec_l11Find.bits9 : waitsOk spec_l11Find.T9.2 spec_l11Find.B9 = true := by kernel_rfl
def spec_l11Find.T14 : Bool × List (List Nat × List Nat) := (true, [([], []), ([], []), ([], []), ([], []), ([], []), ([], []), ([4, 5], [4, 5]), ([6], [6]), ([3, 7], [3, 7]), ([2, 8], [2, 8]), ([], []), ([], []), ([10, 11], [10, 11]), ([], []), ([13], [13]), ([12, 14, 12], [12, 14]), ([1, 9, 15, 15], [1, 9, 15]), ([0, 16, 16], [0, 16]), ([17, 17, 0, 1, 2, 3, 4, 5, 6, 7, 8, 9, 10, 11, 12, 13, 14, 15, 16, 17], [0, 17])])
def spec_l11Find.B14 : List Nat := [0, 0, 0, 0, 0, 0, 48, 112, 248, 508, 0, 0, 3072, 0, 8192, 31744, 65534, 131071, 262143]
theorem spec_l11Find.tab14 : rtab .any (opsOf Try.f193 14) = spec_l11Find.T14 := by kernel_rfl
theorem spec_l11Find.bits14 : waitsOk spec_l11Find.T14.2 spec_l11Find.B14 = true := by kernel_rfl
set_option maxHeartbeats 8000000 in
set_option maxRecDepth 100000 in
theorem spec_l11Find.calls (k : Nat) : ∀ (A0 : Option Addr) (c0 : Nat) (l0 : List Int) (a1 : Int) (A2 : Option Addr) (c2 : Nat) (l2 : List Int) (r : List (List Int)) (w : World) (hr0 : Kd.C (Kd.int .i64) w A0 l0.length l0) (hc0 : l0.length ≤ c0) (hr2 : Kd.C (Kd.int .i64) w A2 l2.length l2) (hc2 : l2.length ≤ c2) (h : spec_l11Find.f k l0 a1 l2 = some r),
  Calls Try.prog 193 #[.slice A0 l0.length c0, .int .i64 a1, .slice A2 l2.length c2] w fun e w' => ∃ v0_ : Value, e = .returned (v0_) ∧ Kd.N (Kd.slice 3 (Kd.int .i64)) 24 w' w.heap.size (fun k_ => (w.heap.size ≤ k_)) v0_ r ∧ Below w.heap.size w w' := by
 induction k using Nat.strongRecOn with
 | _ k ih =>
 intro A0 c0 l0 a1 A2 c2 l2 r w hr0 hc0 hr2 hc2 h
 cases k with
 | zero => exact absurd h (by simp [spec_l11Find.f])
 | succ k =>
 simp only [spec_l11Find.f] at h
 have HR0 := am hr0
 have HC0 := am hc0
 clear hr0 hc0
 have HR2 := am hr2
 have HC2 := am hc2
 clear hr2 hc2
 have HB := am (Below.refl w.heap.size w)
 have H : (if (l2.length : Int) = (l0.length : Int) then (if a1 = 0 then ((some (([] : List Int) : List Int)).bind fun y1020 => (if y1020.length + l2.length < 17592186044416 then (some (([(y1020 ++ l2)] : List (List Int)))) else (none))) else (some (([] : List (List Int))))) else ((some (([] : List (List Int)) : List (List Int))).bind fun y1032 => (if (l2.length : Int) = (wrap64 ((l0.length : Int) - 1)) then (if 0 ≤ (l2.length : Int) then (if (l2.length : Int) < (l0.length : Int) then (if (rd l0 (l2.length : Int)) = 0 then (none) else (if (Int.tmod a1 (rd l0 (l2.length : Int))) = 0 then ((some (([] : List Int) : List Int)).bind fun y1036 => (if y1036.length + l2.length < 17592186044416 then ((some (y1036 ++ l2 : List Int)).bind fun y1039 => ((some (([wrap64 (Int.tdiv a1 (rd l0 (l2.length : Int)))] : List Int) : List Int)).bind fun y1043 => (if y1039.length + y1043.length < 17592186044416 then ((some (([(y1039 ++ y1043)] : List (List Int)) : List (List Int))).bind fun y1049 => (if y1032.length + y1049.length < 5864062014805 then (some (y1032 ++ y1049)) else (none))) else (none)))) else (none))) else (some y1032))) else (none)) else (none)) else (if 0 ≤ (l2.length : Int) then (if (l2.length : Int) < (l0.length : Int) then (if (rd l0 (l2.length : Int)) = 0 then (none) else (spec_l11Find.l0 k l0 a1 l2 (l2.length : Int) y1032 (wrap64 (Int.tdiv a1 (rd l0 (l2.length : Int)))))) else (none)) else (none))))) = some r := h
 clear h
 by_cases c4 : (l2.length : Int) = (l0.length : Int)
 ·rw [if_pos c4] at H
  have c4b0 : ((l2.length : Int) == (l0.length : Int)) = true := beq_iff_eq.mpr c4
  have c4b1 : ((l2.length : Int) != (l0.length : Int)) = false := bne_eq_false_iff_eq.mpr c4
  have c4b2 : (l2.length == l0.length) = true := by first | simpa using c4 | (simp at c4 ⊢; omega)
  clear c4
  by_cases c5 : a1 = 0
  ·rw [if_pos c5] at H
   have c5b0 : (a1 == 0) = true := beq_iff_eq.mpr c5
   have c5b1 : (a1 != 0) = false := bne_eq_false_iff_eq.mpr c5
   clear c5
   obtain ⟨y1020, hy1020⟩ : ∃ y_ : List Int, y_ = (([] : List Int)) := ⟨_, rfl⟩
   replace H : (if y1020.length + l2.length < 17592186044416 then (some (([(y1020 ++ l2)] : List (List Int)))) else (none)) = some r := by first | (rw [hy1020]; with_reducible exact H) | (have H2_ := (Option.bind_some _ _).symm.trans H; rw [hy1020]; with_reducible exact H2_) | (have H2_ := (Option.bind_some _ _).symm.trans H; with_reducible exact H2_) | with_reducible exact H | (rw [hy1020]; exact H) | exact H
   have Ny1020 := am hy1020
   clear hy1020
   by_cases c6 : y1020.length + l2.length < 17592186044416
   rotate_left
   ·rw [if_neg c6] at H
    exact absurd H (by simp)
   rw [if_pos c6] at H
   have LMc6 := am c6
   clear c6
   obtain ⟨y1023, hy1023⟩ : ∃ y_ : List Int, y_ = (y1020 ++ l2) := ⟨_, rfl⟩
   replace H : (some (([y1023] : List (List Int)))) = some r := by first | (rw [hy1023]; with_reducible exact H) | (have H2_ := (Option.bind_some _ _).symm.trans H; rw [hy1023]; with_reducible exact H2_) | (have H2_ := (Option.bind_some _ _).symm.trans H; with_reducible exact H2_) | with_reducible exact H | (rw [hy1023]; exact H) | exact H
   have Ny1023 := am hy1023
   clear hy1023
   obtain ⟨y1026, hy1026⟩ : ∃ y_ : List (List Int), y_ = (([y1023] : List (List Int))) := ⟨_, rfl⟩
   replace H : (some y1026) = some r := by first | (rw [hy1026]; with_reducible exact H) | (have H2_ := (Option.bind_some _ _).symm.trans H; rw [hy1026]; with_reducible exact H2_) | (have H2_ := (Option.bind_some _ _).symm.trans H; with_reducible exact H2_) | with_reducible exact H | (rw [hy1026]; exact H) | exact H
   have Ny1026 := am hy1026
   clear hy1026
   obtain rfl := Option.some.inj H
   go_enter Try.func193, Try.ntmps193
   go_wp2_with (first | ((with_reducible refine gate_dst (N := 18) rfl ?_); refine Kd.R_lit (Kd.int .i64) _ 3 ?hg (N := 18) ?hd (xs := ([] : List Int)) (inner := []) (ok := fun _ => True) (okp := fun _ => True) ?hr ?hp (fun _ hk => hk) trivial (Below.refl _ _) (Nat.le_refl _) (by simp) ?_; (case hd => rfl); (case hg => rfl); (case hr => first | (go_simp; done) | (go_simp; rfl)); (case hp => exact (Reps.none _ _)); intro v1021 w7 ho8 hb hg_ hnew_; clear hg_ hnew_; (first | rw [← Ny1020.out] at ho8 | (simp only [Int.reduceToNat] at ho8; rw [← Ny1020.out] at ho8)); have HO1022 := am (Kd.R_lower (Kd.R_newM (M := fun k_ => (w.heap.size ≤ k_)) ho8 (below_size bw) (fun k_ h_ => h_)) (below_size bw)); replace HB := am (below_step bw hb); clear hb ho8) | ((with_reducible refine gate_builtin (b := .append) (xs := #[.tmp 18, .tmp 19]) rfl ?_); at_builtin; refine Kd.R_append_rows (Kd.int .i64) (w0 := w) w.heap.size rfl (.tmp 18) (.tmp 19) 24 3 (.int .i64 0) 8 rfl Try.underlying24 info3 rfl (by decide) (by omega) v1021 y1020 l2 _ _ _ (fun k_ => (w.heap.size ≤ k_)) (fun _ => False) rfl rfl ?aO ?aR (fun _ _ h => h) (fun _ h => h.elim) ?aF ?aB ?aS ?aL ?_; (case aR => exact co (Kd.C_below HR2.out HB.out)); (case aB => exact bw); (case aF => exact (fun k_ hk => (Nat.le_trans (below_size bw) hk))); (case aO => exact (by (with_reducible repeat (first | apply Kd.R_alloc | apply Kd.R_drewN | apply Kd.R_drew)); exact Kd.R_mono HO1022.out (fun _ hk => hk.1))); (case aS => exact (below_size bw)); (case aL => have := LMc6.out; omega); intro v1024 w9 ho hb hg hat; rw [← Ny1023.out] at ho; replace HB := am (hb); have HO1025 := am (ho); clear HO1022 ho hb hg hat; obtain ⟨Ao10, co10, eo10⟩ := Kd.R_slice HO1025.out; subst eo10) | ((with_reducible refine gate_dst (N := 21) rfl ?_); refine Kd.N_lit (Kd.slice 3 (Kd.int .i64)) _ 24 ?hg (N' := 21) ?hd (xs := ([y1023] : List (List Int))) (inner := [.slice Ao10 y1023.length co10]) (ok := (fun k_ => (w.heap.size ≤ k_))) (okp := (fun k_ => (w.heap.size ≤ k_))) ?hr ?hp (fun _ hk => hk) ((show ∀ k_, w9.heap.size ≤ k_ → (fun k_ => (w.heap.size ≤ k_)) k_ from fun k_ hk => (Nat.le_trans (below_size bw) hk)) _ (Nat.le_refl _)) (Below.refl _ _) (Nat.le_refl _) (by simp) ?_; (case hd => rfl); (case hg => rfl); (case hr => first | (go_simp; done) | (go_simp; rfl)); (case hp => exact (Reps.one (show Kd.FK (Kd.slice 3 (Kd.int .i64)) _ _ y1023 [.slice Ao10 y1023.length co10] from (Kd.FK_slice_mk (Kd.R_reads' (Kd.R_mono (ok' := (fun k_ => (w.heap.size ≤ k_))) (HO1025.out) (fun k_ hk => hk))).2.1 (Kd.R_F (Kd.R_mono (ok' := (fun k_ => (w.heap.size ≤ k_))) (HO1025.out) (fun k_ hk => hk))))) (Reps.none _ _))); intro v1027 w11 ho12 hb hg_ hnew_; clear hg_ hnew_; (first | rw [← Ny1026.out] at ho12 | (simp only [Int.reduceToNat] at ho12; rw [← Ny1026.out] at ho12)); have HO1028 := am (Kd.N_lower ho12 (below_size bw)); replace HB := am (below_step bw hb); clear HO1025 hb ho12))
   go_ret
   exact ⟨_, re, by (with_reducible repeat (first | apply Kd.N_alloc | apply Kd.N_drewN | apply Kd.N_drew)); exact HO1028.out, bw⟩
  ·rw [if_neg c5] at H
   have c5b0 : (a1 == 0) = false := beq_eq_false_iff_ne.mpr c5
   have c5b1 : (a1 != 0) = true := bne_iff_ne.mpr c5
   obtain ⟨y1029, hy1029⟩ : ∃ y_ : List (List Int), y_ = (([] : List (List Int))) := ⟨_, rfl⟩
   replace H : (some y1029) = some r := by first | (rw [hy1029]; with_reducible exact H) | (have H2_ := (Option.bind_some _ _).symm.trans H; rw [hy1029]; with_reducible exact H2_) | (have H2_ := (Option.bind_some _ _).symm.trans H; with_reducible exact H2_) | with_reducible exact H | (rw [hy1029]; exact H) | exact H
   have Ny1029 := am hy1029
   clear hy1029
   obtain rfl := Option.some.inj H
   go_enter Try.func193, Try.ntmps193
   go_wp2_with (first | ((with_reducible refine gate_dst (N := 22) rfl ?_); refine Kd.N_lit (Kd.slice 3 (Kd.int .i64)) _ 24 ?hg (N' := 22) ?hd (xs := ([] : List (List Int))) (inner := []) (ok := (fun k_ => (w.heap.size ≤ k_))) (okp := (fun k_ => (w.heap.size ≤ k_))) ?hr ?hp (fun _ hk => hk) ((show ∀ k_, w.heap.size ≤ k_ → (fun k_ => (w.heap.size ≤ k_)) k_ from fun k_ hk => (Nat.le_trans (below_size bw) hk)) _ (Nat.le_refl _)) (Below.refl _ _) (Nat.le_refl _) (by simp) ?_; (case hd => rfl); (case hg => rfl); (case hr => first | (go_simp; done) | (go_simp; rfl)); (case hp => exact (Reps.none _ _)); intro v1030 w13 ho14 hb hg_ hnew_; clear hg_ hnew_; (first | rw [← Ny1029.out] at ho14 | (simp only [Int.reduceToNat] at ho14; rw [← Ny1029.out] at ho14)); have HO1031 := am (Kd.N_lower ho14 (below_size bw)); replace HB := am (below_step bw hb); clear hb ho14))
   go_ret
   exact ⟨_, re, by (with_reducible repeat (first | apply Kd.N_alloc | apply Kd.N_drewN | apply Kd.N_drew)); exact HO1031.out, bw⟩
 ·rw [if_neg c4] at H
  have c4b0 : ((l2.length : Int) == (l0.length : Int)) = false := beq_eq_false_iff_ne.mpr c4
  have c4b1 : ((l2.length : Int) != (l0.length : Int)) = true := bne_iff_ne.mpr c4
  have c4b2 : (l2.length == l0.length) = false := by first | simpa using c4 | (simp at c4 ⊢; omega)
  obtain ⟨y1032, hy1032⟩ : ∃ y_ : List (List Int), y_ = (([] : List (List Int))) := ⟨_, rfl⟩
  replace H : (if (l2.length : Int) = (wrap64 ((l0.length : Int) - 1)) then (if 0 ≤ (l2.length : Int) then (if (l2.length : Int) < (l0.length : Int) then (if (rd l0 (l2.length : Int)) = 0 then (none) else (if (Int.tmod a1 (rd l0 (l2.length : Int))) = 0 then ((some (([] : List Int) : List Int)).bind fun y1036 => (if y1036.length + l2.length < 17592186044416 then ((some (y1036 ++ l2 : List Int)).bind fun y1039 => ((some (([wrap64 (Int.tdiv a1 (rd l0 (l2.length : Int)))] : List Int) : List Int)).bind fun y1043 => (if y1039.length + y1043.length < 17592186044416 then ((some (([(y1039 ++ y1043)] : List (List Int)) : List (List Int))).bind fun y1049 => (if y1032.length + y1049.length < 5864062014805 then (some (y1032 ++ y1049)) else (none))) else (none)))) else (none))) else (some y1032))) else (none)) else (none)) else (if 0 ≤ (l2.length : Int) then (if (l2.length : Int) < (l0.length : Int) then (if (rd l0 (l2.length : Int)) = 0 then (none) else (spec_l11Find.l0 k l0 a1 l2 (l2.length : Int) y1032 (wrap64 (Int.tdiv a1 (rd l0 (l2.length : Int)))))) else (none)) else (none))) = some r := by first | (rw [hy1032]; with_reducible exact H) | (have H2_ := (Option.bind_some _ _).symm.trans H; rw [hy1032]; with_reducible exact H2_) | (have H2_ := (Option.bind_some _ _).symm.trans H; with_reducible exact H2_) | with_reducible exact H | (rw [hy1032]; exact H) | exact H
  have Ny1032 := am hy1032
  clear hy1032
  by_cases c15 : (l2.length : Int) = (wrap64 ((l0.length : Int) - 1))
  ·rw [if_pos c15] at H
   have c15b0 : ((l2.length : Int) == (wrap64 ((l0.length : Int) - 1))) = true := beq_iff_eq.mpr c15
   have c15b1 : ((l2.length : Int) != (wrap64 ((l0.length : Int) - 1))) = false := bne_eq_false_iff_eq.mpr c15
   clear c15
   replace H := gp H; obtain ⟨c16, H⟩ := H
   have c16b0 : decide (0 ≤ (l2.length : Int)) = true := decide_eq_true c16
   have c16b1 : decide (0 ≤ l2.length) = true := decide_eq_true (by omega)
   clear c16
   replace H := gp H; obtain ⟨c17, H⟩ := H
   have c17b0 : decide ((l2.length : Int) < (l0.length : Int)) = true := decide_eq_true c17
   have c17b1 : decide (l2.length < l0.length) = true := decide_eq_true (Int.ofNat_lt.mp c17)
   clear c17
   by_cases c18 : (rd l0 (l2.length : Int)) = 0
   ·rw [if_pos c18] at H
    exact absurd H (by simp)
   ·rw [if_neg c18] at H
    have c18b0 : ((rd l0 (l2.length : Int)) == 0) = false := beq_eq_false_iff_ne.mpr c18
    have c18b1 : ((rd l0 (l2.length : Int)) != 0) = true := bne_iff_ne.mpr c18
    by_cases c19 : (Int.tmod a1 (rd l0 (l2.length : Int))) = 0
    ·rw [if_pos c19] at H
     have c19b0 : ((Int.tmod a1 (rd l0 (l2.length : Int))) == 0) = true := beq_iff_eq.mpr c19
     have c19b1 : ((Int.tmod a1 (rd l0 (l2.length : Int))) != 0) = false := bne_eq_false_iff_eq.mpr c19
     clear c19
     obtain ⟨y1036, hy1036⟩ : ∃ y_ : List Int, y_ = (([] : List Int)) := ⟨_, rfl⟩
     replace H : (if y1036.length + l2.length < 17592186044416 then ((some (y1036 ++ l2 : List Int)).bind fun y1039 => ((some (([wrap64 (Int.tdiv a1 (rd l0 (l2.length : Int)))] : List Int) : List Int)).bind fun y1043 => (if y1039.length + y1043.length < 17592186044416 then ((some (([(y1039 ++ y1043)] : List (List Int)) : List (List Int))).bind fun y1049 => (if y1032.length + y1049.length < 5864062014805 then (some (y1032 ++ y1049)) else (none))) else (none)))) else (none)) = some r := by first | (rw [hy1036]; with_reducible exact H) | (have H2_ := (Option.bind_some _ _).symm.trans H; rw [hy1036]; with_reducible exact H2_) | (have H2_ := (Option.bind_some _ _).symm.trans H; with_reducible exact H2_) | with_reducible exact H | (rw [hy1036]; exact H) | exact H
     have Ny1036 := am hy1036
     clear hy1036
     by_cases c20 : y1036.length + l2.length < 17592186044416
     rotate_left
     ·rw [if_neg c20] at H
      exact absurd H (by simp)
     rw [if_pos c20] at H
     have LMc20 := am c20
     clear c20
     obtain ⟨y1039, hy1039⟩ : ∃ y_ : List Int, y_ = (y1036 ++ l2) := ⟨_, rfl⟩
     replace H : ((some (([wrap64 (Int.tdiv a1 (rd l0 (l2.length : Int)))] : List Int) : List Int)).bind fun y1043 => (if y1039.length + y1043.length < 17592186044416 then ((some (([(y1039 ++ y1043)] : List (List Int)) : List (List Int))).bind fun y1049 => (if y1032.length + y1049.length < 5864062014805 then (some (y1032 ++ y1049)) else (none))) else (none))) = some r := by first | (rw [hy1039]; with_reducible exact H) | (have H2_ := (Option.bind_some _ _).symm.trans H; rw [hy1039]; with_reducible exact H2_) | (have H2_ := (Option.bind_some _ _).symm.trans H; with_reducible exact H2_) | with_reducible exact H | (rw [hy1039]; exact H) | exact H
     have Ny1039 := am hy1039
     clear hy1039
     obtain ⟨y1043, hy1043⟩ : ∃ y_ : List Int, y_ = (([wrap64 (Int.tdiv a1 (rd l0 (l2.length : Int)))] : List Int)) := ⟨_, rfl⟩
     replace H : (if y1039.length + y1043.length < 17592186044416 then ((some (([(y1039 ++ y1043)] : List (List Int)) : List (List Int))).bind fun y1049 => (if y1032.length + y1049.length < 5864062014805 then (some (y1032 ++ y1049)) else (none))) else (none)) = some r := by first | (rw [hy1043]; with_reducible exact H) | (have H2_ := (Option.bind_some _ _).symm.trans H; rw [hy1043]; with_reducible exact H2_) | (have H2_ := (Option.bind_some _ _).symm.trans H; with_reducible exact H2_) | with_reducible exact H | (rw [hy1043]; exact H) | exact H
     have Ny1043 := am hy1043
     clear hy1043
     by_cases c21 : y1039.length + y1043.length < 17592186044416
     rotate_left
     ·rw [if_neg c21] at H
      exact absurd H (by simp)
     rw [if_pos c21] at H
     have LMc21 := am c21
     clear c21
     obtain ⟨y1046, hy1046⟩ : ∃ y_ : List Int, y_ = (y1039 ++ y1043) := ⟨_, rfl⟩
     replace H : ((some (([y1046] : List (List Int)) : List (List Int))).bind fun y1049 => (if y1032.length + y1049.length < 5864062014805 then (some (y1032 ++ y1049)) else (none))) = some r := by first | (rw [hy1046]; with_reducible exact H) | (have H2_ := (Option.bind_some _ _).symm.trans H; rw [hy1046]; with_reducible exact H2_) | (have H2_ := (Option.bind_some _ _).symm.trans H; with_reducible exact H2_) | with_reducible exact H | (rw [hy1046]; exact H) | exact H
     have Ny1046 := am hy1046
     clear hy1046
     obtain ⟨y1049, hy1049⟩ : ∃ y_ : List (List Int), y_ = (([y1046] : List (List Int))) := ⟨_, rfl⟩
     replace H : (if y1032.length + y1049.length < 5864062014805 then (some (y1032 ++ y1049)) else (none)) = some r := by first | (rw [hy1049]; with_reducible exact H) | (have H2_ := (Option.bind_some _ _).symm.trans H; rw [hy1049]; with_reducible exact H2_) | (have H2_ := (Option.bind_some _ _).symm.trans H; with_reducible exact H2_) | with_reducible exact H | (rw [hy1049]; exact H) | exact H
     have Ny1049 := am hy1049
     clear hy1049
     by_cases c22 : y1032.length + y1049.length < 5864062014805
     rotate_left
     ·rw [if_neg c22] at H
      exact absurd H (by simp)
     rw [if_pos c22] at H
     have LMc22 := am c22
     clear c22
     obtain ⟨y1052, hy1052⟩ : ∃ y_ : List (List Int), y_ = (y1032 ++ y1049) := ⟨_, rfl⟩
     replace H : (some y1052) = some r := by first | (rw [hy1052]; with_reducible exact H) | (have H2_ := (Option.bind_some _ _).symm.trans H; rw [hy1052]; with_reducible exact H2_) | (have H2_ := (Option.bind_some _ _).symm.trans H; with_reducible exact H2_) | with_reducible exact H | (rw [hy1052]; exact H) | exact H
     have Ny1052 := am hy1052
     clear hy1052
     obtain rfl := Option.some.inj H
     go_enter Try.func193, Try.ntmps193
     try go_wp2_with (first | ((with_reducible refine gate_dst (N := 23) rfl ?_); refine Kd.N_lit (Kd.slice 3 (Kd.int .i64)) _ 24 ?hg (N' := 23) ?hd (xs := ([] : List (List Int))) (inner := []) (ok := (fun k_ => (w.heap.size ≤ k_))) (okp := (fun k_ => (w.heap.size ≤ k_))) ?hr ?hp (fun _ hk => hk) ((show ∀ k_, w.heap.size ≤ k_ → (fun k_ => (w.heap.size ≤ k_)) k_ from fun k_ hk => (Nat.le_trans (below_size bw) hk)) _ (Nat.le_refl _)) (Below.refl _ _) (Nat.le_refl _) (by simp) ?_; (case hd => rfl); (case hg => rfl); (case hr => first | (go_simp; done) | (go_simp; rfl)); (case hp => exact (Reps.none _ _)); intro v1033 w23 ho24 hb hg_ hnew_; clear hg_ hnew_; (first | rw [← Ny1032.out] at ho24 | (simp only [Int.reduceToNat] at ho24; rw [← Ny1032.out] at ho24)); have HO1034 := am (Kd.N_lower ho24 (below_size bw)); replace HB := am (below_step bw hb); clear hb ho24; have p1035 : 0 ≤ ((l2.length : Int) : Int) := of_decide_eq_true (by first | (with_reducible assumption) | assumption); have q1035 : (l2.length : Int) < (l0.length : Int) := of_decide_eq_true (by first | (with_reducible assumption) | assumption); obtain ⟨ad1035, e1035, hx1035_0⟩ := Kd.at_int HR0.out (l2.length : Int) p1035 q1035; cases e1035; replace hx1035_0 := (HB.out.cell (World.block_lt_of_cell? w _ hx1035_0)).trans hx1035_0; (try simp only [Go.IntWalk.toNatUp] at hx1035_0); replace p1035 := eq_true p1035; replace q1035 := eq_true q1035; obtain ⟨Ao25, co25, eo25⟩ := Kd.N_slice HO1034.out; subst eo25))
     replace HO1034 := am (Kd.N_drew HO1034.out)
     replace HB := am (below_drew1 HB.out)
     obtain ⟨⟨ad1042, e1042, hx1042_0⟩, p1042, q1042⟩ := pq (Kd.at_int HR0.out (l2.length : Int))
     have hw1042_0 := hx1042_0
     obtain rfl : ad1035 = ad1042 := (by injection e1042)
     replace hx1042_0 := (HB.out.cell (World.block_lt_of_cell? w _ hx1042_0)).trans hx1042_0
     (try simp only [Go.IntWalk.toNatUp] at hx1042_0)
     refine start_ (n := 15) (S := fun w' => w'.cell? (ad1035.add ((l2.length : Int)).toNat) = some (.int .i64 (rd l0 (l2.length : Int)))) (ds := []) (yz 15 0) (by kernel_rfl) rfl rfl (((HB.out.cell (World.block_lt_of_cell? w _ hw1042_0)).trans hw1042_0)) (fun hHeld => ?_); refine with_tabW spec_l11Find.tab9 spec_l11Find.bits9 (fun HT_ HW_ => ?_)
     generalize w23.drew = w26 at HO1034 HB hx1042_0 hHeld ⊢
     refine pa 0 (some 36) (yz 15 1) HT_ ?_
     refine pa 2 (some 38) (yz 15 5) HT_ ?_
     refine pa 4 (some 40) (yz 15 21) HT_ ?_
     refine pa 5 (some 41) (yz 15 53) HT_ ?_
     refine pa 6 (some 42) (yz 15 117) HT_ ?_
     refine pa 7 (some 43) (yz 15 245) HT_ ?_
     refine take_ (i := 8) (N := some 44) (v := ?_) (a' := ?_) (yz 15 501) rfl rfl (take_ofW HT_.out HW_.out (by kernel_rfl)) (fun _ _ _ h => h) (Or.inl ⟨by rfl, ?_⟩) hHeld ?_ ?_
     rotate_left
     ·intro w' s0
      (try simp only [Int.toNat_natCast] at s0)
      go_simp
      with_reducible rfl
     rotate_left
     ·simp only [Act.put, qa, qb, qc, i64_w, i32_w]
      rfl
     refine pa 9 (some 45) (yz 15 1013) HT_ ?_
     refine join_ (σ := Value × Value × Value) 4 (yz 15 2047) (fun s_ => [(37, s_.1), (39, s_.2.1), (46, s_.2.2)]) (fun s_ w' => (w'.cell? (ad1035.add ((l2.length : Int)).toNat) = some (.int .i64 (rd l0 (l2.length : Int)))) ∧ (Kd.N (Kd.slice 3 (Kd.int .i64)) 24 w' w.heap.size (fun k_ => (w.heap.size ≤ k_) ∧ some k_ ≠ (s_.2.1 : Value).ownBlock ∧ some k_ ≠ (s_.2.2 : Value).ownBlock) (.slice Ao25 y1032.length co25) y1032) ∧ (Kd.R (Kd.int .i64) 3 w' w.heap.size (fun k_ => (w.heap.size ≤ k_) ∧ some k_ ≠ (s_.2.2 : Value).ownBlock) s_.2.1 y1039) ∧ (Kd.R (Kd.int .i64) 3 w' w.heap.size (fun k_ => (w.heap.size ≤ k_) ∧ some k_ ≠ (s_.2.1 : Value).ownBlock) s_.2.2 y1043) ∧ (Below w.heap.size w w')) ?_ ?_
     rotate_left
     ·intro hCont
      refine two_ (i := 1) (j := 10) (Ni := some 37) (Nj := some 46) (yz 15 1015) (yz 15 2037) rfl rfl rfl rfl (two_of HT_.out (by kernel_rfl)) (by decide) (by decide) (fun K hK => ?_) (fun K hK => ?_)
      ·skip
       refine Kd.R_lit_step (Kd.int .i64) _ 3 ?hg (N := 37) ?hd (xs := ([] : List Int)) (inner := []) (ok := fun _ => True) (okp := fun _ => True) ?hr ?hp (fun _ hk => hk) trivial (Below.refl _ _) (Nat.le_refl _) (by simp) ?_; (case hd => rfl); (case hg => rfl); (case hr => first | (go_simp; done) | (go_simp; rfl)); (case hp => exact (Reps.none _ _))
       intro v1037 w27 ho28 hb hg_ hnew_
       clear hg_ hnew_
       (first | rw [← Ny1036.out] at ho28 | (simp only [Int.reduceToNat] at ho28; rw [← Ny1036.out] at ho28))
       replace HO1034 := am (Kd.N_elder' (no HO1034.out) (Kd.R_base ho28) hb)
       have HO1038 := am (Kd.R_lower (Kd.R_newM (M := fun k_ => (w.heap.size ≤ k_)) ho28 (below_size bw) (fun k_ h_ => h_)) (below_size bw))
       replace HB := am (below_step bw hb)
       clear hb ho28
       refine hK.out _ _ (((HB.out.cell (World.block_lt_of_cell? w _ hw1042_0)).trans hw1042_0)) (fun hHeld => ?_)
       clear hK K
       refine norm_ (a' := ?_) ?_ ?_
       rotate_left
       ·show Act.put _ (some 37) _ = _
        simp only [Act.put, qa, qb, qc, i64_w, i32_w]
        rfl
       refine two_ (i := 3) (j := 10) (Ni := some 39) (Nj := some 46) (yz 15 1023) (yz 15 2039) rfl rfl rfl rfl (two_of HT_.out (by kernel_rfl)) (by decide) (by decide) (fun K hK => ?_) (fun K hK => ?_)
       ·skip
        refine Kd.R_append_rows_step (Kd.int .i64) (w0 := w) w.heap.size (by rfl) (.tmp 37) (.tmp 38) 24 3 (.int .i64 0) 8 rfl Try.underlying24 info3 rfl (by decide) (by omega) v1037 y1036 l2 _ _ _ (fun k_ => (w.heap.size ≤ k_)) (fun _ => False) rfl rfl ?aO ?aR (fun _ _ h => h) (fun _ h => h.elim) ?aF ?aB ?aS ?aL ?_
        (case aR => exact co (Kd.C_below HR2.out HB.out))
        (case aB => exact bw)
        (case aF => exact (fun k_ hk => (Nat.le_trans (below_size bw) hk)))
        (case aO => exact (by (with_reducible repeat (first | apply Kd.R_alloc | apply Kd.R_drewN | apply Kd.R_drew)); exact Kd.R_mono HO1038.out (fun _ hk => hk.1)))
        (case aS => exact (below_size bw))
        (case aL => have := LMc20.out; omega)
        intro v1040 w29 ho hb hg hat
        rw [← Ny1039.out] at ho
        replace HO1034 := am (Kd.N_afterv (ok := (fun k_ => (w.heap.size ≤ k_))) (no HO1034.out) hg hat)
        replace HB := am (hb)
        have HO1041 := am (ho)
        clear HO1038 ho hb hg hat
        refine hK.out _ _ (((HB.out.cell (World.block_lt_of_cell? w _ hw1042_0)).trans hw1042_0)) (fun hHeld => ?_)
        clear hK K
        refine norm_ (a' := ?_) ?_ ?_
        rotate_left
        ·show Act.put _ (some 39) _ = _
         simp only [Act.put, qa, qb, qc, i64_w, i32_w]
         rfl
        refine oa 10 (some 46) (yz 15 2047) HT_ (fun K hK => ?_)
        refine Kd.R_lit_step (Kd.int .i64) _ 3 ?hg (N := 46) ?hd (xs := ([wrap64 (Int.tdiv a1 (rd l0 (l2.length : Int)))] : List Int)) (inner := [.int .i64 (wrap64 (Int.tdiv a1 (rd l0 (l2.length : Int))))]) (ok := fun _ => True) (okp := fun _ => True) ?hr ?hp (fun _ hk => hk) trivial (Below.refl _ _) (Nat.le_refl _) (by simp) ?_; (case hd => rfl); (case hg => rfl); (case hr => first | (go_simp; done) | (go_simp; rfl)); (case hp => exact (Reps.one (show Kd.M (Kd.int .i64) _ _ _ (wrap64 (Int.tdiv a1 (rd l0 (l2.length : Int)))) [.int .i64 (wrap64 (Int.tdiv a1 (rd l0 (l2.length : Int))))] from rfl) (Reps.none _ _)))
        intro v1044 w30 ho31 hb hg_ hnew_
        clear hg_ hnew_
        (first | rw [← Ny1043.out] at ho31 | (simp only [Int.reduceToNat] at ho31; rw [← Ny1043.out] at ho31))
        replace HO1034 := am (Kd.N_elder' (no HO1034.out) (Kd.R_base ho31) hb)
        have HO1045 := am (Kd.R_lower (Kd.R_new' (Kd.R_newM (M := fun k_ => (w.heap.size ≤ k_)) ho31 (below_size bw) (fun k_ h_ => h_)) (Kd.R_lt (ro HO1041.out))) (below_size bw))
        replace HO1041 := am (Kd.R_elder' (ro HO1041.out) (Kd.R_base ho31) hb)
        replace HB := am (below_step bw hb)
        clear hb ho31
        refine hK.out _ _ (((HB.out.cell (World.block_lt_of_cell? w _ hw1042_0)).trans hw1042_0)) (fun hHeld => ?_)
        clear hK K
        refine norm_ (a' := ?_) ?_ ?_
        rotate_left
        ·show Act.put _ (some 46) _ = _
         simp only [Act.put, qa, qb, qc, i64_w, i32_w]
         rfl
        exact norm_ (by simp only [putAll, Act.put, List.setIfInBounds_toArray, List.set_cons_zero, List.set_cons_succ]) (hCont (v1037, v1040, v1044) _ ⟨hHeld, (by (with_reducible repeat (first | apply Kd.N_alloc | apply Kd.N_drewN | apply Kd.N_drew)); exact Kd.N_mono HO1034.out (fun _ hk => ⟨hk.1.1, ⟨hk.1.2, hk.2⟩⟩)), (ro HO1041.out), (by (with_reducible repeat (first | apply Kd.R_alloc | apply Kd.R_drewN | apply Kd.R_drew)); exact Kd.R_mono HO1045.out (fun _ hk => by first | exact ⟨hk.1.1, hk.2⟩ | simp_all)), bw⟩)
       ·skip
        refine Kd.R_lit_step (Kd.int .i64) _ 3 ?hg (N := 46) ?hd (xs := ([wrap64 (Int.tdiv a1 (rd l0 (l2.length : Int)))] : List Int)) (inner := [.int .i64 (wrap64 (Int.tdiv a1 (rd l0 (l2.length : Int))))]) (ok := fun _ => True) (okp := fun _ => True) ?hr ?hp (fun _ hk => hk) trivial (Below.refl _ _) (Nat.le_refl _) (by simp) ?_; (case hd => rfl); (case hg => rfl); (case hr => first | (go_simp; done) | (go_simp; rfl)); (case hp => exact (Reps.one (show Kd.M (Kd.int .i64) _ _ _ (wrap64 (Int.tdiv a1 (rd l0 (l2.length : Int)))) [.int .i64 (wrap64 (Int.tdiv a1 (rd l0 (l2.length : Int))))] from rfl) (Reps.none _ _)))
        intro v1044 w29 ho30 hb hg_ hnew_
        clear hg_ hnew_
        (first | rw [← Ny1043.out] at ho30 | (simp only [Int.reduceToNat] at ho30; rw [← Ny1043.out] at ho30))
        replace HO1034 := am (Kd.N_elder' (no HO1034.out) (Kd.R_base ho30) hb)
        have HO1045 := am (Kd.R_lower (Kd.R_new' (Kd.R_newM (M := fun k_ => (w.heap.size ≤ k_)) ho30 (below_size bw) (fun k_ h_ => h_)) (Kd.R_lt (ro HO1038.out))) (below_size bw))
        replace HO1038 := am (Kd.R_elder' (ro HO1038.out) (Kd.R_base ho30) hb)
        replace HB := am (below_step bw hb)
        clear hb ho30
        refine hK.out _ _ (((HB.out.cell (World.block_lt_of_cell? w _ hw1042_0)).trans hw1042_0)) (fun hHeld => ?_)
        clear hK K
        refine norm_ (a' := ?_) ?_ ?_
        rotate_left
        ·show Act.put _ (some 46) _ = _
         simp only [Act.put, qa, qb, qc, i64_w, i32_w]
         rfl
        refine oa 3 (some 39) (yz 15 2047) HT_ (fun K hK => ?_)
        refine Kd.R_append_rows_step (Kd.int .i64) (w0 := w) w.heap.size (by rfl) (.tmp 37) (.tmp 38) 24 3 (.int .i64 0) 8 rfl Try.underlying24 info3 rfl (by decide) (by omega) v1037 y1036 l2 _ _ _ (fun k_ => (w.heap.size ≤ k_) ∧ some k_ ≠ (v1044 : Value).ownBlock) (fun _ => False) rfl rfl ?aO ?aR (fun _ _ h => h) (fun _ h => h.elim) ?aF ?aB ?aS ?aL ?_
        (case aR => exact co (Kd.C_below HR2.out HB.out))
        (case aB => exact bw)
        (case aF => exact (fun k_ hk => ⟨(Nat.le_trans (below_size bw) hk), Kd.fresh' (Kd.R_lt (ro HO1045.out)) k_ hk⟩))
        (case aO => exact (by (with_reducible repeat (first | apply Kd.R_alloc | apply Kd.R_drewN | apply Kd.R_drew)); exact Kd.R_mono HO1038.out (fun _ hk => by first | exact ⟨hk.1.1, hk.2⟩ | simp_all)))
        (case aS => exact (below_size bw))
        (case aL => have := LMc20.out; omega)
        intro v1040 w31 ho hb hg hat
        rw [← Ny1039.out] at ho
        replace HO1034 := am (Kd.N_afterv (ok := (fun k_ => (w.heap.size ≤ k_) ∧ some k_ ≠ (v1044 : Value).ownBlock)) (by (with_reducible repeat (first | apply Kd.N_alloc | apply Kd.N_drewN | apply Kd.N_drew)); exact Kd.N_mono HO1034.out (fun _ hk => ⟨⟨hk.1.1, hk.2⟩, hk.1.2⟩)) hg hat)
        replace HO1045 := am (Kd.R_after (ok := (fun k_ => (w.heap.size ≤ k_))) (by (with_reducible repeat (first | apply Kd.R_alloc | apply Kd.R_drewN | apply Kd.R_drew)); exact Kd.R_mono HO1045.out (fun _ hk => by first | exact ⟨hk.1.1, hk.2⟩ | simp_all)) hg hat)
        replace HB := am (hb)
        have HO1041 := am (ho)
        clear HO1038 ho hb hg hat
        refine hK.out _ _ (((HB.out.cell (World.block_lt_of_cell? w _ hw1042_0)).trans hw1042_0)) (fun hHeld => ?_)
        clear hK K
        refine norm_ (a' := ?_) ?_ ?_
        rotate_left
        ·show Act.put _ (some 39) _ = _
         simp only [Act.put, qa, qb, qc, i64_w, i32_w]
         rfl
        exact norm_ (by simp only [putAll, Act.put, List.setIfInBounds_toArray, List.set_cons_zero, List.set_cons_succ]) (hCont (v1037, v1040, v1044) _ ⟨hHeld, (by (with_reducible repeat (first | apply Kd.N_alloc | apply Kd.N_drewN | apply Kd.N_drew)); exact Kd.N_mono HO1034.out (fun _ hk => ⟨hk.1.1, ⟨hk.2, hk.1.2⟩⟩)), (ro HO1041.out), (ro HO1045.out), bw⟩)
      ·skip
       refine Kd.R_lit_step (Kd.int .i64) _ 3 ?hg (N := 46) ?hd (xs := ([wrap64 (Int.tdiv a1 (rd l0 (l2.length : Int)))] : List Int)) (inner := [.int .i64 (wrap64 (Int.tdiv a1 (rd l0 (l2.length : Int))))]) (ok := fun _ => True) (okp := fun _ => True) ?hr ?hp (fun _ hk => hk) trivial (Below.refl _ _) (Nat.le_refl _) (by simp) ?_; (case hd => rfl); (case hg => rfl); (case hr => first | (go_simp; done) | (go_simp; rfl)); (case hp => exact (Reps.one (show Kd.M (Kd.int .i64) _ _ _ (wrap64 (Int.tdiv a1 (rd l0 (l2.length : Int)))) [.int .i64 (wrap64 (Int.tdiv a1 (rd l0 (l2.length : Int))))] from rfl) (Reps.none _ _)))
       intro v1044 w27 ho28 hb hg_ hnew_
       clear hg_ hnew_
       (first | rw [← Ny1043.out] at ho28 | (simp only [Int.reduceToNat] at ho28; rw [← Ny1043.out] at ho28))
       replace HO1034 := am (Kd.N_elder' (no HO1034.out) (Kd.R_base ho28) hb)
       have HO1045 := am (Kd.R_lower (Kd.R_newM (M := fun k_ => (w.heap.size ≤ k_)) ho28 (below_size bw) (fun k_ h_ => h_)) (below_size bw))
       replace HB := am (below_step bw hb)
       clear hb ho28
       refine hK.out _ _ (((HB.out.cell (World.block_lt_of_cell? w _ hw1042_0)).trans hw1042_0)) (fun hHeld => ?_)
       clear hK K
       refine norm_ (a' := ?_) ?_ ?_
       rotate_left
       ·show Act.put _ (some 46) _ = _
        simp only [Act.put, qa, qb, qc, i64_w, i32_w]
        rfl
       refine oa 1 (some 37) (yz 15 2039) HT_ (fun K hK => ?_)
       refine Kd.R_lit_step (Kd.int .i64) _ 3 ?hg (N := 37) ?hd (xs := ([] : List Int)) (inner := []) (ok := fun _ => True) (okp := fun _ => True) ?hr ?hp (fun _ hk => hk) trivial (Below.refl _ _) (Nat.le_refl _) (by simp) ?_; (case hd => rfl); (case hg => rfl); (case hr => first | (go_simp; done) | (go_simp; rfl)); (case hp => exact (Reps.none _ _))
       intro v1037 w29 ho30 hb hg_ hnew_
       clear hg_ hnew_
       (first | rw [← Ny1036.out] at ho30 | (simp only [Int.reduceToNat] at ho30; rw [← Ny1036.out] at ho30))
       replace HO1034 := am (Kd.N_elder' (no HO1034.out) (Kd.R_base ho30) hb)
       have HO1038 := am (Kd.R_lower (Kd.R_new' (Kd.R_newM (M := fun k_ => (w.heap.size ≤ k_)) ho30 (below_size bw) (fun k_ h_ => h_)) (Kd.R_lt (ro HO1045.out))) (below_size bw))
       replace HO1045 := am (Kd.R_elder' (ro HO1045.out) (Kd.R_base ho30) hb)
       replace HB := am (below_step bw hb)
       clear hb ho30
       refine hK.out _ _ (((HB.out.cell (World.block_lt_of_cell? w _ hw1042_0)).trans hw1042_0)) (fun hHeld => ?_)
       clear hK K
       refine norm_ (a' := ?_) ?_ ?_
       rotate_left
       ·show Act.put _ (some 37) _ = _
        simp only [Act.put, qa, qb, qc, i64_w, i32_w]
        rfl
       refine oa 3 (some 39) (yz 15 2047) HT_ (fun K hK => ?_)
       refine Kd.R_append_rows_step (Kd.int .i64) (w0 := w) w.heap.size (by rfl) (.tmp 37) (.tmp 38) 24 3 (.int .i64 0) 8 rfl Try.underlying24 info3 rfl (by decide) (by omega) v1037 y1036 l2 _ _ _ (fun k_ => (w.heap.size ≤ k_) ∧ some k_ ≠ (v1044 : Value).ownBlock) (fun _ => False) rfl rfl ?aO ?aR (fun _ _ h => h) (fun _ h => h.elim) ?aF ?aB ?aS ?aL ?_
       (case aR => exact co (Kd.C_below HR2.out HB.out))
       (case aB => exact bw)
       (case aF => exact (fun k_ hk => ⟨(Nat.le_trans (below_size bw) hk), Kd.fresh' (Kd.R_lt (ro HO1045.out)) k_ hk⟩))
       (case aO => exact (by (with_reducible repeat (first | apply Kd.R_alloc | apply Kd.R_drewN | apply Kd.R_drew)); exact Kd.R_mono HO1038.out (fun _ hk => by first | exact ⟨hk.1.1, hk.2⟩ | simp_all)))
       (case aS => exact (below_size bw))
       (case aL => have := LMc20.out; omega)
       intro v1040 w31 ho hb hg hat
       rw [← Ny1039.out] at ho
       replace HO1034 := am (Kd.N_afterv (ok := (fun k_ => (w.heap.size ≤ k_) ∧ some k_ ≠ (v1044 : Value).ownBlock)) (no HO1034.out) hg hat)
       replace HO1045 := am (Kd.R_after (ok := (fun k_ => (w.heap.size ≤ k_))) (by (with_reducible repeat (first | apply Kd.R_alloc | apply Kd.R_drewN | apply Kd.R_drew)); exact Kd.R_mono HO1045.out (fun _ hk => by first | exact ⟨hk.1.1, hk.2⟩ | simp_all)) hg hat)
       replace HB := am (hb)
       have HO1041 := am (ho)
       clear HO1038 ho hb hg hat
       refine hK.out _ _ (((HB.out.cell (World.block_lt_of_cell? w _ hw1042_0)).trans hw1042_0)) (fun hHeld => ?_)
       clear hK K
       refine norm_ (a' := ?_) ?_ ?_
       rotate_left
       ·show Act.put _ (some 39) _ = _
        simp only [Act.put, qa, qb, qc, i64_w, i32_w]
        rfl
       exact norm_ (by simp only [putAll, Act.put, List.setIfInBounds_toArray, List.set_cons_zero, List.set_cons_succ]) (hCont (v1037, v1040, v1044) _ ⟨hHeld, (by (with_reducible repeat (first | apply Kd.N_alloc | apply Kd.N_drewN | apply Kd.N_drew)); exact Kd.N_mono HO1034.out (fun _ hk => ⟨hk.1.1, ⟨hk.2, hk.1.2⟩⟩)), (ro HO1041.out), (ro HO1045.out), bw⟩)
     rintro ⟨v1037, v1040, v1044⟩ w32 ⟨hS_, h0_, h1_, h2_, h3_⟩
     have n0_ : Aside0 (Kd.N (Kd.slice 3 (Kd.int .i64)) 24 w32 w.heap.size (fun k_ => (w.heap.size ≤ k_) ∧ some k_ ≠ (v1040 : Value).ownBlock ∧ some k_ ≠ (v1044 : Value).ownBlock) (.slice Ao25 y1032.length co25) y1032) := ⟨h0_⟩
     have n1_ : Aside0 (Kd.R (Kd.int .i64) 3 w32 w.heap.size (fun k_ => (w.heap.size ≤ k_) ∧ some k_ ≠ (v1044 : Value).ownBlock) v1040 y1039) := ⟨h1_⟩
     have n2_ : Aside0 (Kd.R (Kd.int .i64) 3 w32 w.heap.size (fun k_ => (w.heap.size ≤ k_) ∧ some k_ ≠ (v1040 : Value).ownBlock) v1044 y1043) := ⟨h2_⟩
     have n3_ : Aside0 (Below w.heap.size w w32) := ⟨h3_⟩
     clear HO1034
     clear HB
     clear h0_ h1_ h2_ h3_
     have HO1034 := n0_
     have HO1041 := n1_
     have HO1045 := n2_
     have HB := n3_
     clear n0_ n1_ n2_ n3_
     have hHeld : w32.cell? (ad1035.add ((l2.length : Int)).toNat) = some (.int .i64 (rd l0 (l2.length : Int))) := hS_
     obtain ⟨Ao34, co34, eo34⟩ := Kd.R_slice HO1045.out
     (first | subst eo34 | (injection eo34 with f1_ f2_ f3_; have f4_ := f1_.symm; have f5_ := f3_.symm; clear f1_ f2_ f3_; subst f4_; subst f5_))
     refine norm_ (a' := ?_) ?_ ?_
     rotate_left
     ·simp only [putAll, Act.put, List.setIfInBounds_toArray, List.set_cons_zero, List.set_cons_succ]
      rfl
     refine oa 11 (some 47) (yz 15 4095) HT_ (fun K hK => ?_)
     refine Kd.R_append_rows_step (Kd.int .i64) (w0 := w) w.heap.size (by rfl) (.tmp 39) (.tmp 46) 24 3 (.int .i64 0) 8 rfl Try.underlying24 info3 rfl (by decide) (by omega) v1040 y1039 y1043 _ _ _ (fun k_ => (w.heap.size ≤ k_) ∧ some k_ ≠ (.slice Ao34 y1043.length co34 : Value).ownBlock) (fun _ => False) rfl rfl ?aO ?aR (fun _ _ h => h) (fun _ h => h.elim) ?aF ?aB ?aS ?aL ?_
     (case aR => exact co (Kd.R_reads' HO1045.out).2.2)
     (case aB => exact bw)
     (case aF => exact (fun k_ hk => ⟨(Nat.le_trans (below_size bw) hk), Kd.fresh' (Kd.R_lt (ro HO1045.out)) k_ hk⟩))
     (case aO => exact (ro HO1041.out))
     (case aS => exact (below_size bw))
     (case aL => have := LMc21.out; omega)
     intro v1047 w33 ho hb hg hat
     rw [← Ny1046.out] at ho
     replace HO1034 := am (Kd.N_afterv (ok := (fun k_ => (w.heap.size ≤ k_) ∧ some k_ ≠ (.slice Ao34 y1043.length co34 : Value).ownBlock)) (by (with_reducible repeat (first | apply Kd.N_alloc | apply Kd.N_drewN | apply Kd.N_drew)); exact Kd.N_mono HO1034.out (fun _ hk => ⟨⟨hk.1, hk.2.2⟩, hk.2.1⟩)) hg hat)
     replace HO1045 := am (Kd.R_after (ok := (fun k_ => (w.heap.size ≤ k_))) (ro HO1045.out) hg hat)
     replace HB := am (hb)
     have HO1048 := am (ho)
     clear HO1041 ho hb hg hat
     obtain ⟨Ao35, co35, eo35⟩ := Kd.R_slice HO1048.out
     (first | subst eo35 | (injection eo35 with f1_ f2_ f3_; have f4_ := f1_.symm; have f5_ := f3_.symm; clear f1_ f2_ f3_; subst f4_; subst f5_))
     refine hK.out _ _ (((HB.out.cell (World.block_lt_of_cell? w _ hw1042_0)).trans hw1042_0)) (fun hHeld => ?_)
     clear hK K
     refine norm_ (a' := ?_) ?_ ?_
     rotate_left
     ·show Act.put _ (some 47) _ = _
      simp only [Act.put, qa, qb, qc, i64_w, i32_w]
      rfl
     refine oa 12 (some 48) (yz 15 8191) HT_ (fun K hK => ?_)
     refine Kd.N_lit_step (Kd.slice 3 (Kd.int .i64)) _ 24 ?hg (N' := 48) ?hd (xs := ([y1046] : List (List Int))) (inner := [.slice Ao35 y1046.length co35]) (ok := (fun k_ => (w.heap.size ≤ k_) ∧ some k_ ≠ (.slice Ao25 y1032.length co25 : Value).ownBlock ∧ some k_ ≠ (.slice Ao34 y1043.length co34 : Value).ownBlock)) (okp := (fun k_ => (w.heap.size ≤ k_) ∧ some k_ ≠ (.slice Ao25 y1032.length co25 : Value).ownBlock ∧ some k_ ≠ (.slice Ao34 y1043.length co34 : Value).ownBlock)) ?hr ?hp (fun _ hk => hk) ((show ∀ k_, w33.heap.size ≤ k_ → (fun k_ => (w.heap.size ≤ k_) ∧ some k_ ≠ (.slice Ao25 y1032.length co25 : Value).ownBlock ∧ some k_ ≠ (.slice Ao34 y1043.length co34 : Value).ownBlock) k_ from fun k_ hk => ⟨(Nat.le_trans (below_size bw) hk), Kd.fresh' (Kd.N_lt (no HO1034.out)) k_ hk, Kd.fresh' (Kd.R_lt (ro HO1045.out)) k_ hk⟩) _ (Nat.le_refl _)) (Below.refl _ _) (Nat.le_refl _) (by simp) ?_; (case hd => rfl); (case hg => rfl); (case hr => first | (go_simp; done) | (go_simp; rfl)); (case hp => exact (Reps.one (show Kd.FK (Kd.slice 3 (Kd.int .i64)) _ _ y1046 [.slice Ao35 y1046.length co35] from (Kd.FK_slice_mk (Kd.R_reads' (Kd.R_mono (ok' := (fun k_ => (w.heap.size ≤ k_) ∧ some k_ ≠ (.slice Ao25 y1032.length co25 : Value).ownBlock ∧ some k_ ≠ (.slice Ao34 y1043.length co34 : Value).ownBlock)) (Kd.R_apart' (HO1048.out) (Kd.N_typed HO1034.out) (by decide)) (fun k_ hk => ⟨hk.1.1, ⟨hk.2, hk.1.2⟩⟩))).2.1 (Kd.R_F (Kd.R_mono (ok' := (fun k_ => (w.heap.size ≤ k_) ∧ some k_ ≠ (.slice Ao25 y1032.length co25 : Value).ownBlock ∧ some k_ ≠ (.slice Ao34 y1043.length co34 : Value).ownBlock)) (Kd.R_apart' (HO1048.out) (Kd.N_typed HO1034.out) (by decide)) (fun k_ hk => ⟨hk.1.1, ⟨hk.2, hk.1.2⟩⟩))))) (Reps.none _ _)))
     intro v1050 w36 ho37 hb hg_ hnew_
     clear hg_ hnew_
     (first | rw [← Ny1049.out] at ho37 | (simp only [Int.reduceToNat] at ho37; rw [← Ny1049.out] at ho37))
     replace HO1034 := am (Kd.N_elder' (no HO1034.out) (Kd.N_base ho37) hb)
     replace HO1045 := am (Kd.R_below (ro HO1045.out) hb)
     have HO1051 := am (Kd.N_lower ho37 (below_size bw))
     replace HB := am (below_step bw hb)
     clear HO1048 hb ho37
     obtain ⟨Ao39, co39, eo39⟩ := Kd.N_slice HO1051.out
     (first | subst eo39 | (injection eo39 with f1_ f2_ f3_; have f4_ := f1_.symm; have f5_ := f3_.symm; clear f1_ f2_ f3_; subst f4_; subst f5_))
     refine hK.out _ _ (((HB.out.cell (World.block_lt_of_cell? w _ hw1042_0)).trans hw1042_0)) (fun hHeld => ?_)
     clear hK K
     refine norm_ (a' := ?_) ?_ ?_
     rotate_left
     ·show Act.put _ (some 48) _ = _
      simp only [Act.put, qa, qb, qc, i64_w, i32_w]
      rfl
     refine oa 13 (some 49) (yz 15 16383) HT_ (fun K hK => ?_)
     refine Kd.N_append_rows_step (Kd.slice 3 (Kd.int .i64)) (w0 := w) w.heap.size (by rfl) (.tmp 36) (.tmp 48) 58 24 (.slice none 0 0) 24 rfl Try.underlying58 info24 rfl (by decide) (by omega) (.slice Ao25 y1032.length co25) y1032 y1049 _ _ _ (fun k_ => (w.heap.size ≤ k_) ∧ some k_ ≠ (.slice Ao34 y1043.length co34 : Value).ownBlock) (fun k_ => ((fun k_ => (w.heap.size ≤ k_) ∧ some k_ ≠ (.slice Ao34 y1043.length co34 : Value).ownBlock)) k_ ∧ some k_ ≠ (.slice Ao25 y1032.length co25 : Value).ownBlock) rfl rfl ?aO ?aR (fun _ hk => hk) ?aF ?aB ?aS ?aL ?_
     (case aR => exact (by skip; exact Kd.N_F (Kd.N_mono (ok' := (fun k_ => ((fun k_ => (w.heap.size ≤ k_) ∧ some k_ ≠ (.slice Ao34 y1043.length co34 : Value).ownBlock)) k_ ∧ some k_ ≠ (.slice Ao25 y1032.length co25 : Value).ownBlock)) (HO1051.out) (fun k_ hk => ⟨⟨hk.1, hk.2.2⟩, hk.2.1⟩))))
     (case aB => exact bw)
     (case aF => exact (fun k_ hk => ⟨(Nat.le_trans (below_size bw) hk), Kd.fresh' (Kd.R_lt (ro HO1045.out)) k_ hk⟩))
     (case aO => exact (by (with_reducible repeat (first | apply Kd.N_alloc | apply Kd.N_drewN | apply Kd.N_drew)); exact Kd.N_mono HO1034.out (fun _ hk => by first | exact ⟨hk.1.1.1, hk.1.1.2⟩ | simp_all)))
     (case aS => exact (below_size bw))
     (case aL => have := LMc22.out; omega)
     intro v1053 w38 ho hb hg hat
     rw [← Ny1052.out] at ho
     replace HO1045 := am (Kd.R_over' (ro HO1045.out) (Kd.N_typed (no HO1034.out)) (by decide) hg)
     replace HO1051 := am (Kd.N_afterv (ok := (fun k_ => (w.heap.size ≤ k_) ∧ some k_ ≠ (.slice Ao34 y1043.length co34 : Value).ownBlock)) (by (with_reducible repeat (first | apply Kd.N_alloc | apply Kd.N_drewN | apply Kd.N_drew)); exact Kd.N_mono HO1051.out (fun _ hk => ⟨⟨hk.1, hk.2.2⟩, hk.2.1⟩)) hg hat)
     replace HB := am (hb)
     have HO1054 := am (ho)
     clear HO1034 ho hb hg hat
     refine hK.out _ _ (((HB.out.cell (World.block_lt_of_cell? w _ hw1042_0)).trans hw1042_0)) (fun hHeld => ?_)
     clear hK K
     refine norm_ (a' := ?_) ?_ ?_
     rotate_left
     ·show Act.put _ (some 49) _ = _
      simp only [Act.put, qa, qb, qc, i64_w, i32_w]
      rfl
     refine pa 14 (some 8) (yz 15 32767) HT_ ?_
     refine done_ (done_of HT_.out (by kernel_rfl)) ?_
     try go_wp2
     go_ret
     exact ⟨_, re, by (with_reducible repeat (first | apply Kd.N_alloc | apply Kd.N_drewN | apply Kd.N_drew)); exact Kd.N_mono HO1054.out (fun _ hk => hk.1), bw⟩
    ·rw [if_neg c19] at H
     have c19b0 : ((Int.tmod a1 (rd l0 (l2.length : Int))) == 0) = false := beq_eq_false_iff_ne.mpr c19
     have c19b1 : ((Int.tmod a1 (rd l0 (l2.length : Int))) != 0) = true := bne_iff_ne.mpr c19
     obtain rfl := Option.some.inj H
     go_enter Try.func193, Try.ntmps193
     go_wp2_with (first | ((with_reducible refine gate_dst (N := 23) rfl ?_); refine Kd.N_lit (Kd.slice 3 (Kd.int .i64)) _ 24 ?hg (N' := 23) ?hd (xs := ([] : List (List Int))) (inner := []) (ok := (fun k_ => (w.heap.size ≤ k_))) (okp := (fun k_ => (w.heap.size ≤ k_))) ?hr ?hp (fun _ hk => hk) ((show ∀ k_, w.heap.size ≤ k_ → (fun k_ => (w.heap.size ≤ k_)) k_ from fun k_ hk => (Nat.le_trans (below_size bw) hk)) _ (Nat.le_refl _)) (Below.refl _ _) (Nat.le_refl _) (by simp) ?_; (case hd => rfl); (case hg => rfl); (case hr => first | (go_simp; done) | (go_simp; rfl)); (case hp => exact (Reps.none _ _)); intro v1033 w40 ho41 hb hg_ hnew_; clear hg_ hnew_; (first | rw [← Ny1032.out] at ho41 | (simp only [Int.reduceToNat] at ho41; rw [← Ny1032.out] at ho41)); have HO1034 := am (Kd.N_lower ho41 (below_size bw)); replace HB := am (below_step bw hb); clear hb ho41; have p1035 : 0 ≤ ((l2.length : Int) : Int) := of_decide_eq_true (by first | (with_reducible assumption) | assumption); have q1035 : (l2.length : Int) < (l0.length : Int) := of_decide_eq_true (by first | (with_reducible assumption) | assumption); obtain ⟨ad1035, e1035, hx1035_0⟩ := Kd.at_int HR0.out (l2.length : Int) p1035 q1035; cases e1035; replace hx1035_0 := (HB.out.cell (World.block_lt_of_cell? w _ hx1035_0)).trans hx1035_0; (try simp only [Go.IntWalk.toNatUp] at hx1035_0); replace p1035 := eq_true p1035; replace q1035 := eq_true q1035))
     go_ret
     exact ⟨_, re, by (with_reducible repeat (first | apply Kd.N_alloc | apply Kd.N_drewN | apply Kd.N_drew)); exact HO1034.out, bw⟩
  ·rw [if_neg c15] at H
   have c15b0 : ((l2.length : Int) == (wrap64 ((l0.length : Int) - 1))) = false := beq_eq_false_iff_ne.mpr c15
   have c15b1 : ((l2.length : Int) != (wrap64 ((l0.length : Int) - 1))) = true := bne_iff_ne.mpr c15
   replace H := gp H; obtain ⟨c42, H⟩ := H
   have c42b0 : decide (0 ≤ (l2.length : Int)) = true := decide_eq_true c42
   have c42b1 : decide (0 ≤ l2.length) = true := decide_eq_true (by omega)
   clear c42
   replace H := gp H; obtain ⟨c43, H⟩ := H
   have c43b0 : decide ((l2.length : Int) < (l0.length : Int)) = true := decide_eq_true c43
   have c43b1 : decide (l2.length < l0.length) = true := decide_eq_true (Int.ofNat_lt.mp c43)
   clear c43
   by_cases c44 : (rd l0 (l2.length : Int)) = 0
   ·rw [if_pos c44] at H
    exact absurd H (by simp)
   ·rw [if_neg c44] at H
    have c44b0 : ((rd l0 (l2.length : Int)) == 0) = false := beq_eq_false_iff_ne.mpr c44
    have c44b1 : ((rd l0 (l2.length : Int)) != 0) = true := bne_iff_ne.mpr c44
    have H' := am H
    clear H
    go_enter Try.func193, Try.ntmps193
    go_wp2_with (first | ((with_reducible refine gate_dst (N := 23) rfl ?_); refine Kd.N_lit (Kd.slice 3 (Kd.int .i64)) _ 24 ?hg (N' := 23) ?hd (xs := ([] : List (List Int))) (inner := []) (ok := (fun k_ => (w.heap.size ≤ k_))) (okp := (fun k_ => (w.heap.size ≤ k_))) ?hr ?hp (fun _ hk => hk) ((show ∀ k_, w.heap.size ≤ k_ → (fun k_ => (w.heap.size ≤ k_)) k_ from fun k_ hk => (Nat.le_trans (below_size bw) hk)) _ (Nat.le_refl _)) (Below.refl _ _) (Nat.le_refl _) (by simp) ?_; (case hd => rfl); (case hg => rfl); (case hr => first | (go_simp; done) | (go_simp; rfl)); (case hp => exact (Reps.none _ _)); intro v1033 w45 ho46 hb hg_ hnew_; clear hg_ hnew_; (first | rw [← Ny1032.out] at ho46 | (simp only [Int.reduceToNat] at ho46; rw [← Ny1032.out] at ho46)); have HO1034 := am (Kd.N_lower ho46 (below_size bw)); replace HB := am (below_step bw hb); clear hb ho46; have p1055 : 0 ≤ ((l2.length : Int) : Int) := of_decide_eq_true (by first | (with_reducible assumption) | assumption); have q1055 : (l2.length : Int) < (l0.length : Int) := of_decide_eq_true (by first | (with_reducible assumption) | assumption); obtain ⟨ad1055, e1055, hx1055_0⟩ := Kd.at_int HR0.out (l2.length : Int) p1055 q1055; cases e1055; replace hx1055_0 := (HB.out.cell (World.block_lt_of_cell? w _ hx1055_0)).trans hx1055_0; (try simp only [Go.IntWalk.toNatUp] at hx1055_0); replace p1055 := eq_true p1055; replace q1055 := eq_true q1055))
    go_loopg [8, 9] k (fun kq v8 v9 w' => ∃ (x8_1 : List (List Int)) (x9_1 : Int), v9 = .int .i64 x9_1 ∧ Aside0 (spec_l11Find.l0 kq l0 a1 l2 (l2.length : Int) x8_1 x9_1 = some r) ∧ Aside0 (kq ≤ k) ∧ Aside0 (Kd.N (Kd.slice 3 (Kd.int .i64)) 24 w' w.heap.size (fun k_ => (w.heap.size ≤ k_)) v8 x8_1) ∧ Aside0 (Below w.heap.size w w'))
    case atStart => exact ⟨(y1032), (wrap64 (Int.tdiv a1 (rd l0 (l2.length : Int)))), rr, H', ⟨Nat.le_refl _⟩, ⟨by (with_reducible repeat (first | apply Kd.N_alloc | apply Kd.N_drewN | apply Kd.N_drew)); exact HO1034.out⟩, ⟨bw⟩⟩
    case round =>
     clear H'
     try clear c2; try clear c4; try clear c4b0; try clear c4b1; try clear c4b2; try clear c5; try clear c5b0; try clear c5b1; try clear c6; try clear c15; try clear c15b0; try clear c15b1; try clear c16; try clear c16b0; try clear c16b1; try clear c17; try clear c17b0; try clear c17b1; try clear c18; try clear c18b0; try clear c18b1; try clear c19; try clear c19b0; try clear c19b1; try clear c20; try clear c21; try clear c22; try clear c42; try clear c42b0; try clear c42b1; try clear c43; try clear c43b0; try clear c43b1; try clear c44; try clear c44b0; try clear c44b1; try clear hx1035_0; try clear hx1042_0; try clear hx1055_0; try clear p1035; try clear p1042; try clear p1055; try clear q1035; try clear q1042; try clear q1055
     obtain ⟨x8_1, x9_1, rfl, HA, HK1, HO_8, HB⟩ := hrel
     cases gk with
     | zero => exact absurd HA.out (by simp [spec_l11Find.l0])
     | succ k1 =>
      have H := HA.out
      clear HA
      simp only [spec_l11Find.l0] at H
      replace H := gj H; obtain ⟨c47, H⟩ | ⟨c47, H⟩ := H
      ·have c47b0 : decide (0 ≤ x9_1) = true := decide_eq_true c47
       clear c47
       replace H := gp H; obtain ⟨c48, H⟩ := H
       have c48b0 : decide (0 ≤ (l2.length : Int)) = true := decide_eq_true c48
       have c48b1 : decide (0 ≤ l2.length) = true := decide_eq_true (by omega)
       clear c48
       replace H := gp H; obtain ⟨c49, H⟩ := H
       have c49b0 : decide ((l2.length : Int) < (l0.length : Int)) = true := decide_eq_true c49
       have c49b1 : decide (l2.length < l0.length) = true := decide_eq_true (Int.ofNat_lt.mp c49)
       clear c49
       obtain ⟨y1057, hy1057⟩ : ∃ y_ : List Int, y_ = (([] : List Int)) := ⟨_, rfl⟩
       replace H : (if y1057.length + l2.length < 17592186044416 then ((some (y1057 ++ l2 : List Int)).bind fun y1060 => ((some (([x9_1] : List Int) : List Int)).bind fun y1063 => (if y1060.length + y1063.length < 17592186044416 then ((spec_l11Find.f k1 l0 (wrap64 (a1 - (wrap64 (x9_1 * (rd l0 (l2.length : Int)))))) (y1060 ++ y1063)).bind fun t1069 => (if x8_1.length + t1069.length < 5864062014805 then (spec_l11Find.l0 k1 l0 a1 l2 (l2.length : Int) (x8_1 ++ t1069) (wrap64 (x9_1 - 1))) else (none))) else (none)))) else (none)) = some r := by first | (rw [hy1057]; with_reducible exact H) | (have H2_ := (Option.bind_some _ _).symm.trans H; rw [hy1057]; with_reducible exact H2_) | (have H2_ := (Option.bind_some _ _).symm.trans H; with_reducible exact H2_) | with_reducible exact H | (rw [hy1057]; exact H) | exact H
       have Ny1057 := am hy1057
       clear hy1057
       by_cases c50 : y1057.length + l2.length < 17592186044416
       rotate_left
       ·rw [if_neg c50] at H
        exact absurd H (by simp)
       rw [if_pos c50] at H
       have LMc50 := am c50
       clear c50
       obtain ⟨y1060, hy1060⟩ : ∃ y_ : List Int, y_ = (y1057 ++ l2) := ⟨_, rfl⟩
       replace H : ((some (([x9_1] : List Int) : List Int)).bind fun y1063 => (if y1060.length + y1063.length < 17592186044416 then ((spec_l11Find.f k1 l0 (wrap64 (a1 - (wrap64 (x9_1 * (rd l0 (l2.length : Int)))))) (y1060 ++ y1063)).bind fun t1069 => (if x8_1.length + t1069.length < 5864062014805 then (spec_l11Find.l0 k1 l0 a1 l2 (l2.length : Int) (x8_1 ++ t1069) (wrap64 (x9_1 - 1))) else (none))) else (none))) = some r := by first | (rw [hy1060]; with_reducible exact H) | (have H2_ := (Option.bind_some _ _).symm.trans H; rw [hy1060]; with_reducible exact H2_) | (have H2_ := (Option.bind_some _ _).symm.trans H; with_reducible exact H2_) | with_reducible exact H | (rw [hy1060]; exact H) | exact H
       have Ny1060 := am hy1060
       clear hy1060
       obtain ⟨y1063, hy1063⟩ : ∃ y_ : List Int, y_ = (([x9_1] : List Int)) := ⟨_, rfl⟩
       replace H : (if y1060.length + y1063.length < 17592186044416 then ((spec_l11Find.f k1 l0 (wrap64 (a1 - (wrap64 (x9_1 * (rd l0 (l2.length : Int)))))) (y1060 ++ y1063)).bind fun t1069 => (if x8_1.length + t1069.length < 5864062014805 then (spec_l11Find.l0 k1 l0 a1 l2 (l2.length : Int) (x8_1 ++ t1069) (wrap64 (x9_1 - 1))) else (none))) else (none)) = some r := by first | (rw [hy1063]; with_reducible exact H) | (have H2_ := (Option.bind_some _ _).symm.trans H; rw [hy1063]; with_reducible exact H2_) | (have H2_ := (Option.bind_some _ _).symm.trans H; with_reducible exact H2_) | with_reducible exact H | (rw [hy1063]; exact H) | exact H
       have Ny1063 := am hy1063
       clear hy1063
       by_cases c51 : y1060.length + y1063.length < 17592186044416
       rotate_left
       ·rw [if_neg c51] at H
        exact absurd H (by simp)
       rw [if_pos c51] at H
       have LMc51 := am c51
       clear c51
       obtain ⟨y1066, hy1066⟩ : ∃ y_ : List Int, y_ = (y1060 ++ y1063) := ⟨_, rfl⟩
       replace H : ((spec_l11Find.f k1 l0 (wrap64 (a1 - (wrap64 (x9_1 * (rd l0 (l2.length : Int)))))) y1066).bind fun t1069 => (if x8_1.length + t1069.length < 5864062014805 then (spec_l11Find.l0 k1 l0 a1 l2 (l2.length : Int) (x8_1 ++ t1069) (wrap64 (x9_1 - 1))) else (none))) = some r := by first | (rw [hy1066]; with_reducible exact H) | (have H2_ := (Option.bind_some _ _).symm.trans H; rw [hy1066]; with_reducible exact H2_) | (have H2_ := (Option.bind_some _ _).symm.trans H; with_reducible exact H2_) | with_reducible exact H | (rw [hy1066]; exact H) | exact H
       have Ny1066 := am hy1066
       clear hy1066
       replace H := ga H; obtain ⟨t1069, A52, H⟩ := H
       by_cases c53 : x8_1.length + t1069.length < 5864062014805
       rotate_left
       ·rw [if_neg c53] at H
        exact absurd H (by simp)
       rw [if_pos c53] at H
       have LMc53 := am c53
       clear c53
       obtain ⟨y1072, hy1072⟩ : ∃ y_ : List (List Int), y_ = (x8_1 ++ t1069) := ⟨_, rfl⟩
       replace H : (spec_l11Find.l0 k1 l0 a1 l2 (l2.length : Int) y1072 (wrap64 (x9_1 - 1))) = some r := by first | (rw [hy1072]; with_reducible exact H) | (have H2_ := (Option.bind_some _ _).symm.trans H; rw [hy1072]; with_reducible exact H2_) | (have H2_ := (Option.bind_some _ _).symm.trans H; with_reducible exact H2_) | with_reducible exact H | (rw [hy1072]; exact H) | exact H
       have Ny1072 := am hy1072
       clear hy1072
       have H' := am H
       clear H
       obtain ⟨Ao54, co54, eo54⟩ := Kd.N_slice HO_8.out
       subst eo54
       try go_wp2
       replace HO_8 := am (Kd.N_drew HO_8.out)
       replace HB := am (below_drew1 HB.out)
       obtain ⟨⟨ad1056, e1056, hx1056_0⟩, p1056, q1056⟩ := pq (Kd.at_int HR0.out (l2.length : Int))
       have hw1056_0 := hx1056_0
       obtain rfl : ad1055 = ad1056 := (by injection e1056)
       replace hx1056_0 := (HB.out.cell (World.block_lt_of_cell? w _ hx1056_0)).trans hx1056_0
       (try simp only [Go.IntWalk.toNatUp] at hx1056_0)
       refine start_ (n := 19) (S := fun w' => w'.cell? (ad1055.add ((l2.length : Int)).toNat) = some (.int .i64 (rd l0 (l2.length : Int)))) (ds := []) (yz 19 0) (by kernel_rfl) rfl rfl (((HB.out.cell (World.block_lt_of_cell? w _ hw1056_0)).trans hw1056_0)) (fun hHeld => ?_); refine with_tabW spec_l11Find.tab14 spec_l11Find.bits14 (fun HT_ HW_ => ?_)
       generalize wr.drew = w55 at HO_8 HB hx1056_0 hHeld ⊢
       refine pa 0 (some 61) (yz 19 1) HT_ ?_
       refine pa 1 (some 62) (yz 19 3) HT_ ?_
       refine pa 2 (some 63) (yz 19 7) HT_ ?_
       refine pa 3 (some 64) (yz 19 15) HT_ ?_
       refine pa 4 (some 65) (yz 19 31) HT_ ?_
       refine pa 5 (some 66) (yz 19 63) HT_ ?_
       refine pa 6 (some 67) (yz 19 127) HT_ ?_
       refine pa 11 (some 72) (yz 19 2175) HT_ ?_
       refine pa 13 (some 74) (yz 19 10367) HT_ ?_
       refine take_ (i := 7) (N := some 68) (v := ?_) (a' := ?_) (yz 19 10495) rfl rfl (take_ofW HT_.out HW_.out (by kernel_rfl)) (fun _ _ _ h => h) (Or.inl ⟨by rfl, ?_⟩) hHeld ?_ ?_
       rotate_left
       ·intro w' s0
        (try simp only [Int.toNat_natCast] at s0)
        go_simp
        with_reducible rfl
       rotate_left
       ·simp only [Act.put, qa, qb, qc, i64_w, i32_w]
        rfl
       refine pa 8 (some 69) (yz 19 10751) HT_ ?_
       refine pa 9 (some 70) (yz 19 11263) HT_ ?_
       refine join_ (σ := Value × Value × Value) 4 (yz 19 32767) (fun s_ => [(71, s_.1), (73, s_.2.1), (75, s_.2.2)]) (fun s_ w' => (w'.cell? (ad1055.add ((l2.length : Int)).toNat) = some (.int .i64 (rd l0 (l2.length : Int)))) ∧ (Kd.R (Kd.int .i64) 3 w' w.heap.size (fun k_ => (w.heap.size ≤ k_) ∧ some k_ ≠ (s_.2.2 : Value).ownBlock) s_.2.1 y1060) ∧ (Kd.R (Kd.int .i64) 3 w' w.heap.size (fun k_ => (w.heap.size ≤ k_) ∧ some k_ ≠ (s_.2.1 : Value).ownBlock) s_.2.2 y1063) ∧ (Kd.N (Kd.slice 3 (Kd.int .i64)) 24 w' w.heap.size (fun k_ => (w.heap.size ≤ k_) ∧ some k_ ≠ (s_.2.1 : Value).ownBlock ∧ some k_ ≠ (s_.2.2 : Value).ownBlock) (.slice Ao54 x8_1.length co54) x8_1) ∧ (Below w.heap.size w w')) ?_ ?_
       rotate_left
       ·intro hCont
        refine two_ (i := 10) (j := 14) (Ni := some 71) (Nj := some 75) (yz 19 12287) (yz 19 27647) rfl rfl rfl rfl (two_of HT_.out (by kernel_rfl)) (by decide) (by decide) (fun K hK => ?_) (fun K hK => ?_)
        ·skip
         refine Kd.R_lit_step (Kd.int .i64) _ 3 ?hg (N := 71) ?hd (xs := ([] : List Int)) (inner := []) (ok := fun _ => True) (okp := fun _ => True) ?hr ?hp (fun _ hk => hk) trivial (Below.refl _ _) (Nat.le_refl _) (by simp) ?_; (case hd => rfl); (case hg => rfl); (case hr => first | (go_simp; done) | (go_simp; rfl)); (case hp => exact (Reps.none _ _))
         intro v1058 w56 ho57 hb hg_ hnew_
         clear hg_ hnew_
         (first | rw [← Ny1057.out] at ho57 | (simp only [Int.reduceToNat] at ho57; rw [← Ny1057.out] at ho57))
         replace HO_8 := am (Kd.N_elder' (no HO_8.out) (Kd.R_base ho57) hb)
         have HO1059 := am (Kd.R_lower (Kd.R_newM (M := fun k_ => (w.heap.size ≤ k_)) ho57 (below_size bw) (fun k_ h_ => h_)) (below_size bw))
         replace HB := am (below_step bw hb)
         clear hb ho57
         refine hK.out _ _ (((HB.out.cell (World.block_lt_of_cell? w _ hw1056_0)).trans hw1056_0)) (fun hHeld => ?_)
         clear hK K
         refine norm_ (a' := ?_) ?_ ?_
         rotate_left
         ·show Act.put _ (some 71) _ = _
          simp only [Act.put, qa, qb, qc, i64_w, i32_w]
          rfl
         refine two_ (i := 12) (j := 14) (Ni := some 73) (Nj := some 75) (yz 19 16383) (yz 19 28671) rfl rfl rfl rfl (two_of HT_.out (by kernel_rfl)) (by decide) (by decide) (fun K hK => ?_) (fun K hK => ?_)
         ·skip
          refine Kd.R_append_rows_step (Kd.int .i64) (w0 := w) w.heap.size (by rfl) (.tmp 71) (.tmp 72) 24 3 (.int .i64 0) 8 rfl Try.underlying24 info3 rfl (by decide) (by omega) v1058 y1057 l2 _ _ _ (fun k_ => (w.heap.size ≤ k_)) (fun _ => False) rfl rfl ?aO ?aR (fun _ _ h => h) (fun _ h => h.elim) ?aF ?aB ?aS ?aL ?_
          (case aR => exact co (Kd.C_below HR2.out HB.out))
          (case aB => exact bw)
          (case aF => exact (fun k_ hk => (Nat.le_trans (below_size bw) hk)))
          (case aO => exact (by (with_reducible repeat (first | apply Kd.R_alloc | apply Kd.R_drewN | apply Kd.R_drew)); exact Kd.R_mono HO1059.out (fun _ hk => hk.1)))
          (case aS => exact (below_size bw))
          (case aL => have := LMc50.out; omega)
          intro v1061 w58 ho hb hg hat
          rw [← Ny1060.out] at ho
          replace HO_8 := am (Kd.N_afterv (ok := (fun k_ => (w.heap.size ≤ k_))) (no HO_8.out) hg hat)
          replace HB := am (hb)
          have HO1062 := am (ho)
          clear HO1059 ho hb hg hat
          refine hK.out _ _ (((HB.out.cell (World.block_lt_of_cell? w _ hw1056_0)).trans hw1056_0)) (fun hHeld => ?_)
          clear hK K
          refine norm_ (a' := ?_) ?_ ?_
          rotate_left
          ·show Act.put _ (some 73) _ = _
           simp only [Act.put, qa, qb, qc, i64_w, i32_w]
           rfl
          refine oa 14 (some 75) (yz 19 32767) HT_ (fun K hK => ?_)
          refine Kd.R_lit_step (Kd.int .i64) _ 3 ?hg (N := 75) ?hd (xs := ([x9_1] : List Int)) (inner := [.int .i64 x9_1]) (ok := fun _ => True) (okp := fun _ => True) ?hr ?hp (fun _ hk => hk) trivial (Below.refl _ _) (Nat.le_refl _) (by simp) ?_; (case hd => rfl); (case hg => rfl); (case hr => first | (go_simp; done) | (go_simp; rfl)); (case hp => exact (Reps.one (show Kd.M (Kd.int .i64) _ _ _ x9_1 [.int .i64 x9_1] from rfl) (Reps.none _ _)))
          intro v1064 w59 ho60 hb hg_ hnew_
          clear hg_ hnew_
          (first | rw [← Ny1063.out] at ho60 | (simp only [Int.reduceToNat] at ho60; rw [← Ny1063.out] at ho60))
          replace HO_8 := am (Kd.N_elder' (no HO_8.out) (Kd.R_base ho60) hb)
          have HO1065 := am (Kd.R_lower (Kd.R_new' (Kd.R_newM (M := fun k_ => (w.heap.size ≤ k_)) ho60 (below_size bw) (fun k_ h_ => h_)) (Kd.R_lt (ro HO1062.out))) (below_size bw))
          replace HO1062 := am (Kd.R_elder' (ro HO1062.out) (Kd.R_base ho60) hb)
          replace HB := am (below_step bw hb)
          clear hb ho60
          refine hK.out _ _ (((HB.out.cell (World.block_lt_of_cell? w _ hw1056_0)).trans hw1056_0)) (fun hHeld => ?_)
          clear hK K
          refine norm_ (a' := ?_) ?_ ?_
          rotate_left
          ·show Act.put _ (some 75) _ = _
           simp only [Act.put, qa, qb, qc, i64_w, i32_w]
           rfl
          exact norm_ (by simp only [putAll, Act.put, List.setIfInBounds_toArray, List.set_cons_zero, List.set_cons_succ]) (hCont (v1058, v1061, v1064) _ ⟨hHeld, (ro HO1062.out), (by (with_reducible repeat (first | apply Kd.R_alloc | apply Kd.R_drewN | apply Kd.R_drew)); exact Kd.R_mono HO1065.out (fun _ hk => by first | exact ⟨hk.1.1, hk.2⟩ | simp_all)), (by (with_reducible repeat (first | apply Kd.N_alloc | apply Kd.N_drewN | apply Kd.N_drew)); exact Kd.N_mono HO_8.out (fun _ hk => ⟨hk.1.1, ⟨hk.1.2, hk.2⟩⟩)), bw⟩)
         ·skip
          refine Kd.R_lit_step (Kd.int .i64) _ 3 ?hg (N := 75) ?hd (xs := ([x9_1] : List Int)) (inner := [.int .i64 x9_1]) (ok := fun _ => True) (okp := fun _ => True) ?hr ?hp (fun _ hk => hk) trivial (Below.refl _ _) (Nat.le_refl _) (by simp) ?_; (case hd => rfl); (case hg => rfl); (case hr => first | (go_simp; done) | (go_simp; rfl)); (case hp => exact (Reps.one (show Kd.M (Kd.int .i64) _ _ _ x9_1 [.int .i64 x9_1] from rfl) (Reps.none _ _)))
          intro v1064 w58 ho59 hb hg_ hnew_
          clear hg_ hnew_
          (first | rw [← Ny1063.out] at ho59 | (simp only [Int.reduceToNat] at ho59; rw [← Ny1063.out] at ho59))
          replace HO_8 := am (Kd.N_elder' (no HO_8.out) (Kd.R_base ho59) hb)
          have HO1065 := am (Kd.R_lower (Kd.R_new' (Kd.R_newM (M := fun k_ => (w.heap.size ≤ k_)) ho59 (below_size bw) (fun k_ h_ => h_)) (Kd.R_lt (ro HO1059.out))) (below_size bw))
          replace HO1059 := am (Kd.R_elder' (ro HO1059.out) (Kd.R_base ho59) hb)
          replace HB := am (below_step bw hb)
          clear hb ho59
          refine hK.out _ _ (((HB.out.cell (World.block_lt_of_cell? w _ hw1056_0)).trans hw1056_0)) (fun hHeld => ?_)
          clear hK K
          refine norm_ (a' := ?_) ?_ ?_
          rotate_left
          ·show Act.put _ (some 75) _ = _
           simp only [Act.put, qa, qb, qc, i64_w, i32_w]
           rfl
          refine oa 12 (some 73) (yz 19 32767) HT_ (fun K hK => ?_)
          refine Kd.R_append_rows_step (Kd.int .i64) (w0 := w) w.heap.size (by rfl) (.tmp 71) (.tmp 72) 24 3 (.int .i64 0) 8 rfl Try.underlying24 info3 rfl (by decide) (by omega) v1058 y1057 l2 _ _ _ (fun k_ => (w.heap.size ≤ k_) ∧ some k_ ≠ (v1064 : Value).ownBlock) (fun _ => False) rfl rfl ?aO ?aR (fun _ _ h => h) (fun _ h => h.elim) ?aF ?aB ?aS ?aL ?_
          (case aR => exact co (Kd.C_below HR2.out HB.out))
          (case aB => exact bw)
          (case aF => exact (fun k_ hk => ⟨(Nat.le_trans (below_size bw) hk), Kd.fresh' (Kd.R_lt (ro HO1065.out)) k_ hk⟩))
          (case aO => exact (by (with_reducible repeat (first | apply Kd.R_alloc | apply Kd.R_drewN | apply Kd.R_drew)); exact Kd.R_mono HO1059.out (fun _ hk => by first | exact ⟨hk.1.1, hk.2⟩ | simp_all)))
          (case aS => exact (below_size bw))
          (case aL => have := LMc50.out; omega)
          intro v1061 w60 ho hb hg hat
          rw [← Ny1060.out] at ho
          replace HO_8 := am (Kd.N_afterv (ok := (fun k_ => (w.heap.size ≤ k_) ∧ some k_ ≠ (v1064 : Value).ownBlock)) (by (with_reducible repeat (first | apply Kd.N_alloc | apply Kd.N_drewN | apply Kd.N_drew)); exact Kd.N_mono HO_8.out (fun _ hk => ⟨⟨hk.1.1, hk.2⟩, hk.1.2⟩)) hg hat)
          replace HO1065 := am (Kd.R_after (ok := (fun k_ => (w.heap.size ≤ k_))) (by (with_reducible repeat (first | apply Kd.R_alloc | apply Kd.R_drewN | apply Kd.R_drew)); exact Kd.R_mono HO1065.out (fun _ hk => by first | exact ⟨hk.1.1, hk.2⟩ | simp_all)) hg hat)
          replace HB := am (hb)
          have HO1062 := am (ho)
          clear HO1059 ho hb hg hat
          refine hK.out _ _ (((HB.out.cell (World.block_lt_of_cell? w _ hw1056_0)).trans hw1056_0)) (fun hHeld => ?_)
          clear hK K
          refine norm_ (a' := ?_) ?_ ?_
          rotate_left
          ·show Act.put _ (some 73) _ = _
           simp only [Act.put, qa, qb, qc, i64_w, i32_w]
           rfl
          exact norm_ (by simp only [putAll, Act.put, List.setIfInBounds_toArray, List.set_cons_zero, List.set_cons_succ]) (hCont (v1058, v1061, v1064) _ ⟨hHeld, (ro HO1062.out), (ro HO1065.out), (by (with_reducible repeat (first | apply Kd.N_alloc | apply Kd.N_drewN | apply Kd.N_drew)); exact Kd.N_mono HO_8.out (fun _ hk => ⟨hk.1.1, ⟨hk.2, hk.1.2⟩⟩)), bw⟩)
        ·skip
         refine Kd.R_lit_step (Kd.int .i64) _ 3 ?hg (N := 75) ?hd (xs := ([x9_1] : List Int)) (inner := [.int .i64 x9_1]) (ok := fun _ => True) (okp := fun _ => True) ?hr ?hp (fun _ hk => hk) trivial (Below.refl _ _) (Nat.le_refl _) (by simp) ?_; (case hd => rfl); (case hg => rfl); (case hr => first | (go_simp; done) | (go_simp; rfl)); (case hp => exact (Reps.one (show Kd.M (Kd.int .i64) _ _ _ x9_1 [.int .i64 x9_1] from rfl) (Reps.none _ _)))
         intro v1064 w56 ho57 hb hg_ hnew_
         clear hg_ hnew_
         (first | rw [← Ny1063.out] at ho57 | (simp only [Int.reduceToNat] at ho57; rw [← Ny1063.out] at ho57))
         replace HO_8 := am (Kd.N_elder' (no HO_8.out) (Kd.R_base ho57) hb)
         have HO1065 := am (Kd.R_lower (Kd.R_newM (M := fun k_ => (w.heap.size ≤ k_)) ho57 (below_size bw) (fun k_ h_ => h_)) (below_size bw))
         replace HB := am (below_step bw hb)
         clear hb ho57
         refine hK.out _ _ (((HB.out.cell (World.block_lt_of_cell? w _ hw1056_0)).trans hw1056_0)) (fun hHeld => ?_)
         clear hK K
         refine norm_ (a' := ?_) ?_ ?_
         rotate_left
         ·show Act.put _ (some 75) _ = _
          simp only [Act.put, qa, qb, qc, i64_w, i32_w]
          rfl
         refine oa 10 (some 71) (yz 19 28671) HT_ (fun K hK => ?_)
         refine Kd.R_lit_step (Kd.int .i64) _ 3 ?hg (N := 71) ?hd (xs := ([] : List Int)) (inner := []) (ok := fun _ => True) (okp := fun _ => True) ?hr ?hp (fun _ hk => hk) trivial (Below.refl _ _) (Nat.le_refl _) (by simp) ?_; (case hd => rfl); (case hg => rfl); (case hr => first | (go_simp; done) | (go_simp; rfl)); (case hp => exact (Reps.none _ _))
         intro v1058 w58 ho59 hb hg_ hnew_
         clear hg_ hnew_
         (first | rw [← Ny1057.out] at ho59 | (simp only [Int.reduceToNat] at ho59; rw [← Ny1057.out] at ho59))
         replace HO_8 := am (Kd.N_elder' (no HO_8.out) (Kd.R_base ho59) hb)
         have HO1059 := am (Kd.R_lower (Kd.R_new' (Kd.R_newM (M := fun k_ => (w.heap.size ≤ k_)) ho59 (below_size bw) (fun k_ h_ => h_)) (Kd.R_lt (ro HO1065.out))) (below_size bw))
         replace HO1065 := am (Kd.R_elder' (ro HO1065.out) (Kd.R_base ho59) hb)
         replace HB := am (below_step bw hb)
         clear hb ho59
         refine hK.out _ _ (((HB.out.cell (World.block_lt_of_cell? w _ hw1056_0)).trans hw1056_0)) (fun hHeld => ?_)
         clear hK K
         refine norm_ (a' := ?_) ?_ ?_
         rotate_left
         ·show Act.put _ (some 71) _ = _
          simp only [Act.put, qa, qb, qc, i64_w, i32_w]
          rfl
         refine oa 12 (some 73) (yz 19 32767) HT_ (fun K hK => ?_)
         refine Kd.R_append_rows_step (Kd.int .i64) (w0 := w) w.heap.size (by rfl) (.tmp 71) (.tmp 72) 24 3 (.int .i64 0) 8 rfl Try.underlying24 info3 rfl (by decide) (by omega) v1058 y1057 l2 _ _ _ (fun k_ => (w.heap.size ≤ k_) ∧ some k_ ≠ (v1064 : Value).ownBlock) (fun _ => False) rfl rfl ?aO ?aR (fun _ _ h => h) (fun _ h => h.elim) ?aF ?aB ?aS ?aL ?_
         (case aR => exact co (Kd.C_below HR2.out HB.out))
         (case aB => exact bw)
         (case aF => exact (fun k_ hk => ⟨(Nat.le_trans (below_size bw) hk), Kd.fresh' (Kd.R_lt (ro HO1065.out)) k_ hk⟩))
         (case aO => exact (by (with_reducible repeat (first | apply Kd.R_alloc | apply Kd.R_drewN | apply Kd.R_drew)); exact Kd.R_mono HO1059.out (fun _ hk => by first | exact ⟨hk.1.1, hk.2⟩ | simp_all)))
         (case aS => exact (below_size bw))
         (case aL => have := LMc50.out; omega)
         intro v1061 w60 ho hb hg hat
         rw [← Ny1060.out] at ho
         replace HO_8 := am (Kd.N_afterv (ok := (fun k_ => (w.heap.size ≤ k_) ∧ some k_ ≠ (v1064 : Value).ownBlock)) (no HO_8.out) hg hat)
         replace HO1065 := am (Kd.R_after (ok := (fun k_ => (w.heap.size ≤ k_))) (by (with_reducible repeat (first | apply Kd.R_alloc | apply Kd.R_drewN | apply Kd.R_drew)); exact Kd.R_mono HO1065.out (fun _ hk => by first | exact ⟨hk.1.1, hk.2⟩ | simp_all)) hg hat)
         replace HB := am (hb)
         have HO1062 := am (ho)
         clear HO1059 ho hb hg hat
         refine hK.out _ _ (((HB.out.cell (World.block_lt_of_cell? w _ hw1056_0)).trans hw1056_0)) (fun hHeld => ?_)
         clear hK K
         refine norm_ (a' := ?_) ?_ ?_
         rotate_left
         ·show Act.put _ (some 73) _ = _
          simp only [Act.put, qa, qb, qc, i64_w, i32_w]
          rfl
         exact norm_ (by simp only [putAll, Act.put, List.setIfInBounds_toArray, List.set_cons_zero, List.set_cons_succ]) (hCont (v1058, v1061, v1064) _ ⟨hHeld, (ro HO1062.out), (ro HO1065.out), (by (with_reducible repeat (first | apply Kd.N_alloc | apply Kd.N_drewN | apply Kd.N_drew)); exact Kd.N_mono HO_8.out (fun _ hk => ⟨hk.1.1, ⟨hk.2, hk.1.2⟩⟩)), bw⟩)
       rintro ⟨v1058, v1061, v1064⟩ w61 ⟨hS_, h0_, h1_, h2_, h3_⟩
       have n0_ : Aside0 (Kd.R (Kd.int .i64) 3 w61 w.heap.size (fun k_ => (w.heap.size ≤ k_) ∧ some k_ ≠ (v1064 : Value).ownBlock) v1061 y1060) := ⟨h0_⟩
       have n1_ : Aside0 (Kd.R (Kd.int .i64) 3 w61 w.heap.size (fun k_ => (w.heap.size ≤ k_) ∧ some k_ ≠ (v1061 : Value).ownBlock) v1064 y1063) := ⟨h1_⟩
       have n2_ : Aside0 (Kd.N (Kd.slice 3 (Kd.int .i64)) 24 w61 w.heap.size (fun k_ => (w.heap.size ≤ k_) ∧ some k_ ≠ (v1061 : Value).ownBlock ∧ some k_ ≠ (v1064 : Value).ownBlock) (.slice Ao54 x8_1.length co54) x8_1) := ⟨h2_⟩
       have n3_ : Aside0 (Below w.heap.size w w61) := ⟨h3_⟩
       clear HO_8
       clear HB
       clear h0_ h1_ h2_ h3_
       have HO1062 := n0_
       have HO1065 := n1_
       have HO_8 := n2_
       have HB := n3_
       clear n0_ n1_ n2_ n3_
       have hHeld : w61.cell? (ad1055.add ((l2.length : Int)).toNat) = some (.int .i64 (rd l0 (l2.length : Int))) := hS_
       obtain ⟨Ao63, co63, eo63⟩ := Kd.R_slice HO1065.out
       (first | subst eo63 | (injection eo63 with f1_ f2_ f3_; have f4_ := f1_.symm; have f5_ := f3_.symm; clear f1_ f2_ f3_; subst f4_; subst f5_))
       refine norm_ (a' := ?_) ?_ ?_
       rotate_left
       ·simp only [putAll, Act.put, List.setIfInBounds_toArray, List.set_cons_zero, List.set_cons_succ]
        rfl
       refine oa 15 (some 76) (yz 19 65535) HT_ (fun K hK => ?_)
       refine Kd.R_append_rows_step (Kd.int .i64) (w0 := w) w.heap.size (by rfl) (.tmp 73) (.tmp 75) 24 3 (.int .i64 0) 8 rfl Try.underlying24 info3 rfl (by decide) (by omega) v1061 y1060 y1063 _ _ _ (fun k_ => (w.heap.size ≤ k_) ∧ some k_ ≠ (.slice Ao63 y1063.length co63 : Value).ownBlock) (fun _ => False) rfl rfl ?aO ?aR (fun _ _ h => h) (fun _ h => h.elim) ?aF ?aB ?aS ?aL ?_
       (case aR => exact co (Kd.R_reads' HO1065.out).2.2)
       (case aB => exact bw)
       (case aF => exact (fun k_ hk => ⟨(Nat.le_trans (below_size bw) hk), Kd.fresh' (Kd.R_lt (ro HO1065.out)) k_ hk⟩))
       (case aO => exact (ro HO1062.out))
       (case aS => exact (below_size bw))
       (case aL => have := LMc51.out; omega)
       intro v1067 w62 ho hb hg hat
       rw [← Ny1066.out] at ho
       replace HO_8 := am (Kd.N_afterv (ok := (fun k_ => (w.heap.size ≤ k_) ∧ some k_ ≠ (.slice Ao63 y1063.length co63 : Value).ownBlock)) (by (with_reducible repeat (first | apply Kd.N_alloc | apply Kd.N_drewN | apply Kd.N_drew)); exact Kd.N_mono HO_8.out (fun _ hk => ⟨⟨hk.1, hk.2.2⟩, hk.2.1⟩)) hg hat)
       replace HO1065 := am (Kd.R_after (ok := (fun k_ => (w.heap.size ≤ k_))) (ro HO1065.out) hg hat)
       replace HB := am (hb)
       have HO1068 := am (ho)
       clear HO1062 ho hb hg hat
       obtain ⟨Ao64, co64, eo64⟩ := Kd.R_slice HO1068.out
       (first | subst eo64 | (injection eo64 with f1_ f2_ f3_; have f4_ := f1_.symm; have f5_ := f3_.symm; clear f1_ f2_ f3_; subst f4_; subst f5_))
       refine hK.out _ _ (((HB.out.cell (World.block_lt_of_cell? w _ hw1056_0)).trans hw1056_0)) (fun hHeld => ?_)
       clear hK K
       refine norm_ (a' := ?_) ?_ ?_
       rotate_left
       ·show Act.put _ (some 76) _ = _
        simp only [Act.put, qa, qb, qc, i64_w, i32_w]
        rfl
       refine oa 16 (some 77) (yz 19 131071) HT_ (fun K hK => ?_)
       refine gm Try.func193 #[.slice (some ad1055) l0.length c0, .int .i64 (wrap64 (a1 - (wrap64 (x9_1 * (rd l0 (l2.length : Int)))))), .slice Ao64 y1066.length co64] ?_
       with_reducible refine (ih k1 (by have := HK1.out; omega) _ _ l0 (wrap64 (a1 - (wrap64 (x9_1 * (rd l0 (l2.length : Int)))))) _ _ y1066 t1069 _ ?side1 ?side2 ?side3 ?side4 A52.out).mono ?_
       (case side1 => exact co (Kd.C_below HR0.out HB.out))
       (case side2 => exact HC0.out)
       (case side3 => exact co (Kd.R_reads' HO1068.out).2.2)
       (case side4 => exact (Kd.R_reads' HO1068.out).2.1)
       rintro e w65 ⟨v1070, rfl, ho0, hb⟩
       refine ⟨_, rfl, ?_⟩
       have HO1071 := am (Kd.N_lower (Kd.N_mono (ok' := fun k_ => (w.heap.size ≤ k_) ∧ some k_ ≠ (.slice Ao54 x8_1.length co54 : Value).ownBlock ∧ some k_ ≠ (.slice Ao63 y1063.length co63 : Value).ownBlock ∧ some k_ ≠ (.slice Ao64 y1066.length co64 : Value).ownBlock) ho0 (fun k_ hk_ => ⟨(Nat.le_trans (below_size bw) hk_), (Kd.fresh' (Kd.N_lt (no HO_8.out)) k_ hk_), (Kd.fresh' (Kd.R_lt (ro HO1065.out)) k_ hk_), (Kd.fresh' (Kd.R_lt (ro HO1068.out)) k_ hk_)⟩)) (below_size bw))
       replace HO_8 := am (Kd.N_elder' (no HO_8.out) (Kd.N_base ho0) hb)
       replace HO1065 := am (Kd.R_below (ro HO1065.out) hb)
       replace HO1068 := am (Kd.R_below (ro HO1068.out) hb)
       replace HB := am (below_step bw hb)
       clear hb ho0
       obtain ⟨Ao67, co67, eo67⟩ := Kd.N_slice HO1071.out
       (first | subst eo67 | (injection eo67 with f1_ f2_ f3_; have f4_ := f1_.symm; have f5_ := f3_.symm; clear f1_ f2_ f3_; subst f4_; subst f5_))
       refine hK.out _ _ (((HB.out.cell (World.block_lt_of_cell? w _ hw1056_0)).trans hw1056_0)) (fun hHeld => ?_)
       clear hK K
       refine norm_ (a' := ?_) ?_ ?_
       rotate_left
       ·show Act.put _ (some 77) _ = _
        simp only [Act.put, qa, qb, qc, i64_w, i32_w]
        rfl
       refine oa 17 (some 78) (yz 19 262143) HT_ (fun K hK => ?_)
       refine Kd.N_append_rows_step (Kd.slice 3 (Kd.int .i64)) (w0 := w) w.heap.size (by rfl) (.tmp 61) (.tmp 77) 58 24 (.slice none 0 0) 24 rfl Try.underlying58 info24 rfl (by decide) (by omega) (.slice Ao54 x8_1.length co54) x8_1 t1069 _ _ _ (fun k_ => (w.heap.size ≤ k_) ∧ some k_ ≠ (.slice Ao63 y1063.length co63 : Value).ownBlock ∧ some k_ ≠ (.slice Ao64 y1066.length co64 : Value).ownBlock) (fun k_ => ((fun k_ => (w.heap.size ≤ k_) ∧ some k_ ≠ (.slice Ao63 y1063.length co63 : Value).ownBlock ∧ some k_ ≠ (.slice Ao64 y1066.length co64 : Value).ownBlock)) k_ ∧ some k_ ≠ (.slice Ao54 x8_1.length co54 : Value).ownBlock) rfl rfl ?aO ?aR (fun _ hk => hk) ?aF ?aB ?aS ?aL ?_
       (case aR => exact (by skip; exact Kd.N_F (Kd.N_mono (ok' := (fun k_ => ((fun k_ => (w.heap.size ≤ k_) ∧ some k_ ≠ (.slice Ao63 y1063.length co63 : Value).ownBlock ∧ some k_ ≠ (.slice Ao64 y1066.length co64 : Value).ownBlock)) k_ ∧ some k_ ≠ (.slice Ao54 x8_1.length co54 : Value).ownBlock)) (HO1071.out) (fun k_ hk => ⟨⟨hk.1, ⟨hk.2.2.1, hk.2.2.2⟩⟩, hk.2.1⟩))))
       (case aB => exact bw)
       (case aF => exact (fun k_ hk => ⟨(Nat.le_trans (below_size bw) hk), Kd.fresh' (Kd.R_lt (ro HO1065.out)) k_ hk, Kd.fresh' (Kd.R_lt (ro HO1068.out)) k_ hk⟩))
       (case aO => exact (by (with_reducible repeat (first | apply Kd.N_alloc | apply Kd.N_drewN | apply Kd.N_drew)); exact Kd.N_mono HO_8.out (fun _ hk => ⟨hk.1.1.1, ⟨hk.1.1.2, hk.1.2⟩⟩)))
       (case aS => exact (below_size bw))
       (case aL => have := LMc53.out; omega)
       intro v1073 w66 ho hb hg hat
       rw [← Ny1072.out] at ho
       replace HO1065 := am (Kd.R_over' (ro HO1065.out) (Kd.N_typed (no HO_8.out)) (by decide) hg)
       replace HO1068 := am (Kd.R_over' (ro HO1068.out) (Kd.N_typed (no HO_8.out)) (by decide) hg)
       replace HO1071 := am (Kd.N_afterv (ok := (fun k_ => (w.heap.size ≤ k_) ∧ some k_ ≠ (.slice Ao63 y1063.length co63 : Value).ownBlock ∧ some k_ ≠ (.slice Ao64 y1066.length co64 : Value).ownBlock)) (by (with_reducible repeat (first | apply Kd.N_alloc | apply Kd.N_drewN | apply Kd.N_drew)); exact Kd.N_mono HO1071.out (fun _ hk => ⟨⟨hk.1, ⟨hk.2.2.1, hk.2.2.2⟩⟩, hk.2.1⟩)) hg hat)
       replace HB := am (hb)
       have HO1074 := am (ho)
       clear HO_8 ho hb hg hat
       refine hK.out _ _ (((HB.out.cell (World.block_lt_of_cell? w _ hw1056_0)).trans hw1056_0)) (fun hHeld => ?_)
       clear hK K
       refine norm_ (a' := ?_) ?_ ?_
       rotate_left
       ·show Act.put _ (some 78) _ = _
        simp only [Act.put, qa, qb, qc, i64_w, i32_w]
        rfl
       refine pa 18 (some 8) (yz 19 524287) HT_ ?_
       refine done_ (done_of HT_.out (by kernel_rfl)) ?_
       try go_wp2
       go_roundg k1
       case measure => have := HK1.out; omega
       case rel => exact ⟨(y1072), (wrap64 (x9_1 - 1)), rr, H', ⟨by have := HK1.out; omega⟩, ⟨by (with_reducible repeat (first | apply Kd.N_alloc | apply Kd.N_drewN | apply Kd.N_drew)); exact Kd.N_mono HO1074.out (fun _ hk => hk.1)⟩, ⟨bw⟩⟩
      ·have c47b0 : decide (0 ≤ x9_1) = false := decide_eq_false c47
       clear c47
       obtain rfl := Option.some.inj H
       go_wp2
       go_ret
       exact ⟨_, re, by (with_reducible repeat (first | apply Kd.N_alloc | apply Kd.N_drewN | apply Kd.N_drew)); exact HO_8.out, bw⟩

end Go.Proofs.Ytkfplkdchkmgbaa.C
