/- Contracts of functions of the program: spec_l11Find, spec_Factorizations, spec_l14Linked, spec_l1Min. -/
import Derived.Test.YtlfdipnhlmjiaaaC0
import Derived.Test.YtlfdipnhlmjiaaaC1
import Derived.Test.YtlfdipnhlmjiaaaC3
namespace Go.Proofs.Ytlfdipnhlmjiaaa.C
open Go.RowKit Go.Proofs.YtlfdipnhlmjiaaaW.PrintWords Go.Proofs.YtlfdipnhlmjiaaaW.PrintLast Go.Proofs.YtlfdipnhlmjiaaaW.PrintMore
attribute [local go_sem] max2_int min2_int max_two min_two max_three min_three max_four min_four
set_option linter.unusedVariables false
set_option linter.unusedSimpArgs false

/-! ### spec_l11Find: function 130 -/
mutual
def spec_l11Find.l0 : Nat → List Int → Int → List Int → Int → List (List Int) → Int → Option ((List (List Int)))
 | 0, _, _, _, _, _, _ => none
 | k + 1, x0, x1, x2, x7, x8, x9 => if x9 ≥ 0 then (if 0 ≤ x7 then (if x7 < (x0.length : Int) then ((some (([] : List Int) : List Int)).bind fun y267 => (if y267.length + x2.length < 17592186044416 then ((some (y267 ++ x2 : List Int)).bind fun y270 => ((some (([x9] : List Int) : List Int)).bind fun y273 => (if y270.length + y273.length < 17592186044416 then ((spec_l11Find.f k x0 (wrap64 (x1 - (wrap64 (x9 * (rd x0 x7))))) (y270 ++ y273)).bind fun t279 => (if x8.length + t279.length < 5864062014805 then (spec_l11Find.l0 k x0 x1 x2 x7 (x8 ++ t279) (wrap64 (x9 - 1))) else (none))) else (none)))) else (none))) else (none)) else (none)) else (some x8)
def spec_l11Find.f : Nat → List Int → Int → List Int → Option ((List (List Int)))
 | 0, _, _, _ => none
 | k + 1, l0, a1, l2 => if (l2.length : Int) = (l0.length : Int) then (if a1 = 0 then ((some (([] : List Int) : List Int)).bind fun y230 => (if y230.length + l2.length < 17592186044416 then (some (([(y230 ++ l2)] : List (List Int)))) else (none))) else (some (([] : List (List Int))))) else ((some (([] : List (List Int)) : List (List Int))).bind fun y242 => (if (l2.length : Int) = (wrap64 ((l0.length : Int) - 1)) then (if 0 ≤ (l2.length : Int) then (if (l2.length : Int) < (l0.length : Int) then (if (rd l0 (l2.length : Int)) = 0 then (none) else (if (Int.tmod a1 (rd l0 (l2.length : Int))) = 0 then ((some (([] : List Int) : List Int)).bind fun y246 => (if y246.length + l2.length < 17592186044416 then ((some (y246 ++ l2 : List Int)).bind fun y249 => ((some (([wrap64 (Int.tdiv a1 (rd l0 (l2.length : Int)))] : List Int) : List Int)).bind fun y253 => (if y249.length + y253.length < 17592186044416 then ((some (([(y249 ++ y253)] : List (List Int)) : List (List Int))).bind fun y259 => (if y242.length + y259.length < 5864062014805 then (some (y242 ++ y259)) else (none))) else (none)))) else (none))) else (some y242))) else (none)) else (none)) else (if 0 ≤ (l2.length : Int) then (if (l2.length : Int) < (l0.length : Int) then (if (rd l0 (l2.length : Int)) = 0 then (none) else (spec_l11Find.l0 k l0 a1 l2 (l2.length : Int) y242 (wrap64 (Int.tdiv a1 (rd l0 (l2.length : Int)))))) else (none)) else (none))))
end
def spec_l11Find.T9 : Bool × List (List Nat × List Nat) := (true, [([], []), ([], []), ([], []), ([1, 2], [1, 2]), ([], []), ([], []), ([], []), ([5, 6], [5, 6]), ([7], [7]), ([4, 8], [4, 8]), ([9], [9]), ([3, 10, 3], [3, 10]), ([11], [11]), ([0, 12, 11], [0, 12]), ([13, 13, 0, 1, 2, 3, 4, 5, 6, 7, 8, 9, 10, 11, 12, 13], [0, 13])])
def spec_l11Find.B9 : List Nat := [0, 0, 0, 6, 0, 0, 0, 96, 224, 496, 1008, 2046, 4094, 8191, 16383]
theorem spec_l11Find.tab9 : rtab .any (opsOf Try.f130 9) = spec_l11Find.T9 := by kernel_rfl
theorem spec_l11Find.bits9 : waitsOk spec_l11Find.T9.2 spec_l11Find.B9 = true := by kernel_rfl
def spec_l11Find.T14 : Bool × List (List Nat × List Nat) := (true, [([], []), ([], []), ([], []), ([], []), ([], []), ([], []), ([4, 5], [4, 5]), ([6], [6]), ([3, 7], [3, 7]), ([2, 8], [2, 8]), ([], []), ([], []), ([10, 11], [10, 11]), ([], []), ([13], [13]), ([12, 14, 12], [12, 14]), ([1, 9, 15, 15], [1, 9, 15]), ([0, 16, 16], [0, 16]), ([17, 17, 0, 1, 2, 3, 4, 5, 6, 7, 8, 9, 10, 11, 12, 13, 14, 15, 16, 17], [0, 17])])
def spec_l11Find.B14 : List Nat := [0, 0, 0, 0, 0, 0, 48, 112, 248, 508, 0, 0, 3072, 0, 8192, 31744, 65534, 131071, 262143]
theorem spec_l11Find.tab14 : rtab .any (opsOf Try.f130 14) = spec_l11Find.T14 := by kernel_rfl
theorem spec_l11Find.bits14 : waitsOk spec_l11Find.T14.2 spec_l11Find.B14 = true := by kernel_rfl
set_option maxHeartbeats 8000000 in
set_option maxRecDepth 100000 in
theorem spec_l11Find.calls (k : Nat) : ∀ (A0 : Option Addr) (c0 : Nat) (l0 : List Int) (a1 : Int) (A2 : Option Addr) (c2 : Nat) (l2 : List Int) (r : List (List Int)) (w : World) (hr0 : Kd.C (Kd.int .i64) w A0 l0.length l0) (hc0 : l0.length ≤ c0) (hr2 : Kd.C (Kd.int .i64) w A2 l2.length l2) (hc2 : l2.length ≤ c2) (h : spec_l11Find.f k l0 a1 l2 = some r),
  Calls Try.prog 130 #[.slice A0 l0.length c0, .int .i64 a1, .slice A2 l2.length c2] w fun e w' => ∃ v0_ : Value, e = .returned (v0_) ∧ Kd.N (Kd.slice 3 (Kd.int .i64)) 22 w' w.heap.size (fun k_ => (w.heap.size ≤ k_)) v0_ r ∧ Below w.heap.size w w' := by
 induction k using Nat.strongRecOn with
 | _ k ih =>
 intro A0 c0 l0 a1 A2 c2 l2 r w hr0 hc0 hr2 hc2 h
 cases k with
 | zero => exact absurd h (by simp [spec_l11Find.f])
 | succ k =>
 simp only [spec_l11Find.f] at h
 have HR0 := am hr0
 have HC0 := am hc0
 clear hr0 hc0
 have HR2 := am hr2
 have HC2 := am hc2
 clear hr2 hc2
 have HB := am (Below.refl w.heap.size w)
 have H : (if (l2.length : Int) = (l0.length : Int) then (if a1 = 0 then ((some (([] : List Int) : List Int)).bind fun y230 => (if y230.length + l2.length < 17592186044416 then (some (([(y230 ++ l2)] : List (List Int)))) else (none))) else (some (([] : List (List Int))))) else ((some (([] : List (List Int)) : List (List Int))).bind fun y242 => (if (l2.length : Int) = (wrap64 ((l0.length : Int) - 1)) then (if 0 ≤ (l2.length : Int) then (if (l2.length : Int) < (l0.length : Int) then (if (rd l0 (l2.length : Int)) = 0 then (none) else (if (Int.tmod a1 (rd l0 (l2.length : Int))) = 0 then ((some (([] : List Int) : List Int)).bind fun y246 => (if y246.length + l2.length < 17592186044416 then ((some (y246 ++ l2 : List Int)).bind fun y249 => ((some (([wrap64 (Int.tdiv a1 (rd l0 (l2.length : Int)))] : List Int) : List Int)).bind fun y253 => (if y249.length + y253.length < 17592186044416 then ((some (([(y249 ++ y253)] : List (List Int)) : List (List Int))).bind fun y259 => (if y242.length + y259.length < 5864062014805 then (some (y242 ++ y259)) else (none))) else (none)))) else (none))) else (some y242))) else (none)) else (none)) else (if 0 ≤ (l2.length : Int) then (if (l2.length : Int) < (l0.length : Int) then (if (rd l0 (l2.length : Int)) = 0 then (none) else (spec_l11Find.l0 k l0 a1 l2 (l2.length : Int) y242 (wrap64 (Int.tdiv a1 (rd l0 (l2.length : Int)))))) else (none)) else (none))))) = some r := h
 clear h
 by_cases c4 : (l2.length : Int) = (l0.length : Int)
 ·rw [if_pos c4] at H
  have c4b0 : ((l2.length : Int) == (l0.length : Int)) = true := beq_iff_eq.mpr c4
  have c4b1 : ((l2.length : Int) != (l0.length : Int)) = false := bne_eq_false_iff_eq.mpr c4
  have c4b2 : (l2.length == l0.length) = true := by first | simpa using c4 | (simp at c4 ⊢; omega)
  clear c4
  by_cases c5 : a1 = 0
  ·rw [if_pos c5] at H
   have c5b0 : (a1 == 0) = true := beq_iff_eq.mpr c5
   have c5b1 : (a1 != 0) = false := bne_eq_false_iff_eq.mpr c5
   clear c5
   obtain ⟨y230, hy230⟩ : ∃ y_ : List Int, y_ = (([] : List Int)) := ⟨_, rfl⟩
   replace H : (if y230.length + l2.length < 17592186044416 then (some (([(y230 ++ l2)] : List (List Int)))) else (none)) = some r := by first | (rw [hy230]; with_reducible first | exact H | exact bs H) | (with_reducible first | exact bs H | exact H) | (rw [hy230]; exact H) | exact H
   have Ny230 := am hy230
   clear hy230
   by_cases c6 : y230.length + l2.length < 17592186044416
   rotate_left
   ·rw [if_neg c6] at H
    exact absurd H (by simp)
   rw [if_pos c6] at H
   have LMc6 := am c6
   clear c6
   obtain ⟨y233, hy233⟩ : ∃ y_ : List Int, y_ = (y230 ++ l2) := ⟨_, rfl⟩
   replace H : (some (([y233] : List (List Int)))) = some r := by first | (rw [hy233]; with_reducible first | exact H | exact bs H) | (with_reducible first | exact bs H | exact H) | (rw [hy233]; exact H) | exact H
   have Ny233 := am hy233
   clear hy233
   obtain ⟨y236, hy236⟩ : ∃ y_ : List (List Int), y_ = (([y233] : List (List Int))) := ⟨_, rfl⟩
   replace H : (some y236) = some r := by first | (rw [hy236]; with_reducible first | exact H | exact bs H) | (with_reducible first | exact bs H | exact H) | (rw [hy236]; exact H) | exact H
   have Ny236 := am hy236
   clear hy236
   obtain rfl := Option.some.inj H
   go_enter Try.func130, Try.ntmps130
   go_wp2_with (first | ((with_reducible refine gate_dst (N := 18) rfl ?_); refine Kd.R_lit (Kd.int .i64) _ 3 ?hg (N := 18) ?hd (xs := ([] : List Int)) (inner := []) (ok := fun _ => True) (okp := fun _ => True) ?hr ?hp (fun _ hk => hk) trivial (Below.refl _ _) (Nat.le_refl _) (by simp) ?_; (case hd => rfl); (case hg => rfl); (case hr => first | (go_simp; done) | (go_simp; rfl)); (case hp => exact (Reps.none _ _)); intro v231 w7 ho8 hb hg_ hnew_; clear hg_ hnew_; (first | rw [← Ny230.out] at ho8 | (simp only [Int.reduceToNat] at ho8; rw [← Ny230.out] at ho8)); have HO232 := am (Kd.R_lower (Kd.R_newM (M := fun k_ => (w.heap.size ≤ k_)) ho8 (below_size bw) (fun k_ h_ => h_)) (below_size bw)); replace HB := am (below_step bw hb); clear hb ho8) | ((with_reducible refine gate_builtin (b := .append) (xs := #[.tmp 18, .tmp 19]) rfl ?_); at_builtin; refine Kd.R_append_rows (Kd.int .i64) (w0 := w) w.heap.size rfl (.tmp 18) (.tmp 19) 22 3 (.int .i64 0) 8 rfl Try.underlying22 info3 rfl (by decide) (by omega) v231 y230 l2 _ _ _ (fun k_ => (w.heap.size ≤ k_)) (fun _ => False) rfl rfl ?aO ?aR (fun _ _ h => h) (fun _ h => h.elim) ?aF ?aB ?aS ?aL ?_; (case aR => exact co (Kd.C_below HR2.out HB.out)); (case aB => exact bw); (case aF => exact (fun k_ hk => (Nat.le_trans (below_size bw) hk))); (case aO => exact (by (with_reducible repeat (first | apply Kd.R_alloc | apply Kd.R_drewN | apply Kd.R_drew)); exact Kd.R_mono HO232.out (fun _ hk => hk.1))); (case aS => exact (below_size bw)); (case aL => have := LMc6.out; omega); intro v234 w9 ho hb hg hat; rw [← Ny233.out] at ho; replace HB := am (hb); have HO235 := am (ho); clear HO232 ho hb hg hat; obtain ⟨Ao10, co10, eo10⟩ := Kd.R_slice HO235.out; subst eo10) | ((with_reducible refine gate_dst (N := 21) rfl ?_); refine Kd.N_lit (Kd.slice 3 (Kd.int .i64)) _ 22 ?hg (N' := 21) ?hd (xs := ([y233] : List (List Int))) (inner := [.slice Ao10 y233.length co10]) (ok := (fun k_ => (w.heap.size ≤ k_))) (okp := (fun k_ => (w.heap.size ≤ k_))) ?hr ?hp (fun _ hk => hk) ((show ∀ k_, w9.heap.size ≤ k_ → (fun k_ => (w.heap.size ≤ k_)) k_ from fun k_ hk => (Nat.le_trans (below_size bw) hk)) _ (Nat.le_refl _)) (Below.refl _ _) (Nat.le_refl _) (by simp) ?_; (case hd => rfl); (case hg => rfl); (case hr => first | (go_simp; done) | (go_simp; rfl)); (case hp => exact (Reps.one (show Kd.FK (Kd.slice 3 (Kd.int .i64)) _ _ y233 [.slice Ao10 y233.length co10] from (Kd.FK_slice_mk (Kd.R_reads' (Kd.R_mono (ok' := (fun k_ => (w.heap.size ≤ k_))) (HO235.out) (fun k_ hk => hk))).2.1 (Kd.R_F (Kd.R_mono (ok' := (fun k_ => (w.heap.size ≤ k_))) (HO235.out) (fun k_ hk => hk))))) (Reps.none _ _))); intro v237 w11 ho12 hb hg_ hnew_; clear hg_ hnew_; (first | rw [← Ny236.out] at ho12 | (simp only [Int.reduceToNat] at ho12; rw [← Ny236.out] at ho12)); have HO238 := am (Kd.N_lower ho12 (below_size bw)); replace HB := am (below_step bw hb); clear HO235 hb ho12))
   go_ret
   exact ⟨_, re, by (with_reducible repeat (first | apply Kd.N_alloc | apply Kd.N_drewN | apply Kd.N_drew)); exact HO238.out, bw⟩
  rw [if_neg c5] at H
  have c5b0 : (a1 == 0) = false := beq_eq_false_iff_ne.mpr c5
  have c5b1 : (a1 != 0) = true := bne_iff_ne.mpr c5
  obtain ⟨y239, hy239⟩ : ∃ y_ : List (List Int), y_ = (([] : List (List Int))) := ⟨_, rfl⟩
  replace H : (some y239) = some r := by first | (rw [hy239]; with_reducible first | exact H | exact bs H) | (with_reducible first | exact bs H | exact H) | (rw [hy239]; exact H) | exact H
  have Ny239 := am hy239
  clear hy239
  obtain rfl := Option.some.inj H
  go_enter Try.func130, Try.ntmps130
  go_wp2_with (first | ((with_reducible refine gate_dst (N := 22) rfl ?_); refine Kd.N_lit (Kd.slice 3 (Kd.int .i64)) _ 22 ?hg (N' := 22) ?hd (xs := ([] : List (List Int))) (inner := []) (ok := (fun k_ => (w.heap.size ≤ k_))) (okp := (fun k_ => (w.heap.size ≤ k_))) ?hr ?hp (fun _ hk => hk) ((show ∀ k_, w.heap.size ≤ k_ → (fun k_ => (w.heap.size ≤ k_)) k_ from fun k_ hk => (Nat.le_trans (below_size bw) hk)) _ (Nat.le_refl _)) (Below.refl _ _) (Nat.le_refl _) (by simp) ?_; (case hd => rfl); (case hg => rfl); (case hr => first | (go_simp; done) | (go_simp; rfl)); (case hp => exact (Reps.none _ _)); intro v240 w13 ho14 hb hg_ hnew_; clear hg_ hnew_; (first | rw [← Ny239.out] at ho14 | (simp only [Int.reduceToNat] at ho14; rw [← Ny239.out] at ho14)); have HO241 := am (Kd.N_lower ho14 (below_size bw)); replace HB := am (below_step bw hb); clear hb ho14))
  go_ret
  exact ⟨_, re, by (with_reducible repeat (first | apply Kd.N_alloc | apply Kd.N_drewN | apply Kd.N_drew)); exact HO241.out, bw⟩
 rw [if_neg c4] at H
 have c4b0 : ((l2.length : Int) == (l0.length : Int)) = false := beq_eq_false_iff_ne.mpr c4
 have c4b1 : ((l2.length : Int) != (l0.length : Int)) = true := bne_iff_ne.mpr c4
 have c4b2 : (l2.length == l0.length) = false := by first | simpa using c4 | (simp at c4 ⊢; omega)
 obtain ⟨y242, hy242⟩ : ∃ y_ : List (List Int), y_ = (([] : List (List Int))) := ⟨_, rfl⟩
 replace H : (if (l2.length : Int) = (wrap64 ((l0.length : Int) - 1)) then (if 0 ≤ (l2.length : Int) then (if (l2.length : Int) < (l0.length : Int) then (if (rd l0 (l2.length : Int)) = 0 then (none) else (if (Int.tmod a1 (rd l0 (l2.length : Int))) = 0 then ((some (([] : List Int) : List Int)).bind fun y246 => (if y246.length + l2.length < 17592186044416 then ((some (y246 ++ l2 : List Int)).bind fun y249 => ((some (([wrap64 (Int.tdiv a1 (rd l0 (l2.length : Int)))] : List Int) : List Int)).bind fun y253 => (if y249.length + y253.length < 17592186044416 then ((some (([(y249 ++ y253)] : List (List Int)) : List (List Int))).bind fun y259 => (if y242.length + y259.length < 5864062014805 then (some (y242 ++ y259)) else (none))) else (none)))) else (none))) else (some y242))) else (none)) else (none)) else (if 0 ≤ (l2.length : Int) then (if (l2.length : Int) < (l0.length : Int) then (if (rd l0 (l2.length : Int)) = 0 then (none) else (spec_l11Find.l0 k l0 a1 l2 (l2.length : Int) y242 (wrap64 (Int.tdiv a1 (rd l0 (l2.length : Int)))))) else (none)) else (none))) = some r := by first | (rw [hy242]; with_reducible first | exact H | exact bs H) | (with_reducible first | exact bs H | exact H) | (rw [hy242]; exact H) | exact H
 have Ny242 := am hy242
 clear hy242
 by_cases c15 : (l2.length : Int) = (wrap64 ((l0.length : Int) - 1))
 ·rw [if_pos c15] at H
  have c15b0 : ((l2.length : Int) == (wrap64 ((l0.length : Int) - 1))) = true := beq_iff_eq.mpr c15
  have c15b1 : ((l2.length : Int) != (wrap64 ((l0.length : Int) - 1))) = false := bne_eq_false_iff_eq.mpr c15
  clear c15
  replace H := gp H; obtain ⟨c16, H⟩ := H
  have c16b0 : decide (0 ≤ (l2.length : Int)) = true := decide_eq_true c16
  have c16b1 : decide (0 ≤ l2.length) = true := decide_eq_true (by omega)
  clear c16
  replace H := gp H; obtain ⟨c17, H⟩ := H
  have c17b0 : decide ((l2.length : Int) < (l0.length : Int)) = true := decide_eq_true c17
  have c17b1 : decide (l2.length < l0.length) = true := decide_eq_true (Int.ofNat_lt.mp c17)
  clear c17
  by_cases c18 : (rd l0 (l2.length : Int)) = 0
  ·rw [if_pos c18] at H
   exact absurd H (by simp)
  rw [if_neg c18] at H
  have c18b0 : ((rd l0 (l2.length : Int)) == 0) = false := beq_eq_false_iff_ne.mpr c18
  have c18b1 : ((rd l0 (l2.length : Int)) != 0) = true := bne_iff_ne.mpr c18
  by_cases c19 : (Int.tmod a1 (rd l0 (l2.length : Int))) = 0
  ·rw [if_pos c19] at H
   have c19b0 : ((Int.tmod a1 (rd l0 (l2.length : Int))) == 0) = true := beq_iff_eq.mpr c19
   have c19b1 : ((Int.tmod a1 (rd l0 (l2.length : Int))) != 0) = false := bne_eq_false_iff_eq.mpr c19
   clear c19
   obtain ⟨y246, hy246⟩ : ∃ y_ : List Int, y_ = (([] : List Int)) := ⟨_, rfl⟩
   replace H : (if y246.length + l2.length < 17592186044416 then ((some (y246 ++ l2 : List Int)).bind fun y249 => ((some (([wrap64 (Int.tdiv a1 (rd l0 (l2.length : Int)))] : List Int) : List Int)).bind fun y253 => (if y249.length + y253.length < 17592186044416 then ((some (([(y249 ++ y253)] : List (List Int)) : List (List Int))).bind fun y259 => (if y242.length + y259.length < 5864062014805 then (some (y242 ++ y259)) else (none))) else (none)))) else (none)) = some r := by first | (rw [hy246]; with_reducible first | exact H | exact bs H) | (with_reducible first | exact bs H | exact H) | (rw [hy246]; exact H) | exact H
   have Ny246 := am hy246
   clear hy246
   by_cases c20 : y246.length + l2.length < 17592186044416
   rotate_left
   ·rw [if_neg c20] at H
    exact absurd H (by simp)
   rw [if_pos c20] at H
   have LMc20 := am c20
   clear c20
   obtain ⟨y249, hy249⟩ : ∃ y_ : List Int, y_ = (y246 ++ l2) := ⟨_, rfl⟩
   replace H : ((some (([wrap64 (Int.tdiv a1 (rd l0 (l2.length : Int)))] : List Int) : List Int)).bind fun y253 => (if y249.length + y253.length < 17592186044416 then ((some (([(y249 ++ y253)] : List (List Int)) : List (List Int))).bind fun y259 => (if y242.length + y259.length < 5864062014805 then (some (y242 ++ y259)) else (none))) else (none))) = some r := by first | (rw [hy249]; with_reducible first | exact H | exact bs H) | (with_reducible first | exact bs H | exact H) | (rw [hy249]; exact H) | exact H
   have Ny249 := am hy249
   clear hy249
   obtain ⟨y253, hy253⟩ : ∃ y_ : List Int, y_ = (([wrap64 (Int.tdiv a1 (rd l0 (l2.length : Int)))] : List Int)) := ⟨_, rfl⟩
   replace H : (if y249.length + y253.length < 17592186044416 then ((some (([(y249 ++ y253)] : List (List Int)) : List (List Int))).bind fun y259 => (if y242.length + y259.length < 5864062014805 then (some (y242 ++ y259)) else (none))) else (none)) = some r := by first | (rw [hy253]; with_reducible first | exact H | exact bs H) | (with_reducible first | exact bs H | exact H) | (rw [hy253]; exact H) | exact H
   have Ny253 := am hy253
   clear hy253
   by_cases c21 : y249.length + y253.length < 17592186044416
   rotate_left
   ·rw [if_neg c21] at H
    exact absurd H (by simp)
   rw [if_pos c21] at H
   have LMc21 := am c21
   clear c21
   obtain ⟨y256, hy256⟩ : ∃ y_ : List Int, y_ = (y249 ++ y253) := ⟨_, rfl⟩
   replace H : ((some (([y256] : List (List Int)) : List (List Int))).bind fun y259 => (if y242.length + y259.length < 5864062014805 then (some (y242 ++ y259)) else (none))) = some r := by first | (rw [hy256]; with_reducible first | exact H | exact bs H) | (with_reducible first | exact bs H | exact H) | (rw [hy256]; exact H) | exact H
   have Ny256 := am hy256
   clear hy256
   obtain ⟨y259, hy259⟩ : ∃ y_ : List (List Int), y_ = (([y256] : List (List Int))) := ⟨_, rfl⟩
   replace H : (if y242.length + y259.length < 5864062014805 then (some (y242 ++ y259)) else (none)) = some r := by first | (rw [hy259]; with_reducible first | exact H | exact bs H) | (with_reducible first | exact bs H | exact H) | (rw [hy259]; exact H) | exact H
   have Ny259 := am hy259
   clear hy259
   by_cases c22 : y242.length + y259.length < 5864062014805
   rotate_left
   ·rw [if_neg c22] at H
    exact absurd H (by simp)
   rw [if_pos c22] at H
   have LMc22 := am c22
   clear c22
   obtain ⟨y262, hy262⟩ : ∃ y_ : List (List Int), y_ = (y242 ++ y259) := ⟨_, rfl⟩
   replace H : (some y262) = some r := by first | (rw [hy262]; with_reducible first | exact H | exact bs H) | (with_reducible first | exact bs H | exact H) | (rw [hy262]; exact H) | exact H
   have Ny262 := am hy262
   clear hy262
   obtain rfl := Option.some.inj H
   go_enter Try.func130, Try.ntmps130
   try go_wp2_with (first | ((with_reducible refine gate_dst (N := 23) rfl ?_); refine Kd.N_lit (Kd.slice 3 (Kd.int .i64)) _ 22 ?hg (N' := 23) ?hd (xs := ([] : List (List Int))) (inner := []) (ok := (fun k_ => (w.heap.size ≤ k_))) (okp := (fun k_ => (w.heap.size ≤ k_))) ?hr ?hp (fun _ hk => hk) ((show ∀ k_, w.heap.size ≤ k_ → (fun k_ => (w.heap.size ≤ k_)) k_ from fun k_ hk => (Nat.le_trans (below_size bw) hk)) _ (Nat.le_refl _)) (Below.refl _ _) (Nat.le_refl _) (by simp) ?_; (case hd => rfl); (case hg => rfl); (case hr => first | (go_simp; done) | (go_simp; rfl)); (case hp => exact (Reps.none _ _)); intro v243 w23 ho24 hb hg_ hnew_; clear hg_ hnew_; (first | rw [← Ny242.out] at ho24 | (simp only [Int.reduceToNat] at ho24; rw [← Ny242.out] at ho24)); have HO244 := am (Kd.N_lower ho24 (below_size bw)); replace HB := am (below_step bw hb); clear hb ho24; have p245 : 0 ≤ ((l2.length : Int) : Int) := of_decide_eq_true (by first | (with_reducible assumption) | assumption); have q245 : (l2.length : Int) < (l0.length : Int) := of_decide_eq_true (by first | (with_reducible assumption) | assumption); obtain ⟨ad245, e245, hx245_0⟩ := Kd.at_int HR0.out (l2.length : Int) p245 q245; cases e245; replace hx245_0 := hw HB hx245_0; (try simp only [Go.IntWalk.toNatUp] at hx245_0); replace p245 := eq_true p245; replace q245 := eq_true q245; obtain ⟨Ao25, co25, eo25⟩ := Kd.N_slice HO244.out; subst eo25))
   replace HO244 := am (Kd.N_drew HO244.out)
   replace HB := am (below_drew1 HB.out)
   obtain ⟨⟨ad252, e252, hx252_0⟩, p252, q252⟩ := pq (Kd.at_int HR0.out (l2.length : Int))
   have hw252_0 := hx252_0
   obtain rfl : ad245 = ad252 := (by injection e252)
   replace hx252_0 := hw HB hx252_0
   (try simp only [Go.IntWalk.toNatUp] at hx252_0)
   refine start_ (n := 15) (S := fun w' => w'.cell? (ad245.add ((l2.length : Int)).toNat) = some (.int .i64 (rd l0 (l2.length : Int)))) (ds := []) (yz 15 0) (by kernel_rfl) rfl rfl (((HB.out.cell (World.block_lt_of_cell? w _ hw252_0)).trans hw252_0)) (fun hHeld => ?_); refine with_tabW spec_l11Find.tab9 spec_l11Find.bits9 (fun HT_ HW_ => ?_)
   generalize w23.drew = w26 at HO244 HB hx252_0 hHeld ⊢
   refine pa 0 (some 36) (yz 15 1) HT_ ?_
   refine pa 2 (some 38) (yz 15 5) HT_ ?_
   refine pa 4 (some 40) (yz 15 21) HT_ ?_
   refine pa 5 (some 41) (yz 15 53) HT_ ?_
   refine pa 6 (some 42) (yz 15 117) HT_ ?_
   refine pa 7 (some 43) (yz 15 245) HT_ ?_
   refine take_ (i := 8) (N := some 44) (v := ?_) (a' := ?_) (yz 15 501) rfl rfl (take_ofW HT_.out HW_.out (by kernel_rfl)) (fun _ _ _ h => h) (Or.inl ⟨by rfl, ?_⟩) hHeld ?_ ?_
   rotate_left
   ·intro w' s0
    (try simp only [Int.toNat_natCast] at s0)
    go_simp
    with_reducible rfl
   rotate_left
   ·simp only [Act.put, qa, qb, qc, i64_w, i32_w]
    rfl
   refine pa 9 (some 45) (yz 15 1013) HT_ ?_
   refine join_ (σ := Value × Value × Value) 4 (yz 15 2047) (fun s_ => [(37, s_.1), (39, s_.2.1), (46, s_.2.2)]) (fun s_ w' => (w'.cell? (ad245.add ((l2.length : Int)).toNat) = some (.int .i64 (rd l0 (l2.length : Int)))) ∧ (Kd.N (Kd.slice 3 (Kd.int .i64)) 22 w' w.heap.size (fun k_ => (w.heap.size ≤ k_) ∧ some k_ ≠ (s_.2.1 : Value).ownBlock ∧ some k_ ≠ (s_.2.2 : Value).ownBlock) (.slice Ao25 y242.length co25) y242) ∧ (Kd.R (Kd.int .i64) 3 w' w.heap.size (fun k_ => (w.heap.size ≤ k_) ∧ some k_ ≠ (s_.2.2 : Value).ownBlock) s_.2.1 y249) ∧ (Kd.R (Kd.int .i64) 3 w' w.heap.size (fun k_ => (w.heap.size ≤ k_) ∧ some k_ ≠ (s_.2.1 : Value).ownBlock) s_.2.2 y253) ∧ (Below w.heap.size w w')) ?_ ?_
   rotate_left
   ·intro hCont
    refine two_ (i := 1) (j := 10) (Ni := some 37) (Nj := some 46) (yz 15 1015) (yz 15 2037) rfl rfl rfl rfl (two_of HT_.out (by kernel_rfl)) (by decide) (by decide) (fun K hK => ?_) (fun K hK => ?_)
    ·skip
     refine Kd.R_lit_step (Kd.int .i64) _ 3 ?hg (N := 37) ?hd (xs := ([] : List Int)) (inner := []) (ok := fun _ => True) (okp := fun _ => True) ?hr ?hp (fun _ hk => hk) trivial (Below.refl _ _) (Nat.le_refl _) (by simp) ?_; (case hd => rfl); (case hg => rfl); (case hr => first | (go_simp; done) | (go_simp; rfl)); (case hp => exact (Reps.none _ _))
     intro v247 w27 ho28 hb hg_ hnew_
     clear hg_ hnew_
     (first | rw [← Ny246.out] at ho28 | (simp only [Int.reduceToNat] at ho28; rw [← Ny246.out] at ho28))
     replace HO244 := am (Kd.N_elder' (no HO244.out) (Kd.R_base ho28) hb)
     have HO248 := am (Kd.R_lower (Kd.R_newM (M := fun k_ => (w.heap.size ≤ k_)) ho28 (below_size bw) (fun k_ h_ => h_)) (below_size bw))
     replace HB := am (below_step bw hb)
     clear hb ho28
     refine hK.out _ _ (((HB.out.cell (World.block_lt_of_cell? w _ hw252_0)).trans hw252_0)) (fun hHeld => ?_)
     clear hK K
     refine nm (some 37) ?_
     refine two_ (i := 3) (j := 10) (Ni := some 39) (Nj := some 46) (yz 15 1023) (yz 15 2039) rfl rfl rfl rfl (two_of HT_.out (by kernel_rfl)) (by decide) (by decide) (fun K hK => ?_) (fun K hK => ?_)
     ·skip
      refine Kd.R_append_rows_step (Kd.int .i64) (w0 := w) w.heap.size (by rfl) (.tmp 37) (.tmp 38) 22 3 (.int .i64 0) 8 rfl Try.underlying22 info3 rfl (by decide) (by omega) v247 y246 l2 _ _ _ (fun k_ => (w.heap.size ≤ k_)) (fun _ => False) rfl rfl ?aO ?aR (fun _ _ h => h) (fun _ h => h.elim) ?aF ?aB ?aS ?aL ?_
      (case aR => exact co (Kd.C_below HR2.out HB.out))
      (case aB => exact bw)
      (case aF => exact (fun k_ hk => (Nat.le_trans (below_size bw) hk)))
      (case aO => exact (by (with_reducible repeat (first | apply Kd.R_alloc | apply Kd.R_drewN | apply Kd.R_drew)); exact Kd.R_mono HO248.out (fun _ hk => hk.1)))
      (case aS => exact (below_size bw))
      (case aL => have := LMc20.out; omega)
      intro v250 w29 ho hb hg hat
      rw [← Ny249.out] at ho
      replace HO244 := am (Kd.N_afterv (ok := (fun k_ => (w.heap.size ≤ k_))) (no HO244.out) hg hat)
      replace HB := am (hb)
      have HO251 := am (ho)
      clear HO248 ho hb hg hat
      refine hK.out _ _ (((HB.out.cell (World.block_lt_of_cell? w _ hw252_0)).trans hw252_0)) (fun hHeld => ?_)
      clear hK K
      refine nm (some 39) ?_
      refine oa 10 (some 46) (yz 15 2047) HT_ (fun K hK => ?_)
      refine Kd.R_lit_step (Kd.int .i64) _ 3 ?hg (N := 46) ?hd (xs := ([wrap64 (Int.tdiv a1 (rd l0 (l2.length : Int)))] : List Int)) (inner := [.int .i64 (wrap64 (Int.tdiv a1 (rd l0 (l2.length : Int))))]) (ok := fun _ => True) (okp := fun _ => True) ?hr ?hp (fun _ hk => hk) trivial (Below.refl _ _) (Nat.le_refl _) (by simp) ?_; (case hd => rfl); (case hg => rfl); (case hr => first | (go_simp; done) | (go_simp; rfl)); (case hp => exact (Reps.one (show Kd.M (Kd.int .i64) _ _ _ (wrap64 (Int.tdiv a1 (rd l0 (l2.length : Int)))) [.int .i64 (wrap64 (Int.tdiv a1 (rd l0 (l2.length : Int))))] from rfl) (Reps.none _ _)))
      intro v254 w30 ho31 hb hg_ hnew_
      clear hg_ hnew_
      (first | rw [← Ny253.out] at ho31 | (simp only [Int.reduceToNat] at ho31; rw [← Ny253.out] at ho31))
      replace HO244 := am (Kd.N_elder' (no HO244.out) (Kd.R_base ho31) hb)
      have HO255 := am (Kd.R_lower (Kd.R_new' (Kd.R_newM (M := fun k_ => (w.heap.size ≤ k_)) ho31 (below_size bw) (fun k_ h_ => h_)) (Kd.R_lt (ro HO251.out))) (below_size bw))
      replace HO251 := am (Kd.R_elder' (ro HO251.out) (Kd.R_base ho31) hb)
      replace HB := am (below_step bw hb)
      clear hb ho31
      refine hK.out _ _ (((HB.out.cell (World.block_lt_of_cell? w _ hw252_0)).trans hw252_0)) (fun hHeld => ?_)
      clear hK K
      refine nm (some 46) ?_
      exact norm_ (by simp only [putAll, Act.put, List.setIfInBounds_toArray, List.set_cons_zero, List.set_cons_succ]) (hCont (v247, v250, v254) _ ⟨hHeld, (by (with_reducible repeat (first | apply Kd.N_alloc | apply Kd.N_drewN | apply Kd.N_drew)); exact Kd.N_mono HO244.out (fun _ hk => ⟨hk.1.1, ⟨hk.1.2, hk.2⟩⟩)), (ro HO251.out), (by (with_reducible repeat (first | apply Kd.R_alloc | apply Kd.R_drewN | apply Kd.R_drew)); exact Kd.R_mono HO255.out (fun _ hk => by first | exact ⟨hk.1.1, hk.2⟩ | simp_all)), bw⟩)
     skip
     refine Kd.R_lit_step (Kd.int .i64) _ 3 ?hg (N := 46) ?hd (xs := ([wrap64 (Int.tdiv a1 (rd l0 (l2.length : Int)))] : List Int)) (inner := [.int .i64 (wrap64 (Int.tdiv a1 (rd l0 (l2.length : Int))))]) (ok := fun _ => True) (okp := fun _ => True) ?hr ?hp (fun _ hk => hk) trivial (Below.refl _ _) (Nat.le_refl _) (by simp) ?_; (case hd => rfl); (case hg => rfl); (case hr => first | (go_simp; done) | (go_simp; rfl)); (case hp => exact (Reps.one (show Kd.M (Kd.int .i64) _ _ _ (wrap64 (Int.tdiv a1 (rd l0 (l2.length : Int)))) [.int .i64 (wrap64 (Int.tdiv a1 (rd l0 (l2.length : Int))))] from rfl) (Reps.none _ _)))
     intro v254 w29 ho30 hb hg_ hnew_
     clear hg_ hnew_
     (first | rw [← Ny253.out] at ho30 | (simp only [Int.reduceToNat] at ho30; rw [← Ny253.out] at ho30))
     replace HO244 := am (Kd.N_elder' (no HO244.out) (Kd.R_base ho30) hb)
     have HO255 := am (Kd.R_lower (Kd.R_new' (Kd.R_newM (M := fun k_ => (w.heap.size ≤ k_)) ho30 (below_size bw) (fun k_ h_ => h_)) (Kd.R_lt (ro HO248.out))) (below_size bw))
     replace HO248 := am (Kd.R_elder' (ro HO248.out) (Kd.R_base ho30) hb)
     replace HB := am (below_step bw hb)
     clear hb ho30
     refine hK.out _ _ (((HB.out.cell (World.block_lt_of_cell? w _ hw252_0)).trans hw252_0)) (fun hHeld => ?_)
     clear hK K
     refine nm (some 46) ?_
     refine oa 3 (some 39) (yz 15 2047) HT_ (fun K hK => ?_)
     refine Kd.R_append_rows_step (Kd.int .i64) (w0 := w) w.heap.size (by rfl) (.tmp 37) (.tmp 38) 22 3 (.int .i64 0) 8 rfl Try.underlying22 info3 rfl (by decide) (by omega) v247 y246 l2 _ _ _ (fun k_ => (w.heap.size ≤ k_) ∧ some k_ ≠ (v254 : Value).ownBlock) (fun _ => False) rfl rfl ?aO ?aR (fun _ _ h => h) (fun _ h => h.elim) ?aF ?aB ?aS ?aL ?_
     (case aR => exact co (Kd.C_below HR2.out HB.out))
     (case aB => exact bw)
     (case aF => exact (fun k_ hk => ⟨(Nat.le_trans (below_size bw) hk), Kd.fresh' (Kd.R_lt (ro HO255.out)) k_ hk⟩))
     (case aO => exact (by (with_reducible repeat (first | apply Kd.R_alloc | apply Kd.R_drewN | apply Kd.R_drew)); exact Kd.R_mono HO248.out (fun _ hk => by first | exact ⟨hk.1.1, hk.2⟩ | simp_all)))
     (case aS => exact (below_size bw))
     (case aL => have := LMc20.out; omega)
     intro v250 w31 ho hb hg hat
     rw [← Ny249.out] at ho
     replace HO244 := am (Kd.N_afterv (ok := (fun k_ => (w.heap.size ≤ k_) ∧ some k_ ≠ (v254 : Value).ownBlock)) (by (with_reducible repeat (first | apply Kd.N_alloc | apply Kd.N_drewN | apply Kd.N_drew)); exact Kd.N_mono HO244.out (fun _ hk => ⟨⟨hk.1.1, hk.2⟩, hk.1.2⟩)) hg hat)
     replace HO255 := am (Kd.R_after (ok := (fun k_ => (w.heap.size ≤ k_))) (by (with_reducible repeat (first | apply Kd.R_alloc | apply Kd.R_drewN | apply Kd.R_drew)); exact Kd.R_mono HO255.out (fun _ hk => by first | exact ⟨hk.1.1, hk.2⟩ | simp_all)) hg hat)
     replace HB := am (hb)
     have HO251 := am (ho)
     clear HO248 ho hb hg hat
     refine hK.out _ _ (((HB.out.cell (World.block_lt_of_cell? w _ hw252_0)).trans hw252_0)) (fun hHeld => ?_)
     clear hK K
     refine nm (some 39) ?_
     exact norm_ (by simp only [putAll, Act.put, List.setIfInBounds_toArray, List.set_cons_zero, List.set_cons_succ]) (hCont (v247, v250, v254) _ ⟨hHeld, (by (with_reducible repeat (first | apply Kd.N_alloc | apply Kd.N_drewN | apply Kd.N_drew)); exact Kd.N_mono HO244.out (fun _ hk => ⟨hk.1.1, ⟨hk.2, hk.1.2⟩⟩)), (ro HO251.out), (ro HO255.out), bw⟩)
    skip
    refine Kd.R_lit_step (Kd.int .i64) _ 3 ?hg (N := 46) ?hd (xs := ([wrap64 (Int.tdiv a1 (rd l0 (l2.length : Int)))] : List Int)) (inner := [.int .i64 (wrap64 (Int.tdiv a1 (rd l0 (l2.length : Int))))]) (ok := fun _ => True) (okp := fun _ => True) ?hr ?hp (fun _ hk => hk) trivial (Below.refl _ _) (Nat.le_refl _) (by simp) ?_; (case hd => rfl); (case hg => rfl); (case hr => first | (go_simp; done) | (go_simp; rfl)); (case hp => exact (Reps.one (show Kd.M (Kd.int .i64) _ _ _ (wrap64 (Int.tdiv a1 (rd l0 (l2.length : Int)))) [.int .i64 (wrap64 (Int.tdiv a1 (rd l0 (l2.length : Int))))] from rfl) (Reps.none _ _)))
    intro v254 w27 ho28 hb hg_ hnew_
    clear hg_ hnew_
    (first | rw [← Ny253.out] at ho28 | (simp only [Int.reduceToNat] at ho28; rw [← Ny253.out] at ho28))
    replace HO244 := am (Kd.N_elder' (no HO244.out) (Kd.R_base ho28) hb)
    have HO255 := am (Kd.R_lower (Kd.R_newM (M := fun k_ => (w.heap.size ≤ k_)) ho28 (below_size bw) (fun k_ h_ => h_)) (below_size bw))
    replace HB := am (below_step bw hb)
    clear hb ho28
    refine hK.out _ _ (((HB.out.cell (World.block_lt_of_cell? w _ hw252_0)).trans hw252_0)) (fun hHeld => ?_)
    clear hK K
    refine nm (some 46) ?_
    refine oa 1 (some 37) (yz 15 2039) HT_ (fun K hK => ?_)
    refine Kd.R_lit_step (Kd.int .i64) _ 3 ?hg (N := 37) ?hd (xs := ([] : List Int)) (inner := []) (ok := fun _ => True) (okp := fun _ => True) ?hr ?hp (fun _ hk => hk) trivial (Below.refl _ _) (Nat.le_refl _) (by simp) ?_; (case hd => rfl); (case hg => rfl); (case hr => first | (go_simp; done) | (go_simp; rfl)); (case hp => exact (Reps.none _ _))
    intro v247 w29 ho30 hb hg_ hnew_
    clear hg_ hnew_
    (first | rw [← Ny246.out] at ho30 | (simp only [Int.reduceToNat] at ho30; rw [← Ny246.out] at ho30))
    replace HO244 := am (Kd.N_elder' (no HO244.out) (Kd.R_base ho30) hb)
    have HO248 := am (Kd.R_lower (Kd.R_new' (Kd.R_newM (M := fun k_ => (w.heap.size ≤ k_)) ho30 (below_size bw) (fun k_ h_ => h_)) (Kd.R_lt (ro HO255.out))) (below_size bw))
    replace HO255 := am (Kd.R_elder' (ro HO255.out) (Kd.R_base ho30) hb)
    replace HB := am (below_step bw hb)
    clear hb ho30
    refine hK.out _ _ (((HB.out.cell (World.block_lt_of_cell? w _ hw252_0)).trans hw252_0)) (fun hHeld => ?_)
    clear hK K
    refine nm (some 37) ?_
    refine oa 3 (some 39) (yz 15 2047) HT_ (fun K hK => ?_)
    refine Kd.R_append_rows_step (Kd.int .i64) (w0 := w) w.heap.size (by rfl) (.tmp 37) (.tmp 38) 22 3 (.int .i64 0) 8 rfl Try.underlying22 info3 rfl (by decide) (by omega) v247 y246 l2 _ _ _ (fun k_ => (w.heap.size ≤ k_) ∧ some k_ ≠ (v254 : Value).ownBlock) (fun _ => False) rfl rfl ?aO ?aR (fun _ _ h => h) (fun _ h => h.elim) ?aF ?aB ?aS ?aL ?_
    (case aR => exact co (Kd.C_below HR2.out HB.out))
    (case aB => exact bw)
    (case aF => exact (fun k_ hk => ⟨(Nat.le_trans (below_size bw) hk), Kd.fresh' (Kd.R_lt (ro HO255.out)) k_ hk⟩))
    (case aO => exact (by (with_reducible repeat (first | apply Kd.R_alloc | apply Kd.R_drewN | apply Kd.R_drew)); exact Kd.R_mono HO248.out (fun _ hk => by first | exact ⟨hk.1.1, hk.2⟩ | simp_all)))
    (case aS => exact (below_size bw))
    (case aL => have := LMc20.out; omega)
    intro v250 w31 ho hb hg hat
    rw [← Ny249.out] at ho
    replace HO244 := am (Kd.N_afterv (ok := (fun k_ => (w.heap.size ≤ k_) ∧ some k_ ≠ (v254 : Value).ownBlock)) (no HO244.out) hg hat)
    replace HO255 := am (Kd.R_after (ok := (fun k_ => (w.heap.size ≤ k_))) (by (with_reducible repeat (first | apply Kd.R_alloc | apply Kd.R_drewN | apply Kd.R_drew)); exact Kd.R_mono HO255.out (fun _ hk => by first | exact ⟨hk.1.1, hk.2⟩ | simp_all)) hg hat)
    replace HB := am (hb)
    have HO251 := am (ho)
    clear HO248 ho hb hg hat
    refine hK.out _ _ (((HB.out.cell (World.block_lt_of_cell? w _ hw252_0)).trans hw252_0)) (fun hHeld => ?_)
    clear hK K
    refine nm (some 39) ?_
    exact norm_ (by simp only [putAll, Act.put, List.setIfInBounds_toArray, List.set_cons_zero, List.set_cons_succ]) (hCont (v247, v250, v254) _ ⟨hHeld, (by (with_reducible repeat (first | apply Kd.N_alloc | apply Kd.N_drewN | apply Kd.N_drew)); exact Kd.N_mono HO244.out (fun _ hk => ⟨hk.1.1, ⟨hk.2, hk.1.2⟩⟩)), (ro HO251.out), (ro HO255.out), bw⟩)
   rintro ⟨v247, v250, v254⟩ w32 ⟨hS_, h0_, h1_, h2_, h3_⟩
   have n0_ : Aside0 (Kd.N (Kd.slice 3 (Kd.int .i64)) 22 w32 w.heap.size (fun k_ => (w.heap.size ≤ k_) ∧ some k_ ≠ (v250 : Value).ownBlock ∧ some k_ ≠ (v254 : Value).ownBlock) (.slice Ao25 y242.length co25) y242) := ⟨h0_⟩
   have n1_ : Aside0 (Kd.R (Kd.int .i64) 3 w32 w.heap.size (fun k_ => (w.heap.size ≤ k_) ∧ some k_ ≠ (v254 : Value).ownBlock) v250 y249) := ⟨h1_⟩
   have n2_ : Aside0 (Kd.R (Kd.int .i64) 3 w32 w.heap.size (fun k_ => (w.heap.size ≤ k_) ∧ some k_ ≠ (v250 : Value).ownBlock) v254 y253) := ⟨h2_⟩
   have n3_ : Aside0 (Below w.heap.size w w32) := ⟨h3_⟩
   clear HO244
   clear HB
   clear h0_ h1_ h2_ h3_
   have HO244 := n0_
   have HO251 := n1_
   have HO255 := n2_
   have HB := n3_
   clear n0_ n1_ n2_ n3_
   have hHeld : w32.cell? (ad245.add ((l2.length : Int)).toNat) = some (.int .i64 (rd l0 (l2.length : Int))) := hS_
   obtain ⟨Ao34, co34, eo34⟩ := Kd.R_slice HO255.out
   (first | subst eo34 | (injection eo34 with f1_ f2_ f3_; have f4_ := f1_.symm; have f5_ := f3_.symm; clear f1_ f2_ f3_; subst f4_; subst f5_))
   refine norm_ (a' := ?_) ?_ ?_
   rotate_left
   ·simp only [putAll, Act.put, List.setIfInBounds_toArray, List.set_cons_zero, List.set_cons_succ]
    rfl
   refine oa 11 (some 47) (yz 15 4095) HT_ (fun K hK => ?_)
   refine Kd.R_append_rows_step (Kd.int .i64) (w0 := w) w.heap.size (by rfl) (.tmp 39) (.tmp 46) 22 3 (.int .i64 0) 8 rfl Try.underlying22 info3 rfl (by decide) (by omega) v250 y249 y253 _ _ _ (fun k_ => (w.heap.size ≤ k_) ∧ nb k_ Ao34 y253 co34) (fun _ => False) rfl rfl ?aO ?aR (fun _ _ h => h) (fun _ h => h.elim) ?aF ?aB ?aS ?aL ?_
   (case aR => exact co (Kd.R_reads' HO255.out).2.2)
   (case aB => exact bw)
   (case aF => exact (fun k_ hk => ⟨(Nat.le_trans (below_size bw) hk), Kd.fresh' (Kd.R_lt (ro HO255.out)) k_ hk⟩))
   (case aO => exact (ro HO251.out))
   (case aS => exact (below_size bw))
   (case aL => have := LMc21.out; omega)
   intro v257 w33 ho hb hg hat
   rw [← Ny256.out] at ho
   replace HO244 := am (Kd.N_afterv (ok := (fun k_ => (w.heap.size ≤ k_) ∧ nb k_ Ao34 y253 co34)) (by (with_reducible repeat (first | apply Kd.N_alloc | apply Kd.N_drewN | apply Kd.N_drew)); exact Kd.N_mono HO244.out (fun _ hk => ⟨⟨hk.1, hk.2.2⟩, hk.2.1⟩)) hg hat)
   replace HO255 := am (Kd.R_after (ok := (fun k_ => (w.heap.size ≤ k_))) (ro HO255.out) hg hat)
   replace HB := am (hb)
   have HO258 := am (ho)
   clear HO251 ho hb hg hat
   obtain ⟨Ao35, co35, eo35⟩ := Kd.R_slice HO258.out
   (first | subst eo35 | (injection eo35 with f1_ f2_ f3_; have f4_ := f1_.symm; have f5_ := f3_.symm; clear f1_ f2_ f3_; subst f4_; subst f5_))
   refine hK.out _ _ (((HB.out.cell (World.block_lt_of_cell? w _ hw252_0)).trans hw252_0)) (fun hHeld => ?_)
   clear hK K
   refine nm (some 47) ?_
   refine oa 12 (some 48) (yz 15 8191) HT_ (fun K hK => ?_)
   refine Kd.N_lit_step (Kd.slice 3 (Kd.int .i64)) _ 22 ?hg (N' := 48) ?hd (xs := ([y256] : List (List Int))) (inner := [.slice Ao35 y256.length co35]) (ok := (fun k_ => (w.heap.size ≤ k_) ∧ nb k_ Ao25 y242 co25 ∧ nb k_ Ao34 y253 co34)) (okp := (fun k_ => (w.heap.size ≤ k_) ∧ nb k_ Ao25 y242 co25 ∧ nb k_ Ao34 y253 co34)) ?hr ?hp (fun _ hk => hk) ((show ∀ k_, w33.heap.size ≤ k_ → (fun k_ => (w.heap.size ≤ k_) ∧ nb k_ Ao25 y242 co25 ∧ nb k_ Ao34 y253 co34) k_ from fun k_ hk => ⟨(Nat.le_trans (below_size bw) hk), Kd.fresh' (Kd.N_lt (no HO244.out)) k_ hk, Kd.fresh' (Kd.R_lt (ro HO255.out)) k_ hk⟩) _ (Nat.le_refl _)) (Below.refl _ _) (Nat.le_refl _) (by simp) ?_; (case hd => rfl); (case hg => rfl); (case hr => first | (go_simp; done) | (go_simp; rfl)); (case hp => exact (Reps.one (show Kd.FK (Kd.slice 3 (Kd.int .i64)) _ _ y256 [.slice Ao35 y256.length co35] from (Kd.FK_slice_mk (Kd.R_reads' (Kd.R_mono (ok' := (fun k_ => (w.heap.size ≤ k_) ∧ nb k_ Ao25 y242 co25 ∧ nb k_ Ao34 y253 co34)) (Kd.R_apart' (HO258.out) (Kd.N_typed HO244.out) (by decide)) (fun k_ hk => ⟨hk.1.1, ⟨hk.2, hk.1.2⟩⟩))).2.1 (Kd.R_F (Kd.R_mono (ok' := (fun k_ => (w.heap.size ≤ k_) ∧ nb k_ Ao25 y242 co25 ∧ nb k_ Ao34 y253 co34)) (Kd.R_apart' (HO258.out) (Kd.N_typed HO244.out) (by decide)) (fun k_ hk => ⟨hk.1.1, ⟨hk.2, hk.1.2⟩⟩))))) (Reps.none _ _)))
   intro v260 w36 ho37 hb hg_ hnew_
   clear hg_ hnew_
   (first | rw [← Ny259.out] at ho37 | (simp only [Int.reduceToNat] at ho37; rw [← Ny259.out] at ho37))
   replace HO244 := am (Kd.N_elder' (no HO244.out) (Kd.N_base ho37) hb)
   replace HO255 := rK HO255 hb
   have HO261 := am (Kd.N_lower ho37 (below_size bw))
   replace HB := am (below_step bw hb)
   clear HO258 hb ho37
   obtain ⟨Ao39, co39, eo39⟩ := Kd.N_slice HO261.out
   (first | subst eo39 | (injection eo39 with f1_ f2_ f3_; have f4_ := f1_.symm; have f5_ := f3_.symm; clear f1_ f2_ f3_; subst f4_; subst f5_))
   refine hK.out _ _ (((HB.out.cell (World.block_lt_of_cell? w _ hw252_0)).trans hw252_0)) (fun hHeld => ?_)
   clear hK K
   refine nm (some 48) ?_
   refine oa 13 (some 49) (yz 15 16383) HT_ (fun K hK => ?_)
   refine Kd.N_append_rows_step (Kd.slice 3 (Kd.int .i64)) (w0 := w) w.heap.size (by rfl) (.tmp 36) (.tmp 48) 49 22 (.slice none 0 0) 24 rfl Try.underlying49 info22 rfl (by decide) (by omega) (.slice Ao25 y242.length co25) y242 y259 _ _ _ (fun k_ => (w.heap.size ≤ k_) ∧ nb k_ Ao34 y253 co34) (fun k_ => ((fun k_ => (w.heap.size ≤ k_) ∧ nb k_ Ao34 y253 co34)) k_ ∧ nb k_ Ao25 y242 co25) rfl rfl ?aO ?aR (fun _ hk => hk) ?aF ?aB ?aS ?aL ?_
   (case aR => exact (by skip; exact Kd.N_F (Kd.N_mono (ok' := (fun k_ => ((fun k_ => (w.heap.size ≤ k_) ∧ nb k_ Ao34 y253 co34)) k_ ∧ nb k_ Ao25 y242 co25)) (HO261.out) (fun k_ hk => ⟨⟨hk.1, hk.2.2⟩, hk.2.1⟩))))
   (case aB => exact bw)
   (case aF => exact (fun k_ hk => ⟨(Nat.le_trans (below_size bw) hk), Kd.fresh' (Kd.R_lt (ro HO255.out)) k_ hk⟩))
   (case aO => exact (by (with_reducible repeat (first | apply Kd.N_alloc | apply Kd.N_drewN | apply Kd.N_drew)); exact Kd.N_mono HO244.out (fun _ hk => by first | exact ⟨hk.1.1.1, hk.1.1.2⟩ | simp_all)))
   (case aS => exact (below_size bw))
   (case aL => have := LMc22.out; omega)
   intro v263 w38 ho hb hg hat
   rw [← Ny262.out] at ho
   replace HO255 := am (Kd.R_over' (ro HO255.out) (Kd.N_typed (no HO244.out)) (by decide) hg)
   replace HO261 := am (Kd.N_afterv (ok := (fun k_ => (w.heap.size ≤ k_) ∧ nb k_ Ao34 y253 co34)) (by (with_reducible repeat (first | apply Kd.N_alloc | apply Kd.N_drewN | apply Kd.N_drew)); exact Kd.N_mono HO261.out (fun _ hk => ⟨⟨hk.1, hk.2.2⟩, hk.2.1⟩)) hg hat)
   replace HB := am (hb)
   have HO264 := am (ho)
   clear HO244 ho hb hg hat
   refine hK.out _ _ (((HB.out.cell (World.block_lt_of_cell? w _ hw252_0)).trans hw252_0)) (fun hHeld => ?_)
   clear hK K
   refine nm (some 49) ?_
   refine pa 14 (some 8) (yz 15 32767) HT_ ?_
   refine done_ (done_of HT_.out (by kernel_rfl)) ?_
   try go_wp2
   go_ret
   exact ⟨_, re, by (with_reducible repeat (first | apply Kd.N_alloc | apply Kd.N_drewN | apply Kd.N_drew)); exact Kd.N_mono HO264.out (fun _ hk => hk.1), bw⟩
  rw [if_neg c19] at H
  have c19b0 : ((Int.tmod a1 (rd l0 (l2.length : Int))) == 0) = false := beq_eq_false_iff_ne.mpr c19
  have c19b1 : ((Int.tmod a1 (rd l0 (l2.length : Int))) != 0) = true := bne_iff_ne.mpr c19
  obtain rfl := Option.some.inj H
  go_enter Try.func130, Try.ntmps130
  go_wp2_with (first | ((with_reducible refine gate_dst (N := 23) rfl ?_); refine Kd.N_lit (Kd.slice 3 (Kd.int .i64)) _ 22 ?hg (N' := 23) ?hd (xs := ([] : List (List Int))) (inner := []) (ok := (fun k_ => (w.heap.size ≤ k_))) (okp := (fun k_ => (w.heap.size ≤ k_))) ?hr ?hp (fun _ hk => hk) ((show ∀ k_, w.heap.size ≤ k_ → (fun k_ => (w.heap.size ≤ k_)) k_ from fun k_ hk => (Nat.le_trans (below_size bw) hk)) _ (Nat.le_refl _)) (Below.refl _ _) (Nat.le_refl _) (by simp) ?_; (case hd => rfl); (case hg => rfl); (case hr => first | (go_simp; done) | (go_simp; rfl)); (case hp => exact (Reps.none _ _)); intro v243 w40 ho41 hb hg_ hnew_; clear hg_ hnew_; (first | rw [← Ny242.out] at ho41 | (simp only [Int.reduceToNat] at ho41; rw [← Ny242.out] at ho41)); have HO244 := am (Kd.N_lower ho41 (below_size bw)); replace HB := am (below_step bw hb); clear hb ho41; have p245 : 0 ≤ ((l2.length : Int) : Int) := of_decide_eq_true (by first | (with_reducible assumption) | assumption); have q245 : (l2.length : Int) < (l0.length : Int) := of_decide_eq_true (by first | (with_reducible assumption) | assumption); obtain ⟨ad245, e245, hx245_0⟩ := Kd.at_int HR0.out (l2.length : Int) p245 q245; cases e245; replace hx245_0 := hw HB hx245_0; (try simp only [Go.IntWalk.toNatUp] at hx245_0); replace p245 := eq_true p245; replace q245 := eq_true q245))
  go_ret
  exact ⟨_, re, by (with_reducible repeat (first | apply Kd.N_alloc | apply Kd.N_drewN | apply Kd.N_drew)); exact HO244.out, bw⟩
 rw [if_neg c15] at H
 have c15b0 : ((l2.length : Int) == (wrap64 ((l0.length : Int) - 1))) = false := beq_eq_false_iff_ne.mpr c15
 have c15b1 : ((l2.length : Int) != (wrap64 ((l0.length : Int) - 1))) = true := bne_iff_ne.mpr c15
 replace H := gp H; obtain ⟨c42, H⟩ := H
 have c42b0 : decide (0 ≤ (l2.length : Int)) = true := decide_eq_true c42
 have c42b1 : decide (0 ≤ l2.length) = true := decide_eq_true (by omega)
 clear c42
 replace H := gp H; obtain ⟨c43, H⟩ := H
 have c43b0 : decide ((l2.length : Int) < (l0.length : Int)) = true := decide_eq_true c43
 have c43b1 : decide (l2.length < l0.length) = true := decide_eq_true (Int.ofNat_lt.mp c43)
 clear c43
 by_cases c44 : (rd l0 (l2.length : Int)) = 0
 ·rw [if_pos c44] at H
  exact absurd H (by simp)
 rw [if_neg c44] at H
 have c44b0 : ((rd l0 (l2.length : Int)) == 0) = false := beq_eq_false_iff_ne.mpr c44
 have c44b1 : ((rd l0 (l2.length : Int)) != 0) = true := bne_iff_ne.mpr c44
 have H' := am H
 clear H
 go_enter Try.func130, Try.ntmps130
 go_wp2_with (first | ((with_reducible refine gate_dst (N := 23) rfl ?_); refine Kd.N_lit (Kd.slice 3 (Kd.int .i64)) _ 22 ?hg (N' := 23) ?hd (xs := ([] : List (List Int))) (inner := []) (ok := (fun k_ => (w.heap.size ≤ k_))) (okp := (fun k_ => (w.heap.size ≤ k_))) ?hr ?hp (fun _ hk => hk) ((show ∀ k_, w.heap.size ≤ k_ → (fun k_ => (w.heap.size ≤ k_)) k_ from fun k_ hk => (Nat.le_trans (below_size bw) hk)) _ (Nat.le_refl _)) (Below.refl _ _) (Nat.le_refl _) (by simp) ?_; (case hd => rfl); (case hg => rfl); (case hr => first | (go_simp; done) | (go_simp; rfl)); (case hp => exact (Reps.none _ _)); intro v243 w45 ho46 hb hg_ hnew_; clear hg_ hnew_; (first | rw [← Ny242.out] at ho46 | (simp only [Int.reduceToNat] at ho46; rw [← Ny242.out] at ho46)); have HO244 := am (Kd.N_lower ho46 (below_size bw)); replace HB := am (below_step bw hb); clear hb ho46; have p265 : 0 ≤ ((l2.length : Int) : Int) := of_decide_eq_true (by first | (with_reducible assumption) | assumption); have q265 : (l2.length : Int) < (l0.length : Int) := of_decide_eq_true (by first | (with_reducible assumption) | assumption); obtain ⟨ad265, e265, hx265_0⟩ := Kd.at_int HR0.out (l2.length : Int) p265 q265; cases e265; replace hx265_0 := hw HB hx265_0; (try simp only [Go.IntWalk.toNatUp] at hx265_0); replace p265 := eq_true p265; replace q265 := eq_true q265))
 go_loopg [8, 9] k (fun kq v8 v9 w' => ∃ (x8_1 : List (List Int)) (x9_1 : Int), v9 = .int .i64 x9_1 ∧ Aside0 (spec_l11Find.l0 kq l0 a1 l2 (l2.length : Int) x8_1 x9_1 = some r) ∧ Aside0 (kq ≤ k) ∧ Aside0 (Kd.N (Kd.slice 3 (Kd.int .i64)) 22 w' w.heap.size (fun k_ => (w.heap.size ≤ k_)) v8 x8_1) ∧ Aside0 (Below w.heap.size w w'))
 case atStart => exact ⟨(y242), (wrap64 (Int.tdiv a1 (rd l0 (l2.length : Int)))), rr, H', ⟨Nat.le_refl _⟩, ⟨no HO244.out⟩, ⟨bw⟩⟩
 case round =>
  clear H'
  try clear c2; try clear c4; try clear c4b0; try clear c4b1; try clear c4b2; try clear c5; try clear c5b0; try clear c5b1; try clear c6; try clear c15; try clear c15b0; try clear c15b1; try clear c16; try clear c16b0; try clear c16b1; try clear c17; try clear c17b0; try clear c17b1; try clear c18; try clear c18b0; try clear c18b1; try clear c19; try clear c19b0; try clear c19b1; try clear c20; try clear c21; try clear c22; try clear c42; try clear c42b0; try clear c42b1; try clear c43; try clear c43b0; try clear c43b1; try clear c44; try clear c44b0; try clear c44b1; try clear hx245_0; try clear hx252_0; try clear hx265_0; try clear p245; try clear p252; try clear p265; try clear q245; try clear q252; try clear q265
  obtain ⟨x8_1, x9_1, rfl, HA, HK1, HO_8, HB⟩ := hrel
  cases gk with
  | zero => exact absurd HA.out (by simp [spec_l11Find.l0])
  | succ k1 =>
   have H := HA.out
   clear HA
   simp only [spec_l11Find.l0] at H
   replace H := gj H; obtain ⟨c47, H⟩ | ⟨c47, H⟩ := H
   ·have c47b0 : decide (0 ≤ x9_1) = true := decide_eq_true c47
    clear c47
    replace H := gp H; obtain ⟨c48, H⟩ := H
    have c48b0 : decide (0 ≤ (l2.length : Int)) = true := decide_eq_true c48
    have c48b1 : decide (0 ≤ l2.length) = true := decide_eq_true (by omega)
    clear c48
    replace H := gp H; obtain ⟨c49, H⟩ := H
    have c49b0 : decide ((l2.length : Int) < (l0.length : Int)) = true := decide_eq_true c49
    have c49b1 : decide (l2.length < l0.length) = true := decide_eq_true (Int.ofNat_lt.mp c49)
    clear c49
    obtain ⟨y267, hy267⟩ : ∃ y_ : List Int, y_ = (([] : List Int)) := ⟨_, rfl⟩
    replace H : (if y267.length + l2.length < 17592186044416 then ((some (y267 ++ l2 : List Int)).bind fun y270 => ((some (([x9_1] : List Int) : List Int)).bind fun y273 => (if y270.length + y273.length < 17592186044416 then ((spec_l11Find.f k1 l0 (wrap64 (a1 - (wrap64 (x9_1 * (rd l0 (l2.length : Int)))))) (y270 ++ y273)).bind fun t279 => (if x8_1.length + t279.length < 5864062014805 then (spec_l11Find.l0 k1 l0 a1 l2 (l2.length : Int) (x8_1 ++ t279) (wrap64 (x9_1 - 1))) else (none))) else (none)))) else (none)) = some r := by first | (rw [hy267]; with_reducible first | exact H | exact bs H) | (with_reducible first | exact bs H | exact H) | (rw [hy267]; exact H) | exact H
    have Ny267 := am hy267
    clear hy267
    by_cases c50 : y267.length + l2.length < 17592186044416
    rotate_left
    ·rw [if_neg c50] at H
     exact absurd H (by simp)
    rw [if_pos c50] at H
    have LMc50 := am c50
    clear c50
    obtain ⟨y270, hy270⟩ : ∃ y_ : List Int, y_ = (y267 ++ l2) := ⟨_, rfl⟩
    replace H : ((some (([x9_1] : List Int) : List Int)).bind fun y273 => (if y270.length + y273.length < 17592186044416 then ((spec_l11Find.f k1 l0 (wrap64 (a1 - (wrap64 (x9_1 * (rd l0 (l2.length : Int)))))) (y270 ++ y273)).bind fun t279 => (if x8_1.length + t279.length < 5864062014805 then (spec_l11Find.l0 k1 l0 a1 l2 (l2.length : Int) (x8_1 ++ t279) (wrap64 (x9_1 - 1))) else (none))) else (none))) = some r := by first | (rw [hy270]; with_reducible first | exact H | exact bs H) | (with_reducible first | exact bs H | exact H) | (rw [hy270]; exact H) | exact H
    have Ny270 := am hy270
    clear hy270
    obtain ⟨y273, hy273⟩ : ∃ y_ : List Int, y_ = (([x9_1] : List Int)) := ⟨_, rfl⟩
    replace H : (if y270.length + y273.length < 17592186044416 then ((spec_l11Find.f k1 l0 (wrap64 (a1 - (wrap64 (x9_1 * (rd l0 (l2.length : Int)))))) (y270 ++ y273)).bind fun t279 => (if x8_1.length + t279.length < 5864062014805 then (spec_l11Find.l0 k1 l0 a1 l2 (l2.length : Int) (x8_1 ++ t279) (wrap64 (x9_1 - 1))) else (none))) else (none)) = some r := by first | (rw [hy273]; with_reducible first | exact H | exact bs H) | (with_reducible first | exact bs H | exact H) | (rw [hy273]; exact H) | exact H
    have Ny273 := am hy273
    clear hy273
    by_cases c51 : y270.length + y273.length < 17592186044416
    rotate_left
    ·rw [if_neg c51] at H
     exact absurd H (by simp)
    rw [if_pos c51] at H
    have LMc51 := am c51
    clear c51
    obtain ⟨y276, hy276⟩ : ∃ y_ : List Int, y_ = (y270 ++ y273) := ⟨_, rfl⟩
    replace H : ((spec_l11Find.f k1 l0 (wrap64 (a1 - (wrap64 (x9_1 * (rd l0 (l2.length : Int)))))) y276).bind fun t279 => (if x8_1.length + t279.length < 5864062014805 then (spec_l11Find.l0 k1 l0 a1 l2 (l2.length : Int) (x8_1 ++ t279) (wrap64 (x9_1 - 1))) else (none))) = some r := by first | (rw [hy276]; with_reducible first | exact H | exact bs H) | (with_reducible first | exact bs H | exact H) | (rw [hy276]; exact H) | exact H
    have Ny276 := am hy276
    clear hy276
    replace H := ga H; obtain ⟨t279, A52, H⟩ := H
    by_cases c53 : x8_1.length + t279.length < 5864062014805
    rotate_left
    ·rw [if_neg c53] at H
     exact absurd H (by simp)
    rw [if_pos c53] at H
    have LMc53 := am c53
    clear c53
    obtain ⟨y282, hy282⟩ : ∃ y_ : List (List Int), y_ = (x8_1 ++ t279) := ⟨_, rfl⟩
    replace H : (spec_l11Find.l0 k1 l0 a1 l2 (l2.length : Int) y282 (wrap64 (x9_1 - 1))) = some r := by first | (rw [hy282]; with_reducible first | exact H | exact bs H) | (with_reducible first | exact bs H | exact H) | (rw [hy282]; exact H) | exact H
    have Ny282 := am hy282
    clear hy282
    have H' := am H
    clear H
    obtain ⟨Ao54, co54, eo54⟩ := Kd.N_slice HO_8.out
    subst eo54
    try go_wp2
    replace HO_8 := am (Kd.N_drew HO_8.out)
    replace HB := am (below_drew1 HB.out)
    obtain ⟨⟨ad266, e266, hx266_0⟩, p266, q266⟩ := pq (Kd.at_int HR0.out (l2.length : Int))
    have hw266_0 := hx266_0
    obtain rfl : ad265 = ad266 := (by injection e266)
    replace hx266_0 := hw HB hx266_0
    (try simp only [Go.IntWalk.toNatUp] at hx266_0)
    refine start_ (n := 19) (S := fun w' => w'.cell? (ad265.add ((l2.length : Int)).toNat) = some (.int .i64 (rd l0 (l2.length : Int)))) (ds := []) (yz 19 0) (by kernel_rfl) rfl rfl (((HB.out.cell (World.block_lt_of_cell? w _ hw266_0)).trans hw266_0)) (fun hHeld => ?_); refine with_tabW spec_l11Find.tab14 spec_l11Find.bits14 (fun HT_ HW_ => ?_)
    generalize wr.drew = w55 at HO_8 HB hx266_0 hHeld ⊢
    refine pa 0 (some 61) (yz 19 1) HT_ ?_
    refine pa 1 (some 62) (yz 19 3) HT_ ?_
    refine pa 2 (some 63) (yz 19 7) HT_ ?_
    refine pa 3 (some 64) (yz 19 15) HT_ ?_
    refine pa 4 (some 65) (yz 19 31) HT_ ?_
    refine pa 5 (some 66) (yz 19 63) HT_ ?_
    refine pa 6 (some 67) (yz 19 127) HT_ ?_
    refine pa 11 (some 72) (yz 19 2175) HT_ ?_
    refine pa 13 (some 74) (yz 19 10367) HT_ ?_
    refine take_ (i := 7) (N := some 68) (v := ?_) (a' := ?_) (yz 19 10495) rfl rfl (take_ofW HT_.out HW_.out (by kernel_rfl)) (fun _ _ _ h => h) (Or.inl ⟨by rfl, ?_⟩) hHeld ?_ ?_
    rotate_left
    ·intro w' s0
     (try simp only [Int.toNat_natCast] at s0)
     go_simp
     with_reducible rfl
    rotate_left
    ·simp only [Act.put, qa, qb, qc, i64_w, i32_w]
     rfl
    refine pa 8 (some 69) (yz 19 10751) HT_ ?_
    refine pa 9 (some 70) (yz 19 11263) HT_ ?_
    refine join_ (σ := Value × Value × Value) 4 (yz 19 32767) (fun s_ => [(71, s_.1), (73, s_.2.1), (75, s_.2.2)]) (fun s_ w' => (w'.cell? (ad265.add ((l2.length : Int)).toNat) = some (.int .i64 (rd l0 (l2.length : Int)))) ∧ (Kd.R (Kd.int .i64) 3 w' w.heap.size (fun k_ => (w.heap.size ≤ k_) ∧ some k_ ≠ (s_.2.2 : Value).ownBlock) s_.2.1 y270) ∧ (Kd.R (Kd.int .i64) 3 w' w.heap.size (fun k_ => (w.heap.size ≤ k_) ∧ some k_ ≠ (s_.2.1 : Value).ownBlock) s_.2.2 y273) ∧ (Kd.N (Kd.slice 3 (Kd.int .i64)) 22 w' w.heap.size (fun k_ => (w.heap.size ≤ k_) ∧ some k_ ≠ (s_.2.1 : Value).ownBlock ∧ some k_ ≠ (s_.2.2 : Value).ownBlock) (.slice Ao54 x8_1.length co54) x8_1) ∧ (Below w.heap.size w w')) ?_ ?_
    rotate_left
    ·intro hCont
     refine two_ (i := 10) (j := 14) (Ni := some 71) (Nj := some 75) (yz 19 12287) (yz 19 27647) rfl rfl rfl rfl (two_of HT_.out (by kernel_rfl)) (by decide) (by decide) (fun K hK => ?_) (fun K hK => ?_)
     ·skip
      refine Kd.R_lit_step (Kd.int .i64) _ 3 ?hg (N := 71) ?hd (xs := ([] : List Int)) (inner := []) (ok := fun _ => True) (okp := fun _ => True) ?hr ?hp (fun _ hk => hk) trivial (Below.refl _ _) (Nat.le_refl _) (by simp) ?_; (case hd => rfl); (case hg => rfl); (case hr => first | (go_simp; done) | (go_simp; rfl)); (case hp => exact (Reps.none _ _))
      intro v268 w56 ho57 hb hg_ hnew_
      clear hg_ hnew_
      (first | rw [← Ny267.out] at ho57 | (simp only [Int.reduceToNat] at ho57; rw [← Ny267.out] at ho57))
      replace HO_8 := am (Kd.N_elder' (no HO_8.out) (Kd.R_base ho57) hb)
      have HO269 := am (Kd.R_lower (Kd.R_newM (M := fun k_ => (w.heap.size ≤ k_)) ho57 (below_size bw) (fun k_ h_ => h_)) (below_size bw))
      replace HB := am (below_step bw hb)
      clear hb ho57
      refine hK.out _ _ (((HB.out.cell (World.block_lt_of_cell? w _ hw266_0)).trans hw266_0)) (fun hHeld => ?_)
      clear hK K
      refine nm (some 71) ?_
      refine two_ (i := 12) (j := 14) (Ni := some 73) (Nj := some 75) (yz 19 16383) (yz 19 28671) rfl rfl rfl rfl (two_of HT_.out (by kernel_rfl)) (by decide) (by decide) (fun K hK => ?_) (fun K hK => ?_)
      ·skip
       refine Kd.R_append_rows_step (Kd.int .i64) (w0 := w) w.heap.size (by rfl) (.tmp 71) (.tmp 72) 22 3 (.int .i64 0) 8 rfl Try.underlying22 info3 rfl (by decide) (by omega) v268 y267 l2 _ _ _ (fun k_ => (w.heap.size ≤ k_)) (fun _ => False) rfl rfl ?aO ?aR (fun _ _ h => h) (fun _ h => h.elim) ?aF ?aB ?aS ?aL ?_
       (case aR => exact co (Kd.C_below HR2.out HB.out))
       (case aB => exact bw)
       (case aF => exact (fun k_ hk => (Nat.le_trans (below_size bw) hk)))
       (case aO => exact (by (with_reducible repeat (first | apply Kd.R_alloc | apply Kd.R_drewN | apply Kd.R_drew)); exact Kd.R_mono HO269.out (fun _ hk => hk.1)))
       (case aS => exact (below_size bw))
       (case aL => have := LMc50.out; omega)
       intro v271 w58 ho hb hg hat
       rw [← Ny270.out] at ho
       replace HO_8 := am (Kd.N_afterv (ok := (fun k_ => (w.heap.size ≤ k_))) (no HO_8.out) hg hat)
       replace HB := am (hb)
       have HO272 := am (ho)
       clear HO269 ho hb hg hat
       refine hK.out _ _ (((HB.out.cell (World.block_lt_of_cell? w _ hw266_0)).trans hw266_0)) (fun hHeld => ?_)
       clear hK K
       refine nm (some 73) ?_
       refine oa 14 (some 75) (yz 19 32767) HT_ (fun K hK => ?_)
       refine Kd.R_lit_step (Kd.int .i64) _ 3 ?hg (N := 75) ?hd (xs := ([x9_1] : List Int)) (inner := [.int .i64 x9_1]) (ok := fun _ => True) (okp := fun _ => True) ?hr ?hp (fun _ hk => hk) trivial (Below.refl _ _) (Nat.le_refl _) (by simp) ?_; (case hd => rfl); (case hg => rfl); (case hr => first | (go_simp; done) | (go_simp; rfl)); (case hp => exact (Reps.one (show Kd.M (Kd.int .i64) _ _ _ x9_1 [.int .i64 x9_1] from rfl) (Reps.none _ _)))
       intro v274 w59 ho60 hb hg_ hnew_
       clear hg_ hnew_
       (first | rw [← Ny273.out] at ho60 | (simp only [Int.reduceToNat] at ho60; rw [← Ny273.out] at ho60))
       replace HO_8 := am (Kd.N_elder' (no HO_8.out) (Kd.R_base ho60) hb)
       have HO275 := am (Kd.R_lower (Kd.R_new' (Kd.R_newM (M := fun k_ => (w.heap.size ≤ k_)) ho60 (below_size bw) (fun k_ h_ => h_)) (Kd.R_lt (ro HO272.out))) (below_size bw))
       replace HO272 := am (Kd.R_elder' (ro HO272.out) (Kd.R_base ho60) hb)
       replace HB := am (below_step bw hb)
       clear hb ho60
       refine hK.out _ _ (((HB.out.cell (World.block_lt_of_cell? w _ hw266_0)).trans hw266_0)) (fun hHeld => ?_)
       clear hK K
       refine nm (some 75) ?_
       exact norm_ (by simp only [putAll, Act.put, List.setIfInBounds_toArray, List.set_cons_zero, List.set_cons_succ]) (hCont (v268, v271, v274) _ ⟨hHeld, (ro HO272.out), (by (with_reducible repeat (first | apply Kd.R_alloc | apply Kd.R_drewN | apply Kd.R_drew)); exact Kd.R_mono HO275.out (fun _ hk => by first | exact ⟨hk.1.1, hk.2⟩ | simp_all)), (by (with_reducible repeat (first | apply Kd.N_alloc | apply Kd.N_drewN | apply Kd.N_drew)); exact Kd.N_mono HO_8.out (fun _ hk => ⟨hk.1.1, ⟨hk.1.2, hk.2⟩⟩)), bw⟩)
      skip
      refine Kd.R_lit_step (Kd.int .i64) _ 3 ?hg (N := 75) ?hd (xs := ([x9_1] : List Int)) (inner := [.int .i64 x9_1]) (ok := fun _ => True) (okp := fun _ => True) ?hr ?hp (fun _ hk => hk) trivial (Below.refl _ _) (Nat.le_refl _) (by simp) ?_; (case hd => rfl); (case hg => rfl); (case hr => first | (go_simp; done) | (go_simp; rfl)); (case hp => exact (Reps.one (show Kd.M (Kd.int .i64) _ _ _ x9_1 [.int .i64 x9_1] from rfl) (Reps.none _ _)))
      intro v274 w58 ho59 hb hg_ hnew_
      clear hg_ hnew_
      (first | rw [← Ny273.out] at ho59 | (simp only [Int.reduceToNat] at ho59; rw [← Ny273.out] at ho59))
      replace HO_8 := am (Kd.N_elder' (no HO_8.out) (Kd.R_base ho59) hb)
      have HO275 := am (Kd.R_lower (Kd.R_new' (Kd.R_newM (M := fun k_ => (w.heap.size ≤ k_)) ho59 (below_size bw) (fun k_ h_ => h_)) (Kd.R_lt (ro HO269.out))) (below_size bw))
      replace HO269 := am (Kd.R_elder' (ro HO269.out) (Kd.R_base ho59) hb)
      replace HB := am (below_step bw hb)
      clear hb ho59
      refine hK.out _ _ (((HB.out.cell (World.block_lt_of_cell? w _ hw266_0)).trans hw266_0)) (fun hHeld => ?_)
      clear hK K
      refine nm (some 75) ?_
      refine oa 12 (some 73) (yz 19 32767) HT_ (fun K hK => ?_)
      refine Kd.R_append_rows_step (Kd.int .i64) (w0 := w) w.heap.size (by rfl) (.tmp 71) (.tmp 72) 22 3 (.int .i64 0) 8 rfl Try.underlying22 info3 rfl (by decide) (by omega) v268 y267 l2 _ _ _ (fun k_ => (w.heap.size ≤ k_) ∧ some k_ ≠ (v274 : Value).ownBlock) (fun _ => False) rfl rfl ?aO ?aR (fun _ _ h => h) (fun _ h => h.elim) ?aF ?aB ?aS ?aL ?_
      (case aR => exact co (Kd.C_below HR2.out HB.out))
      (case aB => exact bw)
      (case aF => exact (fun k_ hk => ⟨(Nat.le_trans (below_size bw) hk), Kd.fresh' (Kd.R_lt (ro HO275.out)) k_ hk⟩))
      (case aO => exact (by (with_reducible repeat (first | apply Kd.R_alloc | apply Kd.R_drewN | apply Kd.R_drew)); exact Kd.R_mono HO269.out (fun _ hk => by first | exact ⟨hk.1.1, hk.2⟩ | simp_all)))
      (case aS => exact (below_size bw))
      (case aL => have := LMc50.out; omega)
      intro v271 w60 ho hb hg hat
      rw [← Ny270.out] at ho
      replace HO_8 := am (Kd.N_afterv (ok := (fun k_ => (w.heap.size ≤ k_) ∧ some k_ ≠ (v274 : Value).ownBlock)) (by (with_reducible repeat (first | apply Kd.N_alloc | apply Kd.N_drewN | apply Kd.N_drew)); exact Kd.N_mono HO_8.out (fun _ hk => ⟨⟨hk.1.1, hk.2⟩, hk.1.2⟩)) hg hat)
      replace HO275 := am (Kd.R_after (ok := (fun k_ => (w.heap.size ≤ k_))) (by (with_reducible repeat (first | apply Kd.R_alloc | apply Kd.R_drewN | apply Kd.R_drew)); exact Kd.R_mono HO275.out (fun _ hk => by first | exact ⟨hk.1.1, hk.2⟩ | simp_all)) hg hat)
      replace HB := am (hb)
      have HO272 := am (ho)
      clear HO269 ho hb hg hat
      refine hK.out _ _ (((HB.out.cell (World.block_lt_of_cell? w _ hw266_0)).trans hw266_0)) (fun hHeld => ?_)
      clear hK K
      refine nm (some 73) ?_
      exact norm_ (by simp only [putAll, Act.put, List.setIfInBounds_toArray, List.set_cons_zero, List.set_cons_succ]) (hCont (v268, v271, v274) _ ⟨hHeld, (ro HO272.out), (ro HO275.out), (by (with_reducible repeat (first | apply Kd.N_alloc | apply Kd.N_drewN | apply Kd.N_drew)); exact Kd.N_mono HO_8.out (fun _ hk => ⟨hk.1.1, ⟨hk.2, hk.1.2⟩⟩)), bw⟩)
     skip
     refine Kd.R_lit_step (Kd.int .i64) _ 3 ?hg (N := 75) ?hd (xs := ([x9_1] : List Int)) (inner := [.int .i64 x9_1]) (ok := fun _ => True) (okp := fun _ => True) ?hr ?hp (fun _ hk => hk) trivial (Below.refl _ _) (Nat.le_refl _) (by simp) ?_; (case hd => rfl); (case hg => rfl); (case hr => first | (go_simp; done) | (go_simp; rfl)); (case hp => exact (Reps.one (show Kd.M (Kd.int .i64) _ _ _ x9_1 [.int .i64 x9_1] from rfl) (Reps.none _ _)))
     intro v274 w56 ho57 hb hg_ hnew_
     clear hg_ hnew_
     (first | rw [← Ny273.out] at ho57 | (simp only [Int.reduceToNat] at ho57; rw [← Ny273.out] at ho57))
     replace HO_8 := am (Kd.N_elder' (no HO_8.out) (Kd.R_base ho57) hb)
     have HO275 := am (Kd.R_lower (Kd.R_newM (M := fun k_ => (w.heap.size ≤ k_)) ho57 (below_size bw) (fun k_ h_ => h_)) (below_size bw))
     replace HB := am (below_step bw hb)
     clear hb ho57
     refine hK.out _ _ (((HB.out.cell (World.block_lt_of_cell? w _ hw266_0)).trans hw266_0)) (fun hHeld => ?_)
     clear hK K
     refine nm (some 75) ?_
     refine oa 10 (some 71) (yz 19 28671) HT_ (fun K hK => ?_)
     refine Kd.R_lit_step (Kd.int .i64) _ 3 ?hg (N := 71) ?hd (xs := ([] : List Int)) (inner := []) (ok := fun _ => True) (okp := fun _ => True) ?hr ?hp (fun _ hk => hk) trivial (Below.refl _ _) (Nat.le_refl _) (by simp) ?_; (case hd => rfl); (case hg => rfl); (case hr => first | (go_simp; done) | (go_simp; rfl)); (case hp => exact (Reps.none _ _))
     intro v268 w58 ho59 hb hg_ hnew_
     clear hg_ hnew_
     (first | rw [← Ny267.out] at ho59 | (simp only [Int.reduceToNat] at ho59; rw [← Ny267.out] at ho59))
     replace HO_8 := am (Kd.N_elder' (no HO_8.out) (Kd.R_base ho59) hb)
     have HO269 := am (Kd.R_lower (Kd.R_new' (Kd.R_newM (M := fun k_ => (w.heap.size ≤ k_)) ho59 (below_size bw) (fun k_ h_ => h_)) (Kd.R_lt (ro HO275.out))) (below_size bw))
     replace HO275 := am (Kd.R_elder' (ro HO275.out) (Kd.R_base ho59) hb)
     replace HB := am (below_step bw hb)
     clear hb ho59
     refine hK.out _ _ (((HB.out.cell (World.block_lt_of_cell? w _ hw266_0)).trans hw266_0)) (fun hHeld => ?_)
     clear hK K
     refine nm (some 71) ?_
     refine oa 12 (some 73) (yz 19 32767) HT_ (fun K hK => ?_)
     refine Kd.R_append_rows_step (Kd.int .i64) (w0 := w) w.heap.size (by rfl) (.tmp 71) (.tmp 72) 22 3 (.int .i64 0) 8 rfl Try.underlying22 info3 rfl (by decide) (by omega) v268 y267 l2 _ _ _ (fun k_ => (w.heap.size ≤ k_) ∧ some k_ ≠ (v274 : Value).ownBlock) (fun _ => False) rfl rfl ?aO ?aR (fun _ _ h => h) (fun _ h => h.elim) ?aF ?aB ?aS ?aL ?_
     (case aR => exact co (Kd.C_below HR2.out HB.out))
     (case aB => exact bw)
     (case aF => exact (fun k_ hk => ⟨(Nat.le_trans (below_size bw) hk), Kd.fresh' (Kd.R_lt (ro HO275.out)) k_ hk⟩))
     (case aO => exact (by (with_reducible repeat (first | apply Kd.R_alloc | apply Kd.R_drewN | apply Kd.R_drew)); exact Kd.R_mono HO269.out (fun _ hk => by first | exact ⟨hk.1.1, hk.2⟩ | simp_all)))
     (case aS => exact (below_size bw))
     (case aL => have := LMc50.out; omega)
     intro v271 w60 ho hb hg hat
     rw [← Ny270.out] at ho
     replace HO_8 := am (Kd.N_afterv (ok := (fun k_ => (w.heap.size ≤ k_) ∧ some k_ ≠ (v274 : Value).ownBlock)) (no HO_8.out) hg hat)
     replace HO275 := am (Kd.R_after (ok := (fun k_ => (w.heap.size ≤ k_))) (by (with_reducible repeat (first | apply Kd.R_alloc | apply Kd.R_drewN | apply Kd.R_drew)); exact Kd.R_mono HO275.out (fun _ hk => by first | exact ⟨hk.1.1, hk.2⟩ | simp_all)) hg hat)
     replace HB := am (hb)
     have HO272 := am (ho)
     clear HO269 ho hb hg hat
     refine hK.out _ _ (((HB.out.cell (World.block_lt_of_cell? w _ hw266_0)).trans hw266_0)) (fun hHeld => ?_)
     clear hK K
     refine nm (some 73) ?_
     exact norm_ (by simp only [putAll, Act.put, List.setIfInBounds_toArray, List.set_cons_zero, List.set_cons_succ]) (hCont (v268, v271, v274) _ ⟨hHeld, (ro HO272.out), (ro HO275.out), (by (with_reducible repeat (first | apply Kd.N_alloc | apply Kd.N_drewN | apply Kd.N_drew)); exact Kd.N_mono HO_8.out (fun _ hk => ⟨hk.1.1, ⟨hk.2, hk.1.2⟩⟩)), bw⟩)
    rintro ⟨v268, v271, v274⟩ w61 ⟨hS_, h0_, h1_, h2_, h3_⟩
    have n0_ : Aside0 (Kd.R (Kd.int .i64) 3 w61 w.heap.size (fun k_ => (w.heap.size ≤ k_) ∧ some k_ ≠ (v274 : Value).ownBlock) v271 y270) := ⟨h0_⟩
    have n1_ : Aside0 (Kd.R (Kd.int .i64) 3 w61 w.heap.size (fun k_ => (w.heap.size ≤ k_) ∧ some k_ ≠ (v271 : Value).ownBlock) v274 y273) := ⟨h1_⟩
    have n2_ : Aside0 (Kd.N (Kd.slice 3 (Kd.int .i64)) 22 w61 w.heap.size (fun k_ => (w.heap.size ≤ k_) ∧ some k_ ≠ (v271 : Value).ownBlock ∧ some k_ ≠ (v274 : Value).ownBlock) (.slice Ao54 x8_1.length co54) x8_1) := ⟨h2_⟩
    have n3_ : Aside0 (Below w.heap.size w w61) := ⟨h3_⟩
    clear HO_8
    clear HB
    clear h0_ h1_ h2_ h3_
    have HO272 := n0_
    have HO275 := n1_
    have HO_8 := n2_
    have HB := n3_
    clear n0_ n1_ n2_ n3_
    have hHeld : w61.cell? (ad265.add ((l2.length : Int)).toNat) = some (.int .i64 (rd l0 (l2.length : Int))) := hS_
    obtain ⟨Ao63, co63, eo63⟩ := Kd.R_slice HO275.out
    (first | subst eo63 | (injection eo63 with f1_ f2_ f3_; have f4_ := f1_.symm; have f5_ := f3_.symm; clear f1_ f2_ f3_; subst f4_; subst f5_))
    refine norm_ (a' := ?_) ?_ ?_
    rotate_left
    ·simp only [putAll, Act.put, List.setIfInBounds_toArray, List.set_cons_zero, List.set_cons_succ]
     rfl
    refine oa 15 (some 76) (yz 19 65535) HT_ (fun K hK => ?_)
    refine Kd.R_append_rows_step (Kd.int .i64) (w0 := w) w.heap.size (by rfl) (.tmp 73) (.tmp 75) 22 3 (.int .i64 0) 8 rfl Try.underlying22 info3 rfl (by decide) (by omega) v271 y270 y273 _ _ _ (fun k_ => (w.heap.size ≤ k_) ∧ nb k_ Ao63 y273 co63) (fun _ => False) rfl rfl ?aO ?aR (fun _ _ h => h) (fun _ h => h.elim) ?aF ?aB ?aS ?aL ?_
    (case aR => exact co (Kd.R_reads' HO275.out).2.2)
    (case aB => exact bw)
    (case aF => exact (fun k_ hk => ⟨(Nat.le_trans (below_size bw) hk), Kd.fresh' (Kd.R_lt (ro HO275.out)) k_ hk⟩))
    (case aO => exact (ro HO272.out))
    (case aS => exact (below_size bw))
    (case aL => have := LMc51.out; omega)
    intro v277 w62 ho hb hg hat
    rw [← Ny276.out] at ho
    replace HO_8 := am (Kd.N_afterv (ok := (fun k_ => (w.heap.size ≤ k_) ∧ nb k_ Ao63 y273 co63)) (by (with_reducible repeat (first | apply Kd.N_alloc | apply Kd.N_drewN | apply Kd.N_drew)); exact Kd.N_mono HO_8.out (fun _ hk => ⟨⟨hk.1, hk.2.2⟩, hk.2.1⟩)) hg hat)
    replace HO275 := am (Kd.R_after (ok := (fun k_ => (w.heap.size ≤ k_))) (ro HO275.out) hg hat)
    replace HB := am (hb)
    have HO278 := am (ho)
    clear HO272 ho hb hg hat
    obtain ⟨Ao64, co64, eo64⟩ := Kd.R_slice HO278.out
    (first | subst eo64 | (injection eo64 with f1_ f2_ f3_; have f4_ := f1_.symm; have f5_ := f3_.symm; clear f1_ f2_ f3_; subst f4_; subst f5_))
    refine hK.out _ _ (((HB.out.cell (World.block_lt_of_cell? w _ hw266_0)).trans hw266_0)) (fun hHeld => ?_)
    clear hK K
    refine nm (some 76) ?_
    refine oa 16 (some 77) (yz 19 131071) HT_ (fun K hK => ?_)
    refine gm Try.func130 #[.slice (some ad265) l0.length c0, .int .i64 (wrap64 (a1 - (wrap64 (x9_1 * (rd l0 (l2.length : Int)))))), .slice Ao64 y276.length co64] ?_
    with_reducible refine (ih k1 (by have := HK1.out; omega) _ _ l0 (wrap64 (a1 - (wrap64 (x9_1 * (rd l0 (l2.length : Int)))))) _ _ y276 t279 _ ?side1 ?side2 ?side3 ?side4 A52.out).mono ?_
    (case side1 => exact co (Kd.C_below HR0.out HB.out))
    (case side2 => exact HC0.out)
    (case side3 => exact co (Kd.R_reads' HO278.out).2.2)
    (case side4 => exact (Kd.R_reads' HO278.out).2.1)
    rintro e w65 ⟨v280, rfl, ho0, hb⟩
    refine ⟨_, rfl, ?_⟩
    have HO281 := am (Kd.N_lower (Kd.N_mono (ok' := fun k_ => (w.heap.size ≤ k_) ∧ nb k_ Ao54 x8_1 co54 ∧ nb k_ Ao63 y273 co63 ∧ nb k_ Ao64 y276 co64) ho0 (fun k_ hk_ => ⟨(Nat.le_trans (below_size bw) hk_), (Kd.fresh' (Kd.N_lt (no HO_8.out)) k_ hk_), (Kd.fresh' (Kd.R_lt (ro HO275.out)) k_ hk_), (Kd.fresh' (Kd.R_lt (ro HO278.out)) k_ hk_)⟩)) (below_size bw))
    replace HO_8 := am (Kd.N_elder' (no HO_8.out) (Kd.N_base ho0) hb)
    replace HO275 := rK HO275 hb
    replace HO278 := rK HO278 hb
    replace HB := am (below_step bw hb)
    clear hb ho0
    obtain ⟨Ao67, co67, eo67⟩ := Kd.N_slice HO281.out
    (first | subst eo67 | (injection eo67 with f1_ f2_ f3_; have f4_ := f1_.symm; have f5_ := f3_.symm; clear f1_ f2_ f3_; subst f4_; subst f5_))
    refine hK.out _ _ (((HB.out.cell (World.block_lt_of_cell? w _ hw266_0)).trans hw266_0)) (fun hHeld => ?_)
    clear hK K
    refine nm (some 77) ?_
    refine oa 17 (some 78) (yz 19 262143) HT_ (fun K hK => ?_)
    refine Kd.N_append_rows_step (Kd.slice 3 (Kd.int .i64)) (w0 := w) w.heap.size (by rfl) (.tmp 61) (.tmp 77) 49 22 (.slice none 0 0) 24 rfl Try.underlying49 info22 rfl (by decide) (by omega) (.slice Ao54 x8_1.length co54) x8_1 t279 _ _ _ (fun k_ => (w.heap.size ≤ k_) ∧ nb k_ Ao63 y273 co63 ∧ nb k_ Ao64 y276 co64) (fun k_ => ((fun k_ => (w.heap.size ≤ k_) ∧ nb k_ Ao63 y273 co63 ∧ nb k_ Ao64 y276 co64)) k_ ∧ nb k_ Ao54 x8_1 co54) rfl rfl ?aO ?aR (fun _ hk => hk) ?aF ?aB ?aS ?aL ?_
    (case aR => exact (by skip; exact Kd.N_F (Kd.N_mono (ok' := (fun k_ => ((fun k_ => (w.heap.size ≤ k_) ∧ nb k_ Ao63 y273 co63 ∧ nb k_ Ao64 y276 co64)) k_ ∧ nb k_ Ao54 x8_1 co54)) (HO281.out) (fun k_ hk => ⟨⟨hk.1, ⟨hk.2.2.1, hk.2.2.2⟩⟩, hk.2.1⟩))))
    (case aB => exact bw)
    (case aF => exact (fun k_ hk => ⟨(Nat.le_trans (below_size bw) hk), Kd.fresh' (Kd.R_lt (ro HO275.out)) k_ hk, Kd.fresh' (Kd.R_lt (ro HO278.out)) k_ hk⟩))
    (case aO => exact (by (with_reducible repeat (first | apply Kd.N_alloc | apply Kd.N_drewN | apply Kd.N_drew)); exact Kd.N_mono HO_8.out (fun _ hk => ⟨hk.1.1.1, ⟨hk.1.1.2, hk.1.2⟩⟩)))
    (case aS => exact (below_size bw))
    (case aL => have := LMc53.out; omega)
    intro v283 w66 ho hb hg hat
    rw [← Ny282.out] at ho
    replace HO275 := am (Kd.R_over' (ro HO275.out) (Kd.N_typed (no HO_8.out)) (by decide) hg)
    replace HO278 := am (Kd.R_over' (ro HO278.out) (Kd.N_typed (no HO_8.out)) (by decide) hg)
    replace HO281 := am (Kd.N_afterv (ok := (fun k_ => (w.heap.size ≤ k_) ∧ nb k_ Ao63 y273 co63 ∧ nb k_ Ao64 y276 co64)) (by (with_reducible repeat (first | apply Kd.N_alloc | apply Kd.N_drewN | apply Kd.N_drew)); exact Kd.N_mono HO281.out (fun _ hk => ⟨⟨hk.1, ⟨hk.2.2.1, hk.2.2.2⟩⟩, hk.2.1⟩)) hg hat)
    replace HB := am (hb)
    have HO284 := am (ho)
    clear HO_8 ho hb hg hat
    refine hK.out _ _ (((HB.out.cell (World.block_lt_of_cell? w _ hw266_0)).trans hw266_0)) (fun hHeld => ?_)
    clear hK K
    refine nm (some 78) ?_
    refine pa 18 (some 8) (yz 19 524287) HT_ ?_
    refine done_ (done_of HT_.out (by kernel_rfl)) ?_
    try go_wp2
    go_roundg k1
    case measure => have := HK1.out; omega
    case rel => exact ⟨(y282), (wrap64 (x9_1 - 1)), rr, H', ⟨by have := HK1.out; omega⟩, ⟨by (with_reducible repeat (first | apply Kd.N_alloc | apply Kd.N_drewN | apply Kd.N_drew)); exact Kd.N_mono HO284.out (fun _ hk => hk.1)⟩, ⟨bw⟩⟩
   have c47b0 : decide (0 ≤ x9_1) = false := decide_eq_false c47
   clear c47
   obtain rfl := Option.some.inj H
   go_wp2
   go_ret
   exact ⟨_, re, by (with_reducible repeat (first | apply Kd.N_alloc | apply Kd.N_drewN | apply Kd.N_drew)); exact HO_8.out, bw⟩


/-! ### spec_Factorizations: function 80 -/
def spec_Factorizations.f (k : Nat) (l0_0 : List Int) (a1 : Int) : Option ((List (List Int))) := (spec_IsSemigroup.f k l0_0).bind fun t286 => (if t286 = true then ((spec_l1In.f a1 0 100).bind fun t287 => (if t287 = true then ((spec_l11Find.f k l0_0 a1 (([] : List Int))).bind fun t291 => (some t291)) else (some (([] : List (List Int)))))) else (some (([] : List (List Int)))))
set_option maxHeartbeats 8000000 in
set_option maxRecDepth 100000 in
theorem spec_Factorizations.calls (k : Nat) (A0_0 : Option Addr) (c0_0 : Nat) (l0_0 : List Int) (a1 : Int) (r : List (List Int)) (w : World) (hr0_0 : Kd.C (Kd.int .i64) w A0_0 l0_0.length l0_0) (hc0_0 : l0_0.length ≤ c0_0) (h : spec_Factorizations.f k l0_0 a1 = some r) :
  Calls Try.prog 80 #[.agg #[.slice A0_0 l0_0.length c0_0], .int .i64 a1] w fun e w' => ∃ v0_ : Value, e = .returned (v0_) ∧ Kd.N (Kd.slice 3 (Kd.int .i64)) 22 w' w.heap.size (fun k_ => (w.heap.size ≤ k_)) v0_ r ∧ Below w.heap.size w w' := by
 have hu27 := Try.underlying27
 have HR0_0 := am hr0_0
 have HC0_0 := am hc0_0
 clear hr0_0 hc0_0
 have HB := am (Below.refl w.heap.size w)
 have H : ((spec_IsSemigroup.f k l0_0).bind fun t286 => (if t286 = true then ((spec_l1In.f a1 0 100).bind fun t287 => (if t287 = true then ((spec_l11Find.f k l0_0 a1 (([] : List Int))).bind fun t291 => (some t291)) else (some (([] : List (List Int)))))) else (some (([] : List (List Int)))))) = some r := h
 clear h
 replace H := ga H; obtain ⟨t286, A3, H⟩ := H
 replace H := gb H; obtain ⟨rfl, H⟩ | ⟨rfl, H⟩ := H
 ·replace H := ga H; obtain ⟨t287, A5, H⟩ := H
  replace H := gb H; obtain ⟨rfl, H⟩ | ⟨rfl, H⟩ := H
  ·obtain ⟨y288, hy288⟩ : ∃ y_ : List Int, y_ = (([] : List Int)) := ⟨_, rfl⟩
   replace H : ((spec_l11Find.f k l0_0 a1 y288).bind fun t291 => (some t291)) = some r := by first | (rw [hy288]; with_reducible first | exact H | exact bs H) | (with_reducible first | exact bs H | exact H) | (rw [hy288]; exact H) | exact H
   have Ny288 := am hy288
   clear hy288
   replace H := ga H; obtain ⟨t291, A7, H⟩ := H
   obtain rfl := Option.some.inj H
   go_enter Try.func80, Try.ntmps80
   go_wp2_with (first | ((with_reducible refine gate_dst (N := 2) rfl ?_); refine bx 2 #[.slice A0_0 l0_0.length c0_0] 27 ?_; intro gb285 hg w8 hbox hb; have BK285 := am (hbox); have GW285 := am (gs hg : w.heap.size ≤ gb285); have GE285 := GW285; replace HB := am (below_step bw hb); clear hb hbox hg; have hcz9_0 := bc BK285 0 (.slice A0_0 l0_0.length c0_0); have hfz9_0 := blk_frozen BK285.out 0) | ((with_reducible refine gate_callee (f := 58) rfl ?_); refine gl (some 6) Try.func58 #[.agg #[.slice A0_0 l0_0.length c0_0]] ?_; (with_reducible refine (spec_IsSemigroup.calls k _ _ l0_0 true _ ?side1 ?side2 A3.out).mono ?_); (case side1 => exact co (Kd.C_below HR0_0.out HB.out)); (case side2 => exact HC0_0.out); rintro e w10 ⟨rfl, hb⟩; refine ⟨_, rfl, ?_⟩; replace BK285 := kb BK285 hb; replace HB := am (below_step bw hb); clear hb) | (go_at_call 59; (with_reducible refine (spec_l1In.calls a1 0 100 true _ A5.out).mono ?_); rintro e w' ⟨rfl, ⟨nd, rfl⟩⟩; have hcz11_0 := bc BK285 0 (.slice A0_0 l0_0.length c0_0); have hfz11_0 := blk_frozen BK285.out 0) | ((with_reducible refine gate_dst (N := 17) rfl ?_); refine Kd.R_lit (Kd.int .i64) _ 3 ?hg (N := 17) ?hd (xs := ([] : List Int)) (inner := []) (ok := fun _ => True) (okp := fun _ => True) ?hr ?hp (fun _ hk => hk) trivial (Below.refl _ _) (Nat.le_refl _) (by simp) ?_; (case hd => rfl); (case hg => rfl); (case hr => first | (go_simp; done) | (go_simp; rfl)); (case hp => exact (Reps.none _ _)); intro v289 w12 ho13 hb hg_ hnew_; clear hg_ hnew_; (first | rw [← Ny288.out] at ho13 | (simp only [Int.reduceToNat] at ho13; rw [← Ny288.out] at ho13)); have HO290 := am (Kd.R_lower (Kd.R_newM (M := fun k_ => (w.heap.size ≤ k_)) ho13 (below_size bw) (fun k_ h_ => h_)) (below_size bw)); replace BK285 := kb BK285 hb; replace HB := am (below_step bw hb); clear hb ho13; obtain ⟨Ao14, co14, eo14⟩ := Kd.R_slice HO290.out; subst eo14) | ((with_reducible refine gate_callee (f := 130) rfl ?_); refine gl (some 18) Try.func130 #[.slice A0_0 l0_0.length c0_0, .int .i64 a1, .slice Ao14 y288.length co14] ?_; (with_reducible refine (spec_l11Find.calls k _ _ l0_0 a1 _ _ y288 t291 _ ?side1 ?side2 ?side3 ?side4 A7.out).mono ?_); (case side1 => exact co (Kd.C_below HR0_0.out HB.out)); (case side2 => exact HC0_0.out); (case side3 => exact co (Kd.R_reads' HO290.out).2.2); (case side4 => exact (Kd.R_reads' HO290.out).2.1); rintro e w15 ⟨v292, rfl, ho0, hb⟩; refine ⟨_, rfl, ?_⟩; have HO293 := am (Kd.N_lower (Kd.N_mono (ok' := fun k_ => (w.heap.size ≤ k_) ∧ nb k_ Ao14 y288 co14 ∧ k_ ≠ gb285) ho0 (fun k_ hk_ => ⟨(Nat.le_trans (below_size bw) hk_), (Kd.fresh' (Kd.R_lt (ro HO290.out)) k_ hk_), (Kd.freshB (g := gb285) (o := .cells #[.slice A0_0 l0_0.length c0_0] 27 (0, 0)) (bo BK285.out) k_ hk_)⟩)) (below_size bw)); replace HO290 := rK HO290 hb; replace BK285 := kb BK285 hb; replace HB := am (below_step bw hb); clear hb ho0))
   go_ret
   exact ⟨_, re, by (with_reducible repeat (first | apply Kd.N_alloc | apply Kd.N_drewN | apply Kd.N_drew)); exact Kd.N_mono HO293.out (fun _ hk => hk.1), bw⟩
  obtain ⟨y294, hy294⟩ : ∃ y_ : List (List Int), y_ = (([] : List (List Int))) := ⟨_, rfl⟩
  replace H : (some y294) = some r := by first | (rw [hy294]; with_reducible first | exact H | exact bs H) | (with_reducible first | exact bs H | exact H) | (rw [hy294]; exact H) | exact H
  have Ny294 := am hy294
  clear hy294
  obtain rfl := Option.some.inj H
  go_enter Try.func80, Try.ntmps80
  go_wp2_with (first | ((with_reducible refine gate_dst (N := 2) rfl ?_); refine bx 2 #[.slice A0_0 l0_0.length c0_0] 27 ?_; intro gb285 hg w16 hbox hb; have BK285 := am (hbox); have GW285 := am (gs hg : w.heap.size ≤ gb285); have GE285 := GW285; replace HB := am (below_step bw hb); clear hb hbox hg; have hcz17_0 := bc BK285 0 (.slice A0_0 l0_0.length c0_0); have hfz17_0 := blk_frozen BK285.out 0) | ((with_reducible refine gate_callee (f := 58) rfl ?_); refine gl (some 6) Try.func58 #[.agg #[.slice A0_0 l0_0.length c0_0]] ?_; (with_reducible refine (spec_IsSemigroup.calls k _ _ l0_0 true _ ?side1 ?side2 A3.out).mono ?_); (case side1 => exact co (Kd.C_below HR0_0.out HB.out)); (case side2 => exact HC0_0.out); rintro e w18 ⟨rfl, hb⟩; refine ⟨_, rfl, ?_⟩; replace BK285 := kb BK285 hb; replace HB := am (below_step bw hb); clear hb) | (go_at_call 59; (with_reducible refine (spec_l1In.calls a1 0 100 false _ A5.out).mono ?_); rintro e w' ⟨rfl, ⟨nd, rfl⟩⟩) | ((with_reducible refine gate_dst (N := 13) rfl ?_); refine Kd.N_lit (Kd.slice 3 (Kd.int .i64)) _ 22 ?hg (N' := 13) ?hd (xs := ([] : List (List Int))) (inner := []) (ok := (fun k_ => (w.heap.size ≤ k_) ∧ k_ ≠ gb285)) (okp := (fun k_ => (w.heap.size ≤ k_) ∧ k_ ≠ gb285)) ?hr ?hp (fun _ hk => hk) ((show ∀ k_, w18.heap.size ≤ k_ → (fun k_ => (w.heap.size ≤ k_) ∧ k_ ≠ gb285) k_ from fun k_ hk => ⟨(Nat.le_trans (below_size bw) hk), Kd.freshB (g := gb285) (o := .cells #[.slice A0_0 l0_0.length c0_0] 27 (0, 0)) (bo BK285.out) k_ hk⟩) _ (Nat.le_refl _)) (Below.refl _ _) (Nat.le_refl _) (by simp) ?_; (case hd => rfl); (case hg => rfl); (case hr => first | (go_simp; done) | (go_simp; rfl)); (case hp => exact (Reps.none _ _)); intro v295 w19 ho20 hb hg_ hnew_; clear hg_ hnew_; (first | rw [← Ny294.out] at ho20 | (simp only [Int.reduceToNat] at ho20; rw [← Ny294.out] at ho20)); have HO296 := am (Kd.N_lower ho20 (below_size bw)); replace BK285 := kb BK285 hb; replace HB := am (below_step bw hb); clear hb ho20))
  go_ret
  exact ⟨_, re, by (with_reducible repeat (first | apply Kd.N_alloc | apply Kd.N_drewN | apply Kd.N_drew)); exact Kd.N_mono HO296.out (fun _ hk => hk.1), bw⟩
 obtain ⟨y297, hy297⟩ : ∃ y_ : List (List Int), y_ = (([] : List (List Int))) := ⟨_, rfl⟩
 replace H : (some y297) = some r := by first | (rw [hy297]; with_reducible first | exact H | exact bs H) | (with_reducible first | exact bs H | exact H) | (rw [hy297]; exact H) | exact H
 have Ny297 := am hy297
 clear hy297
 obtain rfl := Option.some.inj H
 go_enter Try.func80, Try.ntmps80
 go_wp2_with (first | ((with_reducible refine gate_dst (N := 2) rfl ?_); refine bx 2 #[.slice A0_0 l0_0.length c0_0] 27 ?_; intro gb285 hg w21 hbox hb; have BK285 := am (hbox); have GW285 := am (gs hg : w.heap.size ≤ gb285); have GE285 := GW285; replace HB := am (below_step bw hb); clear hb hbox hg; have hcz22_0 := bc BK285 0 (.slice A0_0 l0_0.length c0_0); have hfz22_0 := blk_frozen BK285.out 0) | ((with_reducible refine gate_callee (f := 58) rfl ?_); refine gl (some 6) Try.func58 #[.agg #[.slice A0_0 l0_0.length c0_0]] ?_; (with_reducible refine (spec_IsSemigroup.calls k _ _ l0_0 false _ ?side1 ?side2 A3.out).mono ?_); (case side1 => exact co (Kd.C_below HR0_0.out HB.out)); (case side2 => exact HC0_0.out); rintro e w23 ⟨rfl, hb⟩; refine ⟨_, rfl, ?_⟩; replace BK285 := kb BK285 hb; replace HB := am (below_step bw hb); clear hb) | ((with_reducible refine gate_dst (N := 13) rfl ?_); refine Kd.N_lit (Kd.slice 3 (Kd.int .i64)) _ 22 ?hg (N' := 13) ?hd (xs := ([] : List (List Int))) (inner := []) (ok := (fun k_ => (w.heap.size ≤ k_) ∧ k_ ≠ gb285)) (okp := (fun k_ => (w.heap.size ≤ k_) ∧ k_ ≠ gb285)) ?hr ?hp (fun _ hk => hk) ((show ∀ k_, w23.heap.size ≤ k_ → (fun k_ => (w.heap.size ≤ k_) ∧ k_ ≠ gb285) k_ from fun k_ hk => ⟨(Nat.le_trans (below_size bw) hk), Kd.freshB (g := gb285) (o := .cells #[.slice A0_0 l0_0.length c0_0] 27 (0, 0)) (bo BK285.out) k_ hk⟩) _ (Nat.le_refl _)) (Below.refl _ _) (Nat.le_refl _) (by simp) ?_; (case hd => rfl); (case hg => rfl); (case hr => first | (go_simp; done) | (go_simp; rfl)); (case hp => exact (Reps.none _ _)); intro v298 w24 ho25 hb hg_ hnew_; clear hg_ hnew_; (first | rw [← Ny297.out] at ho25 | (simp only [Int.reduceToNat] at ho25; rw [← Ny297.out] at ho25)); have HO299 := am (Kd.N_lower ho25 (below_size bw)); replace BK285 := kb BK285 hb; replace HB := am (below_step bw hb); clear hb ho25))
 go_ret
 exact ⟨_, re, by (with_reducible repeat (first | apply Kd.N_alloc | apply Kd.N_drewN | apply Kd.N_drew)); exact Kd.N_mono HO299.out (fun _ hk => hk.1), bw⟩


/-! ### spec_l14Linked: function 131 -/
def spec_l14Linked.l0 : Nat → List Int → List Int → Int → Option (Bool)
 | 0, _, _, _ => none
 | k + 1, x0, x1, x5 => if x5 < (x0.length : Int) then (if 0 ≤ x5 then (if (rd x0 x5) > 0 then (if x5 < (x1.length : Int) then (if (rd x1 x5) > 0 then (some true) else (spec_l14Linked.l0 k x0 x1 (wrap64 (x5 + 1)))) else (none)) else (spec_l14Linked.l0 k x0 x1 (wrap64 (x5 + 1)))) else (none)) else (some false)
def spec_l14Linked.f (k : Nat) (l0 : List Int) (l1 : List Int) : Option (Bool) := spec_l14Linked.l0 k l0 l1 0
set_option maxHeartbeats 8000000 in
set_option maxRecDepth 100000 in
theorem spec_l14Linked.calls (k : Nat) (A0 : Option Addr) (c0 : Nat) (l0 : List Int) (A1 : Option Addr) (c1 : Nat) (l1 : List Int) (r : Bool) (w : World) (hr0 : Kd.C (Kd.int .i64) w A0 l0.length l0) (hc0 : l0.length ≤ c0) (hr1 : Kd.C (Kd.int .i64) w A1 l1.length l1) (hc1 : l1.length ≤ c1) (h : spec_l14Linked.f k l0 l1 = some r) :
  Calls Try.prog 131 #[.slice A0 l0.length c0, .slice A1 l1.length c1] w fun e w' => e = .returned (.bool r) ∧ Drawn0 w w' := by
 have HR0 := am hr0
 have HC0 := am hc0
 clear hr0 hc0
 have HR1 := am hr1
 have HC1 := am hc1
 clear hr1 hc1
 have H : (spec_l14Linked.l0 k l0 l1 0) = some r := h
 clear h
 have H' := am H
 clear H
 go_enter Try.func131, Try.ntmps131
 go_wp2
 go_loopg [5] k (fun kq v5 w' => ∃ (x5_1 : Int), v5 = .int .i64 x5_1 ∧ Aside0 (spec_l14Linked.l0 kq l0 l1 x5_1 = some r) ∧ Aside0 (kq ≤ k) ∧ Drawn0 w w')
 case atStart => exact ⟨(0), rr, H', ⟨Nat.le_refl _⟩, dw⟩
 case round =>
  clear H'
  try clear c1
  obtain ⟨x5_1, rfl, HA, HK1, ⟨m1, rfl⟩⟩ := hrel
  cases gk with
  | zero => exact absurd HA.out (by simp [spec_l14Linked.l0])
  | succ k1 =>
   have H := HA.out
   clear HA
   simp only [spec_l14Linked.l0] at H
   replace H := gi H; obtain ⟨c3b0, H⟩ | ⟨c3b0, H⟩ := H
   ·replace H := gd H; obtain ⟨c4b0, H⟩ := H
    replace H := gj H; obtain ⟨c5, H⟩ | ⟨c5, H⟩ := H
    ·have c5b0 : decide (0 < (rd l0 x5_1)) = true := decide_eq_true c5
     clear c5
     replace H := gd H; obtain ⟨c6b0, H⟩ := H
     replace H := gj H; obtain ⟨c7, H⟩ | ⟨c7, H⟩ := H
     ·have c7b0 : decide (0 < (rd l1 x5_1)) = true := decide_eq_true c7
      clear c7
      obtain rfl := Option.some.inj H
      obtain ⟨⟨ad300, e300, hx300_0⟩, p300, q300⟩ := pq (Kd.at_int HR0.out x5_1)
      cases e300
      obtain ⟨⟨ad301, e301, hx301_0⟩, p301, q301⟩ := pq (Kd.at_int HR1.out x5_1)
      cases e301
      go_wp2
      go_ret
      exact ⟨rr, dw⟩
     have c7b0 : decide (0 < (rd l1 x5_1)) = false := decide_eq_false c7
     clear c7
     have H' := am H
     clear H
     obtain ⟨⟨ad300, e300, hx300_0⟩, p300, q300⟩ := pq (Kd.at_int HR0.out x5_1)
     cases e300
     obtain ⟨⟨ad301, e301, hx301_0⟩, p301, q301⟩ := pq (Kd.at_int HR1.out x5_1)
     cases e301
     go_wp2
     go_roundg k1
     case measure => have := HK1.out; omega
     case rel => exact ⟨(wrap64 (x5_1 + 1)), rr, H', ⟨by have := HK1.out; omega⟩, dw⟩
    have c5b0 : decide (0 < (rd l0 x5_1)) = false := decide_eq_false c5
    clear c5
    have H' := am H
    clear H
    obtain ⟨⟨ad300, e300, hx300_0⟩, p300, q300⟩ := pq (Kd.at_int HR0.out x5_1)
    cases e300
    go_wp2
    go_roundg k1
    case measure => have := HK1.out; omega
    case rel => exact ⟨(wrap64 (x5_1 + 1)), rr, H', ⟨by have := HK1.out; omega⟩, dw⟩
   obtain rfl := Option.some.inj H
   go_wp2
   go_ret
   exact ⟨rr, dw⟩


/-! ### spec_l1Min: function 132 -/
def spec_l1Min.f (a0 : Int) (a1 : Int) : Option (Int) := if a0 < a1 then (some a0) else (some a1)
set_option maxHeartbeats 8000000 in
set_option maxRecDepth 100000 in
theorem spec_l1Min.calls (a0 : Int) (a1 : Int) (r : Int) (w : World) (h : spec_l1Min.f a0 a1 = some r) :
  Calls Try.prog 132 #[.int .i64 a0, .int .i64 a1] w fun e w' => e = .returned (.int .i64 r) ∧ Drawn0 w w' := by
 have H : (if a0 < a1 then (some a0) else (some a1)) = some r := h
 clear h
 replace H := gi H; obtain ⟨c3b0, H⟩ | ⟨c3b0, H⟩ := H
 ·obtain rfl := Option.some.inj H
  go_enter Try.func132, Try.ntmps132
  go_wp2
  go_ret
  exact ⟨rr, dw⟩
 obtain rfl := Option.some.inj H
 go_enter Try.func132, Try.ntmps132
 go_wp2
 go_ret
 exact ⟨rr, dw⟩

end Go.Proofs.Ytlfdipnhlmjiaaa.C
