/- Contracts of functions of the program: laws_FnPure. -/
import Derived.Test.YtkfplkdchkmgbaaC0
import Derived.Test.YtkfplkdchkmgbaaC1
import Derived.Test.YtkfplkdchkmgbaaC2
import Derived.Test.YtkfplkdchkmgbaaC6
import Derived.Test.YtkfplkdchkmgbaaC8
import Derived.Test.YtkfplkdchkmgbaaC9
import Derived.Test.YtkfplkdchkmgbaaC17
import Derived.Test.YtkfplkdchkmgbaaC18
namespace Go.Proofs.Ytkfplkdchkmgbaa.C
open Go.RowKit Go.Proofs.YtkfplkdchkmgbaaW.PrintWords Go.Proofs.YtkfplkdchkmgbaaW.PrintLast Go.Proofs.YtkfplkdchkmgbaaW.PrintMore
attribute [local go_sem] max2_int min2_int max_two min_two max_three min_three max_four min_four
set_option linter.unusedVariables false
set_option linter.unusedSimpArgs false

/-! ### laws_FnPure: function 8 -/
mutual
def laws_FnPure.l0 : Nat → List Int → ByteArray → List Int → List Int → List Int → Int → List Int → List Int → Option (Bool)
 | 0, _, _, _, _, _, _, _, _ => none
 | k + 1, x4, x6, x7, x8, x9, x12, x1034000, x1050000 => if x12 < (x7.length : Int) then (if 0 ≤ x12 then (laws_FnPure.l0 k x4 x6 (x7.set (x12 : Int).toNat 99) x8 x9 (wrap64 (x12 + 1)) x1034000 x1050000) else (none)) else (laws_FnPure.l1 k x4 x6 x8 x9 0 x1034000 x1050000)
def laws_FnPure.l1 : Nat → List Int → ByteArray → List Int → List Int → Int → List Int → List Int → Option (Bool)
 | 0, _, _, _, _, _, _, _ => none
 | k + 1, x4, x6, x8, x9, x13, x1034000, x1050000 => if x13 < (x8.length : Int) then (if 0 ≤ x13 then (laws_FnPure.l1 k x4 x6 (x8.set (x13 : Int).toNat 99) x9 (wrap64 (x13 + 1)) x1034000 x1050000) else (none)) else (laws_FnPure.l2 k x4 x6 x9 0 x1034000 x1050000)
def laws_FnPure.l2 : Nat → List Int → ByteArray → List Int → Int → List Int → List Int → Option (Bool)
 | 0, _, _, _, _, _, _ => none
 | k + 1, x4, x6, x9, x14, x1034000, x1050000 => if x14 < (x9.length : Int) then (if 0 ≤ x14 then (laws_FnPure.l2 k x4 x6 (x9.set (x14 : Int).toNat 99) (wrap64 (x14 + 1)) x1034000 x1050000) else (none)) else (laws_FnPure.l3 k x4 x6 0 x1034000 x1050000)
def laws_FnPure.l3 : Nat → List Int → ByteArray → Int → List Int → List Int → Option (Bool)
 | 0, _, _, _, _, _ => none
 | k + 1, x4, x6, x15, x1034000, x1050000 => if x15 < (x1050000.length : Int) then (if 0 ≤ x15 then (laws_FnPure.l3 k x4 x6 (wrap64 (x15 + 1)) x1034000 (x1050000.set (x15 : Int).toNat 99)) else (none)) else ((spec_ListText.f k x1034000).bind fun t1054 => (if t1054.size + 1 ≤ 9223372036854775807 then ((spec_ListText.f k x4).bind fun t1055 => (if (t1054 ++ (⟨#[32]⟩ : ByteArray)).size + t1055.size ≤ 9223372036854775807 then (if ((t1054 ++ (⟨#[32]⟩ : ByteArray)) ++ t1055).toList = x6.toList then ((impl_SortList.f x4).bind fun t1056 => ((spec_SortList.f k x4).bind fun t1059 => ((laws_sameInts.f k t1056 t1059).bind fun t1062 => (if t1062 = true then ((impl_Gaps.f k x1034000).bind fun t1063 => ((spec_Gaps.f k x1034000).bind fun t1066 => ((laws_sameInts.f k t1063 t1066).bind fun t1069 => (if t1069 = true then ((impl_IdealGens.f k x1034000 x4).bind fun t1070 => ((spec_IdealGens.f k x1034000 x4).bind fun t1073 => ((laws_sameInts.f k t1070 t1073).bind fun t1076 => (some t1076)))) else (some false))))) else (some false))))) else (some false)) else (none))) else (none)))
end
def laws_FnPure.f (k : Nat) (l0 : List Int) : Option (Bool) := (laws_big.f l0).bind fun t1025 => (if t1025 = true then (some true) else ((spec_DrawInIdeal.f k l0).bind fun bt1026 => ((spec_ListText.f k bt1026.1).bind fun t1034 => (if t1034.size + 1 ≤ 9223372036854775807 then ((spec_ListText.f k bt1026.2.1).bind fun t1035 => (if (t1034 ++ (⟨#[32]⟩ : ByteArray)).size + t1035.size ≤ 9223372036854775807 then ((impl_SortList.f bt1026.2.1).bind fun t1036 => ((impl_Gaps.f k bt1026.1).bind fun t1039 => ((impl_IdealGens.f k bt1026.1 bt1026.2.1).bind fun t1042 => ((impl_FromGens.f k bt1026.1).bind fun bt1045 => (laws_FnPure.l0 k bt1026.2.1 ((t1034 ++ (⟨#[32]⟩ : ByteArray)) ++ t1035) t1036 t1039 t1042 0 bt1026.1 bt1045.1))))) else (none))) else (none)))))
def laws_FnPure.T25 : Bool × List (List Nat × List Nat) := (true, [([], []), ([0], [0]), ([1], [1]), ([2], [2]), ([], []), ([4, 2], [4]), ([3, 5], [3, 5]), ([], []), ([6, 7], [6, 7]), ([8, 5], [8]), ([9], [9]), ([10, 9, 9], [9, 10]), ([9], [9]), ([12, 11, 9], [9, 12]), ([11, 13, 13, 9], [9, 11, 13]), ([9, 14], [9, 14]), ([15, 14], [15]), ([16], [16]), ([17, 16, 16], [16, 17]), ([16], [16]), ([19, 18, 16], [16, 19]), ([18, 20, 20, 16], [16, 18, 20]), ([16, 21], [16, 21]), ([22, 21], [22]), ([23], [23]), ([23], [23]), ([24, 25, 23, 23], [23, 24, 25]), ([23], [23]), ([23], [23]), ([27, 28, 26, 23], [23, 27, 28]), ([26, 29, 29, 23], [23, 26, 29]), ([23, 30], [23, 30]), ([31, 30, 0, 1, 2, 3, 4, 5, 6, 7, 8, 9, 10, 11, 12, 13, 14, 15, 16, 17, 18, 19, 20, 21, 22, 23, 24, 25, 26, 27, 28, 29, 30, 31], [31])])
def laws_FnPure.B25 : List Nat := [0, 1, 3, 7, 0, 23, 63, 0, 255, 511, 1023, 2047, 1023, 8191, 16383, 32767, 65535, 131071, 262143, 131071, 1048575, 2097151, 4194303, 8388607, 16777215, 16777215, 67108863, 16777215, 16777215, 536870911, 1073741823, 2147483647, 4294967295]
theorem laws_FnPure.tab25 : rtab .any (opsOf Try.f8 25) = laws_FnPure.T25 := by kernel_rfl
theorem laws_FnPure.bits25 : waitsOk laws_FnPure.T25.2 laws_FnPure.B25 = true := by kernel_rfl
set_option maxHeartbeats 8000000 in
set_option maxRecDepth 100000 in
theorem laws_FnPure.calls (k : Nat) (A0 : Option Addr) (c0 : Nat) (l0 : List Int) (w : World) (hr0 : Kd.C (Kd.int .u8) w A0 l0.length l0) (hc0 : l0.length ≤ c0) (h : laws_FnPure.f k l0 = some true) :
  Calls Try.prog 8 #[.slice A0 l0.length c0] w fun e w' => e = .returned (.bool true) ∧ Below w.heap.size w w' := by
 have hu26 := Try.underlying26
 have HR0 := am hr0
 have HC0 := am hc0
 clear hr0 hc0
 have HB := am (Below.refl w.heap.size w)
 have H : ((laws_big.f l0).bind fun t1025 => (if t1025 = true then (some true) else ((spec_DrawInIdeal.f k l0).bind fun bt1026 => ((spec_ListText.f k bt1026.1).bind fun t1034 => (if t1034.size + 1 ≤ 9223372036854775807 then ((spec_ListText.f k bt1026.2.1).bind fun t1035 => (if (t1034 ++ (⟨#[32]⟩ : ByteArray)).size + t1035.size ≤ 9223372036854775807 then ((impl_SortList.f bt1026.2.1).bind fun t1036 => ((impl_Gaps.f k bt1026.1).bind fun t1039 => ((impl_IdealGens.f k bt1026.1 bt1026.2.1).bind fun t1042 => ((impl_FromGens.f k bt1026.1).bind fun bt1045 => (laws_FnPure.l0 k bt1026.2.1 ((t1034 ++ (⟨#[32]⟩ : ByteArray)) ++ t1035) t1036 t1039 t1042 0 bt1026.1 bt1045.1))))) else (none))) else (none)))))) = some true := h
 clear h
 replace H := ga H; obtain ⟨t1025, A2, H⟩ := H
 by_cases c3 : t1025 = true
 ·subst c3
  have H1 : (some true) = some true := rfl
  clear H
  have H := H1
  clear H1
  skip
  go_enter Try.func8, Try.ntmps8
  go_wp2_with (first | ((with_reducible refine gate_callee (f := 12) rfl ?_); refine gl (some 17) Try.func12 #[.slice A0 l0.length c0] ?_; (with_reducible refine (laws_big.calls _ _ l0 true _ ?side1 ?side2 A2.out).mono ?_); (case side1 => exact co HR0.out); (case side2 => exact HC0.out); rintro e w' ⟨rfl, ⟨nd, rfl⟩⟩; refine ⟨_, rfl, ?_⟩))
  go_ret
  exact ⟨re, bw⟩
 replace c3 := Bool.eq_false_iff.mpr c3
 subst c3
 have H1 : ((spec_DrawInIdeal.f k l0).bind fun bt1026 => ((spec_ListText.f k bt1026.1).bind fun t1034 => (if t1034.size + 1 ≤ 9223372036854775807 then ((spec_ListText.f k bt1026.2.1).bind fun t1035 => (if (t1034 ++ (⟨#[32]⟩ : ByteArray)).size + t1035.size ≤ 9223372036854775807 then ((impl_SortList.f bt1026.2.1).bind fun t1036 => ((impl_Gaps.f k bt1026.1).bind fun t1039 => ((impl_IdealGens.f k bt1026.1 bt1026.2.1).bind fun t1042 => ((impl_FromGens.f k bt1026.1).bind fun bt1045 => (laws_FnPure.l0 k bt1026.2.1 ((t1034 ++ (⟨#[32]⟩ : ByteArray)) ++ t1035) t1036 t1039 t1042 0 bt1026.1 bt1045.1))))) else (none))) else (none)))) = some true := by rw [if_neg (show ¬ (false = true) by decide)] at H; exact H
 clear H
 have H := H1
 clear H1
 replace H := ga H; obtain ⟨⟨t1026, t1029, t1032⟩, A4, H⟩ := H
 replace H : ((spec_ListText.f k t1026).bind fun t1034 => (if t1034.size + 1 ≤ 9223372036854775807 then ((spec_ListText.f k t1029).bind fun t1035 => (if (t1034 ++ (⟨#[32]⟩ : ByteArray)).size + t1035.size ≤ 9223372036854775807 then ((impl_SortList.f t1029).bind fun t1036 => ((impl_Gaps.f k t1026).bind fun t1039 => ((impl_IdealGens.f k t1026 t1029).bind fun t1042 => ((impl_FromGens.f k t1026).bind fun bt1045 => (laws_FnPure.l0 k t1029 ((t1034 ++ (⟨#[32]⟩ : ByteArray)) ++ t1035) t1036 t1039 t1042 0 t1026 bt1045.1))))) else (none))) else (none))) = some true := H
 replace H := ga H; obtain ⟨t1034, A5, H⟩ := H
 by_cases c6 : t1034.size + 1 ≤ 9223372036854775807
 rotate_left
 ·rw [if_neg c6] at H
  exact absurd H (by simp)
 rw [if_pos c6] at H
 have c6b0 := eq_true c6
 have c6b1 : decide (t1034.size + 1 ≤ 9223372036854775807) = true := decide_eq_true c6
 try have c6b2 : (9223372036854775807 < t1034.size + 1) = False := eq_false (Nat.not_lt.2 c6)
 replace H := ga H; obtain ⟨t1035, A7, H⟩ := H
 by_cases c8 : (t1034 ++ (⟨#[32]⟩ : ByteArray)).size + t1035.size ≤ 9223372036854775807
 rotate_left
 ·rw [if_neg c8] at H
  exact absurd H (by simp)
 rw [if_pos c8] at H
 have c8b7 : t1034.size + 1 + t1035.size ≤ 9223372036854775807 := by have q_ := c8; rw [ByteArray.size_append] at q_; exact q_
 have c8b0 := eq_true c8
 have c8b1 : decide ((t1034 ++ (⟨#[32]⟩ : ByteArray)).size + t1035.size ≤ 9223372036854775807) = true := decide_eq_true c8
 try have c8b2 : (9223372036854775807 < (t1034 ++ (⟨#[32]⟩ : ByteArray)).size + t1035.size) = False := eq_false (Nat.not_lt.2 c8)
 replace H := ga H; obtain ⟨t1036, A9, H⟩ := H
 replace H := ga H; obtain ⟨t1039, A10, H⟩ := H
 replace H := ga H; obtain ⟨t1042, A11, H⟩ := H
 replace H := ga H; obtain ⟨⟨t1045, t1048⟩, A12, H⟩ := H
 replace H : (laws_FnPure.l0 k t1029 ((t1034 ++ (⟨#[32]⟩ : ByteArray)) ++ t1035) t1036 t1039 t1042 0 t1026 t1045) = some true := H
 have H' := am H
 clear H
 go_enter Try.func8, Try.ntmps8
 go_wp2_with (first | ((with_reducible refine gate_callee (f := 12) rfl ?_); refine gl (some 17) Try.func12 #[.slice A0 l0.length c0] ?_; (with_reducible refine (laws_big.calls _ _ l0 false _ ?side1 ?side2 A2.out).mono ?_); (case side1 => exact co HR0.out); (case side2 => exact HC0.out); rintro e w' ⟨rfl, ⟨nd, rfl⟩⟩; refine ⟨_, rfl, ?_⟩) | ((with_reducible refine gate_callee (f := 87) rfl ?_); refine gl (some 20) Try.func87 #[.slice A0 l0.length c0] ?_; (with_reducible refine (spec_DrawInIdeal.calls k _ _ l0 t1026 t1029 t1032 _ ?side1 ?side2 A4.out).mono ?_); (case side1 => exact co HR0.out); (case side2 => exact HC0.out); rintro e w13 ⟨v1027, v1030, rfl, ho0, ho1, hb⟩; refine ⟨_, rfl, ?_⟩; have HO1028 := am (Kd.Q_lower ho0 (below_size bw)); have HO1031 := am (Kd.R_lower ho1 (below_size bw)); replace HB := am (below_step bw hb); clear hb ho0 ho1) | ((with_reducible refine gate_dst (N := 3) rfl ?_); refine bx 3 #[.slice none 0 0] 26 ?_; intro gb1033 hg w14 hbox hb; replace HO1028 := qK HO1028 hb; replace HO1031 := rK HO1031 hb; have BK1033 := am (hbox); have GW1033 := am (gs hg : w.heap.size ≤ gb1033); have GE1033 := GW1033; replace HB := am (below_step bw hb); clear hb hbox hg; obtain ⟨Ao15, co15, eo15, _⟩ := Kd.Q_slice HO1028.out; subst eo15; have hcz16_0 := bc BK1033 0 (.slice none 0 0); have hfz16_0 := blk_frozen BK1033.out 0) | ((with_reducible refine gate_callee (f := 88) rfl ?_); refine gl (some 26) Try.func88 #[.slice Ao15 t1026.length co15] ?_; (with_reducible refine (spec_ListText.calls k _ _ t1026 t1034 _ ?side1 ?side2 A5.out).mono ?_); (case side1 => refine (Kd.Q_reads' (e := 3) (base := w.heap.size) (ok := fun k_ => some k_ ≠ (v1030 : Value).ownBlock) (n := t1026.length) (c := co15) ?_).2.2; exact (qF HO1028 BK1033 (.slice Ao15 t1026.length co15))); (case side2 => exact (Kd.Q_reads' HO1028.out).2.1); rintro e w17 ⟨rfl, hb⟩; refine ⟨_, rfl, ?_⟩; replace HO1028 := am (Kd.Q_below (qF HO1028 BK1033 (.slice Ao15 t1026.length co15)) hb); replace HO1031 := am (Kd.R_below (rF HO1031 BK1033 (.slice Ao15 t1026.length co15)) hb); replace BK1033 := am (blk_below (g := gb1033) (o := .cells #[.slice Ao15 t1026.length co15] 26 (0, 0)) (by (with_reducible repeat (first | refine blk_drewN ?_ _ | refine blk_drew ?_ | refine blk_alloc ?_ _)); refine blk_put (cs := #[.slice none 0 0]) ?_ 0 _ rfl; (with_reducible repeat (first | refine blk_drewN ?_ _ | refine blk_drew ?_ | refine blk_alloc ?_ _)); exact BK1033.out) hb); replace HB := am (below_step bw hb); clear hb; obtain ⟨Ao18, co18, eo18⟩ := Kd.R_slice HO1031.out; subst eo18) | ((with_reducible refine gate_callee (f := 88) rfl ?_); refine gl (some 29) Try.func88 #[.slice Ao18 t1029.length co18] ?_; (with_reducible refine (spec_ListText.calls k _ _ t1029 t1035 _ ?side1 ?side2 A7.out).mono ?_); (case side1 => exact co (Kd.R_reads' HO1031.out).2.2); (case side2 => exact (Kd.R_reads' HO1031.out).2.1); rintro e w19 ⟨rfl, hb⟩; refine ⟨_, rfl, ?_⟩; replace HO1028 := qK HO1028 hb; replace HO1031 := rK HO1031 hb; replace BK1033 := kb BK1033 hb; replace HB := am (below_step bw hb); clear hb) | ((with_reducible refine gate_callee (f := 89) rfl ?_); refine gl (some 32) Try.func89 #[.slice Ao18 t1029.length co18] ?_; (with_reducible refine (impl_SortList.calls _ _ t1029 t1036 _ ?side1 ?side2 A9.out).mono ?_); (case side1 => exact co (Kd.R_reads' HO1031.out).2.2); (case side2 => exact (Kd.R_reads' HO1031.out).2.1); rintro e w20 ⟨v1037, rfl, ho0, hb⟩; refine ⟨_, rfl, ?_⟩; have HO1038 := am (Kd.R_lower (Kd.R_new' (Kd.R_new' ho0 (Kd.Q_lt (qo HO1028.out))) (Kd.R_lt (ro HO1031.out))) (below_size bw)); replace HO1028 := am (Kd.Q_elder' (qo HO1028.out) (Kd.R_base ho0) hb); replace HO1031 := am (Kd.R_elder' (ro HO1031.out) (Kd.R_base ho0) hb); replace BK1033 := kb BK1033 hb; replace HB := am (below_step bw hb); clear hb ho0; have hcz21_0 := bc BK1033 0 (.slice Ao15 t1026.length co15); have hfz21_0 := blk_frozen BK1033.out 0) | ((with_reducible refine gate_callee (f := 90) rfl ?_); refine gl (some 34) Try.func90 #[.agg #[.slice Ao15 t1026.length co15]] ?_; (with_reducible refine (impl_Gaps.calls k _ _ t1026 t1039 _ ?side1 ?side2 A10.out).mono ?_); (case side1 => exact co (Kd.Q_reads' HO1028.out).2.2); (case side2 => exact (Kd.Q_reads' HO1028.out).2.1); rintro e w22 ⟨v1040, rfl, ho0, hb⟩; refine ⟨_, rfl, ?_⟩; have HO1041 := am (Kd.R_lower (Kd.R_new' (Kd.R_new' (Kd.R_new' ho0 (Kd.Q_lt (qo HO1028.out))) (Kd.R_lt (ro HO1031.out))) (Kd.R_lt (ro HO1038.out))) (below_size bw)); replace HO1028 := am (Kd.Q_elder' (qo HO1028.out) (Kd.R_base ho0) hb); replace HO1031 := am (Kd.R_elder' (ro HO1031.out) (Kd.R_base ho0) hb); replace HO1038 := am (Kd.R_elder' (ro HO1038.out) (Kd.R_base ho0) hb); replace BK1033 := kb BK1033 hb; replace HB := am (below_step bw hb); clear hb ho0; have hcz23_0 := bc BK1033 0 (.slice Ao15 t1026.length co15); have hfz23_0 := blk_frozen BK1033.out 0) | ((with_reducible refine gate_callee (f := 91) rfl ?_); refine gl (some 37) Try.func91 #[.agg #[.slice Ao15 t1026.length co15], .slice Ao18 t1029.length co18] ?_; (with_reducible refine (impl_IdealGens.calls k _ _ t1026 _ _ t1029 t1042 _ ?side1 ?side2 ?side3 ?side4 A11.out).mono ?_); (case side1 => exact co (Kd.Q_reads' HO1028.out).2.2); (case side2 => exact (Kd.Q_reads' HO1028.out).2.1); (case side3 => exact co (Kd.R_reads' HO1031.out).2.2); (case side4 => exact (Kd.R_reads' HO1031.out).2.1); rintro e w24 ⟨v1043, rfl, ho0, hb⟩; refine ⟨_, rfl, ?_⟩; have HO1044 := am (Kd.R_lower (Kd.R_new' (Kd.R_new' (Kd.R_new' (Kd.R_new' ho0 (Kd.Q_lt (qo HO1028.out))) (Kd.R_lt (ro HO1031.out))) (Kd.R_lt (ro HO1038.out))) (Kd.R_lt (ro HO1041.out))) (below_size bw)); replace HO1028 := am (Kd.Q_elder' (qo HO1028.out) (Kd.R_base ho0) hb); replace HO1031 := am (Kd.R_elder' (ro HO1031.out) (Kd.R_base ho0) hb); replace HO1038 := am (Kd.R_elder' (ro HO1038.out) (Kd.R_base ho0) hb); replace HO1041 := am (Kd.R_elder' (ro HO1041.out) (Kd.R_base ho0) hb); replace BK1033 := kb BK1033 hb; replace HB := am (below_step bw hb); clear hb ho0; have hcz25_0 := bc BK1033 0 (.slice Ao15 t1026.length co15); have hfz25_0 := blk_frozen BK1033.out 0) | ((with_reducible refine gate_callee (f := 92) rfl ?_); refine gl (some 41) Try.func92 #[.slice Ao15 t1026.length co15] ?_; (with_reducible refine (impl_FromGens.calls k _ _ t1026 t1045 t1048 _ ?side1 ?side2 A12.out).mono ?_); (case side1 => exact co (Kd.Q_reads' HO1028.out).2.2); (case side2 => exact (Kd.Q_reads' HO1028.out).2.1); rintro e w26 ⟨v1046, rfl, ho0, hb⟩; refine ⟨_, rfl, ?_⟩; have HO1047 := am (Kd.R_lower (Kd.R_new' (Kd.R_new' (Kd.R_new' (Kd.R_new' (Kd.R_new' ho0 (Kd.Q_lt (qo HO1028.out))) (Kd.R_lt (ro HO1031.out))) (Kd.R_lt (ro HO1038.out))) (Kd.R_lt (ro HO1041.out))) (Kd.R_lt (ro HO1044.out))) (below_size bw)); replace HO1028 := am (Kd.Q_elder' (qo HO1028.out) (Kd.R_base ho0) hb); replace HO1031 := am (Kd.R_elder' (ro HO1031.out) (Kd.R_base ho0) hb); replace HO1038 := am (Kd.R_elder' (ro HO1038.out) (Kd.R_base ho0) hb); replace HO1041 := am (Kd.R_elder' (ro HO1041.out) (Kd.R_base ho0) hb); replace HO1044 := am (Kd.R_elder' (ro HO1044.out) (Kd.R_base ho0) hb); replace BK1033 := kb BK1033 hb; replace HB := am (below_step bw hb); clear hb ho0) | ((with_reducible refine gate_dst (N := 10) rfl ?_); refine bx 10 #[.slice none 0 0] 26 ?_; intro gb1049 hg w27 hbox hb; replace HO1028 := qK HO1028 hb; replace HO1031 := rK HO1031 hb; replace HO1038 := rK HO1038 hb; replace HO1041 := rK HO1041 hb; replace HO1044 := rK HO1044 hb; replace HO1047 := rK HO1047 hb; have BK1049 := am (hbox); have GW1049 := am (gs hg : w.heap.size ≤ gb1049); have GE1049 := GW1049; replace HB := am (below_step bw hb); have NB1033_1049 := nl hg BK1033; have NB1049_1033 := ns NB1033_1049; replace BK1033 := kb BK1033 hb; clear hb hbox hg; obtain ⟨Ao28, co28, eo28⟩ := Kd.R_slice HO1047.out; subst eo28; have hnb29 := NB1049_1033.out; have hnc29 := NB1033_1049.out; have hcz30_0 := bc BK1049 0 (.slice none 0 0); have hfz30_0 := blk_frozen BK1049.out 0))
 go_loopg [12] k (fun kq v12 w' => ∃ (x7_1 : List Int) (x12_1 : Int), v12 = .int .i64 x12_1 ∧ Aside0 (laws_FnPure.l0 kq t1029 ((t1034 ++ (⟨#[32]⟩ : ByteArray)) ++ t1035) x7_1 t1039 t1042 x12_1 t1026 t1045 = some true) ∧ Aside0 (kq ≤ k) ∧ Aside0 (Kd.R (Kd.int .i64) 3 w' w.heap.size (fun k_ => some k_ ≠ (v1037 : Value).ownBlock ∧ some k_ ≠ (v1040 : Value).ownBlock ∧ some k_ ≠ (v1043 : Value).ownBlock ∧ nb k_ Ao15 t1026 co15 ∧ nb k_ Ao28 t1045 co28) (.slice Ao18 t1029.length co18) t1029) ∧ Aside0 (Kd.R (Kd.int .i64) 3 w' w.heap.size (fun k_ => nb k_ Ao18 t1029 co18 ∧ some k_ ≠ (v1040 : Value).ownBlock ∧ some k_ ≠ (v1043 : Value).ownBlock ∧ nb k_ Ao15 t1026 co15 ∧ nb k_ Ao28 t1045 co28) v1037 x7_1) ∧ Aside0 (Kd.R (Kd.int .i64) 3 w' w.heap.size (fun k_ => nb k_ Ao18 t1029 co18 ∧ some k_ ≠ (v1037 : Value).ownBlock ∧ some k_ ≠ (v1043 : Value).ownBlock ∧ nb k_ Ao15 t1026 co15 ∧ nb k_ Ao28 t1045 co28) v1040 t1039) ∧ Aside0 (Kd.R (Kd.int .i64) 3 w' w.heap.size (fun k_ => nb k_ Ao18 t1029 co18 ∧ some k_ ≠ (v1037 : Value).ownBlock ∧ some k_ ≠ (v1040 : Value).ownBlock ∧ nb k_ Ao15 t1026 co15 ∧ nb k_ Ao28 t1045 co28) v1043 t1042) ∧ Aside0 (Kd.Q (Kd.int .i64) 3 w' w.heap.size (fun k_ => nb k_ Ao18 t1029 co18 ∧ some k_ ≠ (v1037 : Value).ownBlock ∧ some k_ ≠ (v1040 : Value).ownBlock ∧ some k_ ≠ (v1043 : Value).ownBlock ∧ nb k_ Ao28 t1045 co28) (.slice Ao15 t1026.length co15) t1026) ∧ Aside0 (Kd.Q (Kd.int .i64) 3 w' w.heap.size (fun k_ => nb k_ Ao18 t1029 co18 ∧ some k_ ≠ (v1037 : Value).ownBlock ∧ some k_ ≠ (v1040 : Value).ownBlock ∧ some k_ ≠ (v1043 : Value).ownBlock ∧ nb k_ Ao15 t1026 co15) (.slice Ao28 t1045.length co28) t1045) ∧ Aside0 (w'.heap[gb1033]? = some (.cells #[(.slice Ao15 t1026.length co15)] 26 (0, 0))) ∧ Aside0 (w'.heap[gb1049]? = some (.cells #[(.slice Ao28 t1045.length co28)] 26 (0, 0))) ∧ Aside0 (Below w.heap.size w w'))
 case atStart => exact ⟨(t1036), (0), rr, H', ⟨Nat.le_refl _⟩, ⟨by (with_reducible repeat (first | apply Kd.R_alloc | apply Kd.R_drewN | apply Kd.R_drew)); exact Kd.R_mono (Kd.R_far (p := ⟨gb1049, 0, none⟩) (Kd.R_types HO1031.out BK1049.out (by decide)) (fun _ hk => hk.2) (.slice Ao28 t1045.length co28)) (fun _ hk => ⟨hk.1.1.1.1.2, ⟨hk.1.1.1.2, ⟨hk.1.1.2, ⟨hk.1.1.1.1.1, hk.1.2⟩⟩⟩⟩)⟩, ⟨by (with_reducible repeat (first | apply Kd.R_alloc | apply Kd.R_drewN | apply Kd.R_drew)); exact Kd.R_mono (Kd.R_far (p := ⟨gb1049, 0, none⟩) (Kd.R_types HO1038.out BK1049.out (by decide)) (fun _ hk => hk.2) (.slice Ao28 t1045.length co28)) (fun _ hk => ⟨hk.1.1.1.1.2, ⟨hk.1.1.1.2, ⟨hk.1.1.2, ⟨hk.1.1.1.1.1.2, hk.1.2⟩⟩⟩⟩)⟩, ⟨by (with_reducible repeat (first | apply Kd.R_alloc | apply Kd.R_drewN | apply Kd.R_drew)); exact Kd.R_mono (Kd.R_far (p := ⟨gb1049, 0, none⟩) (Kd.R_types HO1041.out BK1049.out (by decide)) (fun _ hk => hk.2) (.slice Ao28 t1045.length co28)) (fun _ hk => ⟨hk.1.1.1.1.2, ⟨hk.1.1.1.2, ⟨hk.1.1.2, ⟨hk.1.1.1.1.1.2, hk.1.2⟩⟩⟩⟩)⟩, ⟨by (with_reducible repeat (first | apply Kd.R_alloc | apply Kd.R_drewN | apply Kd.R_drew)); exact Kd.R_mono (Kd.R_far (p := ⟨gb1049, 0, none⟩) (Kd.R_types HO1044.out BK1049.out (by decide)) (fun _ hk => hk.2) (.slice Ao28 t1045.length co28)) (fun _ hk => ⟨hk.1.1.1.1.2, ⟨hk.1.1.1.2, ⟨hk.1.1.2, ⟨hk.1.1.1.1.1.2, hk.1.2⟩⟩⟩⟩)⟩, ⟨by (with_reducible repeat (first | apply Kd.Q_alloc | apply Kd.Q_drewN | apply Kd.Q_drew)); exact Kd.Q_mono (Kd.Q_far (p := ⟨gb1049, 0, none⟩) (Kd.Q_types HO1028.out BK1049.out (by decide)) (fun _ hk => hk.2) (.slice Ao28 t1045.length co28)) (fun _ hk => ⟨hk.1.1.1.1.1, ⟨hk.1.1.1.1.2, ⟨hk.1.1.1.2, ⟨hk.1.1.2, hk.1.2⟩⟩⟩⟩)⟩, ⟨Kd.Q_of_R (by (with_reducible repeat (first | apply Kd.R_alloc | apply Kd.R_drewN | apply Kd.R_drew)); exact Kd.R_mono (Kd.R_far (p := ⟨gb1049, 0, none⟩) (Kd.R_types HO1047.out BK1049.out (by decide)) (fun _ hk => hk.2) (.slice Ao28 t1045.length co28)) (fun _ hk => ⟨hk.1.1.1.1.2, ⟨hk.1.1.1.2, ⟨hk.1.1.2, ⟨hk.1.2, hk.1.1.1.1.1.2⟩⟩⟩⟩))⟩, ⟨bf BK1033.out⟩, ⟨by (with_reducible repeat (first | refine blk_drewN ?_ _ | refine blk_drew ?_ | refine blk_alloc ?_ _)); refine blk_put (cs := #[.slice none 0 0]) ?_ 0 _ rfl; (with_reducible repeat (first | refine blk_drewN ?_ _ | refine blk_drew ?_ | refine blk_alloc ?_ _)); exact BK1049.out⟩, ⟨bw⟩⟩
 case round =>
  clear H'
  try clear c3; try clear c6; try clear c6b0; try clear c6b1; try clear c6b2; try clear c8; try clear c8b0; try clear c8b1; try clear c8b2; try clear hcz16_0; try clear hcz21_0; try clear hcz23_0; try clear hcz25_0; try clear hcz30_0; try clear hfz16_0; try clear hfz21_0; try clear hfz23_0; try clear hfz25_0; try clear hfz30_0
  obtain ⟨x7_1, x12_1, rfl, HA, HK1, HO_4, HO_7, HO_8, HO_9, HO_1034000, HO_1050000, BK1033, BK1049, HB⟩ := hrel
  cases gk with
  | zero => exact absurd HA.out (by simp [laws_FnPure.l0])
  | succ k1 =>
   have H := HA.out
   clear HA
   simp only [laws_FnPure.l0] at H
   replace H := gi H; obtain ⟨c31b0, H⟩ | ⟨c31b0, H⟩ := H
   ·replace H := gd H; obtain ⟨c32b0, H⟩ := H
    obtain ⟨y1050, hy1050⟩ : ∃ y_ : List Int, y_ = (x7_1.set (x12_1 : Int).toNat 99) := ⟨_, rfl⟩
    replace H : (laws_FnPure.l0 k1 t1029 ((t1034 ++ (⟨#[32]⟩ : ByteArray)) ++ t1035) y1050 t1039 t1042 (wrap64 (x12_1 + 1)) t1026 t1045) = some true := by first | (rw [hy1050]; with_reducible first | exact H | exact bs H) | (with_reducible first | exact bs H | exact H) | (rw [hy1050]; exact H) | exact H
    have Ny1050 := am hy1050
    clear hy1050
    have H' := am H
    clear H
    obtain ⟨Ao34, co34, eo34⟩ := Kd.R_slice HO_7.out
    subst eo34
    have p33 : 0 ≤ (x12_1 : Int) := of_decide_eq_true (by first | (with_reducible assumption) | assumption)
    have q33 : (x12_1 : Int) < ((x7_1.length : Int) : Int) := of_decide_eq_true (by first | (with_reducible assumption) | assumption)
    obtain ⟨go33, co33, eo33, gb33, gl33, cl33, HG33⟩ := Kd.R_form HO_7.out (by omega)
    (first | cases eo33 | (injection eo33 with ea_ en_ ec_; (first | subst ea_ | (injection ea_ with ea_; subst ea_)); subst ec_; clear en_))
    have GB33 := am gb33
    have GG33 := am HG33
    clear gb33 gl33 HG33
    obtain ⟨hx33_0, hf33_0⟩ := Kd.R_celln 0 HO_7.out (x12_1 : Int) p33 q33
    replace p33 := eq_true p33
    replace q33 := eq_true q33
    have HP35 := Kd.R_putg HO_7.out (x12_1 : Int) 99
    go_wp2_with (first | ((with_reducible refine gate_store (t := 3) (p := 52) rfl ?_); refine store_event (t := 3) (p := 52) (v := ?vo_w36) (w1 := (wr.setCell ⟨go33, (x12_1 : Int).toNat, none⟩ (.int .i64 99))) ?hg ?ho ?hn ?hr ?_; (case ho => rfl); (case hg => rfl); (case hn => rfl); (case hr => first | (go_simp; done) | (go_simp; rfl)); intro w36 hw; have hg : wr.grownBy w36 (some go33) := (by rw [hw]; exact HP35.2); have hp_ : Kd.R (Kd.int .i64) 3 w36 w.heap.size (fun k_ => nb k_ Ao18 t1029 co18 ∧ some k_ ≠ (v1040 : Value).ownBlock ∧ some k_ ≠ (v1043 : Value).ownBlock ∧ nb k_ Ao15 t1026 co15 ∧ nb k_ Ao28 t1045 co28) (.slice (some ⟨go33, 0, none⟩) x7_1.length co34) y1050 := (by rw [hw, Ny1050.out]; exact HP35.1); clear HP35; replace HO_4 := am (Kd.R_after (v := (.slice (some ⟨go33, 0, none⟩) x7_1.length co34)) (v1 := (.slice (some ⟨go33, 0, none⟩) x7_1.length co34)) (ok := (fun k_ => some k_ ≠ (v1040 : Value).ownBlock ∧ some k_ ≠ (v1043 : Value).ownBlock ∧ nb k_ Ao15 t1026 co15 ∧ nb k_ Ao28 t1045 co28)) (by (with_reducible repeat (first | apply Kd.R_alloc | apply Kd.R_drewN | apply Kd.R_drew)); exact Kd.R_mono HO_4.out (fun _ hk => ⟨⟨hk.2.1, ⟨hk.2.2.1, ⟨hk.2.2.2.1, hk.2.2.2.2⟩⟩⟩, hk.1⟩)) hg (.inl rfl)); replace HO_8 := am (Kd.R_after (v := (.slice (some ⟨go33, 0, none⟩) x7_1.length co34)) (v1 := (.slice (some ⟨go33, 0, none⟩) x7_1.length co34)) (ok := (fun k_ => nb k_ Ao18 t1029 co18 ∧ some k_ ≠ (v1043 : Value).ownBlock ∧ nb k_ Ao15 t1026 co15 ∧ nb k_ Ao28 t1045 co28)) (by (with_reducible repeat (first | apply Kd.R_alloc | apply Kd.R_drewN | apply Kd.R_drew)); exact Kd.R_mono HO_8.out (fun _ hk => ⟨⟨hk.1, ⟨hk.2.2.1, ⟨hk.2.2.2.1, hk.2.2.2.2⟩⟩⟩, hk.2.1⟩)) hg (.inl rfl)); replace HO_9 := am (Kd.R_after (v := (.slice (some ⟨go33, 0, none⟩) x7_1.length co34)) (v1 := (.slice (some ⟨go33, 0, none⟩) x7_1.length co34)) (ok := (fun k_ => nb k_ Ao18 t1029 co18 ∧ some k_ ≠ (v1040 : Value).ownBlock ∧ nb k_ Ao15 t1026 co15 ∧ nb k_ Ao28 t1045 co28)) (by (with_reducible repeat (first | apply Kd.R_alloc | apply Kd.R_drewN | apply Kd.R_drew)); exact Kd.R_mono HO_9.out (fun _ hk => ⟨⟨hk.1, ⟨hk.2.2.1, ⟨hk.2.2.2.1, hk.2.2.2.2⟩⟩⟩, hk.2.1⟩)) hg (.inl rfl)); replace HO_1034000 := am (Kd.Q_after (v := (.slice (some ⟨go33, 0, none⟩) x7_1.length co34)) (v1 := (.slice (some ⟨go33, 0, none⟩) x7_1.length co34)) (ok := (fun k_ => nb k_ Ao18 t1029 co18 ∧ some k_ ≠ (v1040 : Value).ownBlock ∧ some k_ ≠ (v1043 : Value).ownBlock ∧ nb k_ Ao28 t1045 co28)) (by (with_reducible repeat (first | apply Kd.Q_alloc | apply Kd.Q_drewN | apply Kd.Q_drew)); exact Kd.Q_mono HO_1034000.out (fun _ hk => ⟨⟨hk.1, ⟨hk.2.2.1, ⟨hk.2.2.2.1, hk.2.2.2.2⟩⟩⟩, hk.2.1⟩)) hg (.inl rfl)); replace HO_1050000 := am (Kd.Q_after (v := (.slice (some ⟨go33, 0, none⟩) x7_1.length co34)) (v1 := (.slice (some ⟨go33, 0, none⟩) x7_1.length co34)) (ok := (fun k_ => nb k_ Ao18 t1029 co18 ∧ some k_ ≠ (v1040 : Value).ownBlock ∧ some k_ ≠ (v1043 : Value).ownBlock ∧ nb k_ Ao15 t1026 co15)) (by (with_reducible repeat (first | apply Kd.Q_alloc | apply Kd.Q_drewN | apply Kd.Q_drew)); exact Kd.Q_mono HO_1050000.out (fun _ hk => ⟨⟨hk.1, ⟨hk.2.2.1, ⟨hk.2.2.2.1, hk.2.2.2.2⟩⟩⟩, hk.2.1⟩)) hg (.inl rfl)); replace BK1033 := am (blk_grown (g := gb1033) (o := .cells #[.slice Ao15 t1026.length co15] 26 (0, 0)) (bo BK1033.out) hg (Kd.R_ne HO_7.out BK1033.out (by decide))); replace BK1049 := am (blk_grown (g := gb1049) (o := .cells #[.slice Ao28 t1045.length co28] 26 (0, 0)) (bo BK1049.out) hg (Kd.R_ne HO_7.out BK1049.out (by decide))); replace HO_7 := am (hp_); replace HB := am ((by rw [hw]; exact below_set (HB.out) GB33.out : Below w.heap.size w w36)); clear hg hw hp_))
    go_roundg k1
    case measure => have := HK1.out; omega
    case rel => exact ⟨(y1050), (wrap64 (x12_1 + 1)), rr, H', ⟨by have := HK1.out; omega⟩, ⟨by (with_reducible repeat (first | apply Kd.R_alloc | apply Kd.R_drewN | apply Kd.R_drew)); exact Kd.R_mono HO_4.out (fun _ hk => ⟨hk.2, ⟨hk.1.1, ⟨hk.1.2.1, ⟨hk.1.2.2.1, hk.1.2.2.2⟩⟩⟩⟩)⟩, ⟨ro HO_7.out⟩, ⟨by (with_reducible repeat (first | apply Kd.R_alloc | apply Kd.R_drewN | apply Kd.R_drew)); exact Kd.R_mono HO_8.out (fun _ hk => ⟨hk.1.1, ⟨hk.2, ⟨hk.1.2.1, ⟨hk.1.2.2.1, hk.1.2.2.2⟩⟩⟩⟩)⟩, ⟨by (with_reducible repeat (first | apply Kd.R_alloc | apply Kd.R_drewN | apply Kd.R_drew)); exact Kd.R_mono HO_9.out (fun _ hk => ⟨hk.1.1, ⟨hk.2, ⟨hk.1.2.1, ⟨hk.1.2.2.1, hk.1.2.2.2⟩⟩⟩⟩)⟩, ⟨by (with_reducible repeat (first | apply Kd.Q_alloc | apply Kd.Q_drewN | apply Kd.Q_drew)); exact Kd.Q_mono HO_1034000.out (fun _ hk => ⟨hk.1.1, ⟨hk.2, ⟨hk.1.2.1, ⟨hk.1.2.2.1, hk.1.2.2.2⟩⟩⟩⟩)⟩, ⟨by (with_reducible repeat (first | apply Kd.Q_alloc | apply Kd.Q_drewN | apply Kd.Q_drew)); exact Kd.Q_mono HO_1050000.out (fun _ hk => ⟨hk.1.1, ⟨hk.2, ⟨hk.1.2.1, ⟨hk.1.2.2.1, hk.1.2.2.2⟩⟩⟩⟩)⟩, ⟨bo BK1033.out⟩, ⟨bo BK1049.out⟩, ⟨bw⟩⟩
   have H' := am H
   clear H
   obtain ⟨Ao37, co37, eo37⟩ := Kd.R_slice HO_7.out
   subst eo37
   go_wp2
   go_loopg [13] k1 (fun kq v13 w' => ∃ (x8_2 : List Int) (x13_2 : Int), v13 = .int .i64 x13_2 ∧ Aside0 (laws_FnPure.l1 kq t1029 ((t1034 ++ (⟨#[32]⟩ : ByteArray)) ++ t1035) x8_2 t1042 x13_2 t1026 t1045 = some true) ∧ Aside0 (kq ≤ k1) ∧ Aside0 (Kd.R (Kd.int .i64) 3 w' w.heap.size (fun k_ => some k_ ≠ (v1040 : Value).ownBlock ∧ some k_ ≠ (v1043 : Value).ownBlock ∧ nb k_ Ao15 t1026 co15 ∧ nb k_ Ao28 t1045 co28) (.slice Ao18 t1029.length co18) t1029) ∧ Aside0 (Kd.R (Kd.int .i64) 3 w' w.heap.size (fun k_ => nb k_ Ao18 t1029 co18 ∧ some k_ ≠ (v1043 : Value).ownBlock ∧ nb k_ Ao15 t1026 co15 ∧ nb k_ Ao28 t1045 co28) v1040 x8_2) ∧ Aside0 (Kd.R (Kd.int .i64) 3 w' w.heap.size (fun k_ => nb k_ Ao18 t1029 co18 ∧ some k_ ≠ (v1040 : Value).ownBlock ∧ nb k_ Ao15 t1026 co15 ∧ nb k_ Ao28 t1045 co28) v1043 t1042) ∧ Aside0 (Kd.Q (Kd.int .i64) 3 w' w.heap.size (fun k_ => nb k_ Ao18 t1029 co18 ∧ some k_ ≠ (v1040 : Value).ownBlock ∧ some k_ ≠ (v1043 : Value).ownBlock ∧ nb k_ Ao28 t1045 co28) (.slice Ao15 t1026.length co15) t1026) ∧ Aside0 (Kd.Q (Kd.int .i64) 3 w' w.heap.size (fun k_ => nb k_ Ao18 t1029 co18 ∧ some k_ ≠ (v1040 : Value).ownBlock ∧ some k_ ≠ (v1043 : Value).ownBlock ∧ nb k_ Ao15 t1026 co15) (.slice Ao28 t1045.length co28) t1045) ∧ Aside0 (w'.heap[gb1033]? = some (.cells #[(.slice Ao15 t1026.length co15)] 26 (0, 0))) ∧ Aside0 (w'.heap[gb1049]? = some (.cells #[(.slice Ao28 t1045.length co28)] 26 (0, 0))) ∧ Aside0 (Below w.heap.size w w'))
   case atStart => exact ⟨(t1039), (0), rr, H', ⟨Nat.le_refl _⟩, ⟨by (with_reducible repeat (first | apply Kd.R_alloc | apply Kd.R_drewN | apply Kd.R_drew)); exact Kd.R_mono HO_4.out (fun _ hk => ⟨hk.2.1, ⟨hk.2.2.1, ⟨hk.2.2.2.1, hk.2.2.2.2⟩⟩⟩)⟩, ⟨by (with_reducible repeat (first | apply Kd.R_alloc | apply Kd.R_drewN | apply Kd.R_drew)); exact Kd.R_mono HO_8.out (fun _ hk => ⟨hk.1, ⟨hk.2.2.1, ⟨hk.2.2.2.1, hk.2.2.2.2⟩⟩⟩)⟩, ⟨by (with_reducible repeat (first | apply Kd.R_alloc | apply Kd.R_drewN | apply Kd.R_drew)); exact Kd.R_mono HO_9.out (fun _ hk => ⟨hk.1, ⟨hk.2.2.1, ⟨hk.2.2.2.1, hk.2.2.2.2⟩⟩⟩)⟩, ⟨by (with_reducible repeat (first | apply Kd.Q_alloc | apply Kd.Q_drewN | apply Kd.Q_drew)); exact Kd.Q_mono HO_1034000.out (fun _ hk => ⟨hk.1, ⟨hk.2.2.1, ⟨hk.2.2.2.1, hk.2.2.2.2⟩⟩⟩)⟩, ⟨by (with_reducible repeat (first | apply Kd.Q_alloc | apply Kd.Q_drewN | apply Kd.Q_drew)); exact Kd.Q_mono HO_1050000.out (fun _ hk => ⟨hk.1, ⟨hk.2.2.1, ⟨hk.2.2.2.1, hk.2.2.2.2⟩⟩⟩)⟩, ⟨bo BK1033.out⟩, ⟨bo BK1049.out⟩, ⟨bw⟩⟩
   case round =>
    clear H'
    try clear c3; try clear c6; try clear c6b0; try clear c6b1; try clear c6b2; try clear c8; try clear c8b0; try clear c8b1; try clear c8b2; try clear c31b0; try clear c32b0; try clear p33; try clear q33; try clear hcz16_0; try clear hcz21_0; try clear hcz23_0; try clear hcz25_0; try clear hcz30_0; try clear hfz16_0; try clear hfz21_0; try clear hfz23_0; try clear hfz25_0; try clear hfz30_0; try clear hx33_0
    obtain ⟨x8_2, x13_2, rfl, HA, HK2, HO_4, HO_8, HO_9, HO_1034000, HO_1050000, BK1033, BK1049, HB⟩ := hrel
    cases gk with
    | zero => exact absurd HA.out (by simp [laws_FnPure.l1])
    | succ k2 =>
     have H := HA.out
     clear HA
     simp only [laws_FnPure.l1] at H
     replace H := gi H; obtain ⟨c38b0, H⟩ | ⟨c38b0, H⟩ := H
     ·replace H := gd H; obtain ⟨c39b0, H⟩ := H
      obtain ⟨y1051, hy1051⟩ : ∃ y_ : List Int, y_ = (x8_2.set (x13_2 : Int).toNat 99) := ⟨_, rfl⟩
      replace H : (laws_FnPure.l1 k2 t1029 ((t1034 ++ (⟨#[32]⟩ : ByteArray)) ++ t1035) y1051 t1042 (wrap64 (x13_2 + 1)) t1026 t1045) = some true := by first | (rw [hy1051]; with_reducible first | exact H | exact bs H) | (with_reducible first | exact bs H | exact H) | (rw [hy1051]; exact H) | exact H
      have Ny1051 := am hy1051
      clear hy1051
      have H' := am H
      clear H
      obtain ⟨Ao41, co41, eo41⟩ := Kd.R_slice HO_8.out
      subst eo41
      have p40 : 0 ≤ (x13_2 : Int) := of_decide_eq_true (by first | (with_reducible assumption) | assumption)
      have q40 : (x13_2 : Int) < ((x8_2.length : Int) : Int) := of_decide_eq_true (by first | (with_reducible assumption) | assumption)
      obtain ⟨go40, co40, eo40, gb40, gl40, cl40, HG40⟩ := Kd.R_form HO_8.out (by omega)
      (first | cases eo40 | (injection eo40 with ea_ en_ ec_; (first | subst ea_ | (injection ea_ with ea_; subst ea_)); subst ec_; clear en_))
      have GB40 := am gb40
      have GG40 := am HG40
      clear gb40 gl40 HG40
      obtain ⟨hx40_0, hf40_0⟩ := Kd.R_celln 0 HO_8.out (x13_2 : Int) p40 q40
      replace p40 := eq_true p40
      replace q40 := eq_true q40
      have HP42 := Kd.R_putg HO_8.out (x13_2 : Int) 99
      go_wp2_with (first | ((with_reducible refine gate_store (t := 3) (p := 61) rfl ?_); refine store_event (t := 3) (p := 61) (v := ?vo_w43) (w1 := (wr.setCell ⟨go40, (x13_2 : Int).toNat, none⟩ (.int .i64 99))) ?hg ?ho ?hn ?hr ?_; (case ho => rfl); (case hg => rfl); (case hn => rfl); (case hr => first | (go_simp; done) | (go_simp; rfl)); intro w43 hw; have hg : wr.grownBy w43 (some go40) := (by rw [hw]; exact HP42.2); have hp_ : Kd.R (Kd.int .i64) 3 w43 w.heap.size (fun k_ => nb k_ Ao18 t1029 co18 ∧ some k_ ≠ (v1043 : Value).ownBlock ∧ nb k_ Ao15 t1026 co15 ∧ nb k_ Ao28 t1045 co28) (.slice (some ⟨go40, 0, none⟩) x8_2.length co41) y1051 := (by rw [hw, Ny1051.out]; exact HP42.1); clear HP42; replace HO_4 := am (Kd.R_after (v := (.slice (some ⟨go40, 0, none⟩) x8_2.length co41)) (v1 := (.slice (some ⟨go40, 0, none⟩) x8_2.length co41)) (ok := (fun k_ => some k_ ≠ (v1043 : Value).ownBlock ∧ nb k_ Ao15 t1026 co15 ∧ nb k_ Ao28 t1045 co28)) (by (with_reducible repeat (first | apply Kd.R_alloc | apply Kd.R_drewN | apply Kd.R_drew)); exact Kd.R_mono HO_4.out (fun _ hk => ⟨⟨hk.2.1, ⟨hk.2.2.1, hk.2.2.2⟩⟩, hk.1⟩)) hg (.inl rfl)); replace HO_9 := am (Kd.R_after (v := (.slice (some ⟨go40, 0, none⟩) x8_2.length co41)) (v1 := (.slice (some ⟨go40, 0, none⟩) x8_2.length co41)) (ok := (fun k_ => nb k_ Ao18 t1029 co18 ∧ nb k_ Ao15 t1026 co15 ∧ nb k_ Ao28 t1045 co28)) (by (with_reducible repeat (first | apply Kd.R_alloc | apply Kd.R_drewN | apply Kd.R_drew)); exact Kd.R_mono HO_9.out (fun _ hk => ⟨⟨hk.1, ⟨hk.2.2.1, hk.2.2.2⟩⟩, hk.2.1⟩)) hg (.inl rfl)); replace HO_1034000 := am (Kd.Q_after (v := (.slice (some ⟨go40, 0, none⟩) x8_2.length co41)) (v1 := (.slice (some ⟨go40, 0, none⟩) x8_2.length co41)) (ok := (fun k_ => nb k_ Ao18 t1029 co18 ∧ some k_ ≠ (v1043 : Value).ownBlock ∧ nb k_ Ao28 t1045 co28)) (by (with_reducible repeat (first | apply Kd.Q_alloc | apply Kd.Q_drewN | apply Kd.Q_drew)); exact Kd.Q_mono HO_1034000.out (fun _ hk => ⟨⟨hk.1, ⟨hk.2.2.1, hk.2.2.2⟩⟩, hk.2.1⟩)) hg (.inl rfl)); replace HO_1050000 := am (Kd.Q_after (v := (.slice (some ⟨go40, 0, none⟩) x8_2.length co41)) (v1 := (.slice (some ⟨go40, 0, none⟩) x8_2.length co41)) (ok := (fun k_ => nb k_ Ao18 t1029 co18 ∧ some k_ ≠ (v1043 : Value).ownBlock ∧ nb k_ Ao15 t1026 co15)) (by (with_reducible repeat (first | apply Kd.Q_alloc | apply Kd.Q_drewN | apply Kd.Q_drew)); exact Kd.Q_mono HO_1050000.out (fun _ hk => ⟨⟨hk.1, ⟨hk.2.2.1, hk.2.2.2⟩⟩, hk.2.1⟩)) hg (.inl rfl)); replace BK1033 := am (blk_grown (g := gb1033) (o := .cells #[.slice Ao15 t1026.length co15] 26 (0, 0)) (bo BK1033.out) hg (Kd.R_ne HO_8.out BK1033.out (by decide))); replace BK1049 := am (blk_grown (g := gb1049) (o := .cells #[.slice Ao28 t1045.length co28] 26 (0, 0)) (bo BK1049.out) hg (Kd.R_ne HO_8.out BK1049.out (by decide))); replace HO_8 := am (hp_); replace HB := am ((by rw [hw]; exact below_set (HB.out) GB40.out : Below w.heap.size w w43)); clear hg hw hp_))
      go_roundg k2
      case measure => have := HK1.out; have := HK2.out; omega
      case rel => exact ⟨(y1051), (wrap64 (x13_2 + 1)), rr, H', ⟨by have := HK1.out; have := HK2.out; omega⟩, ⟨by (with_reducible repeat (first | apply Kd.R_alloc | apply Kd.R_drewN | apply Kd.R_drew)); exact Kd.R_mono HO_4.out (fun _ hk => ⟨hk.2, ⟨hk.1.1, ⟨hk.1.2.1, hk.1.2.2⟩⟩⟩)⟩, ⟨ro HO_8.out⟩, ⟨by (with_reducible repeat (first | apply Kd.R_alloc | apply Kd.R_drewN | apply Kd.R_drew)); exact Kd.R_mono HO_9.out (fun _ hk => ⟨hk.1.1, ⟨hk.2, ⟨hk.1.2.1, hk.1.2.2⟩⟩⟩)⟩, ⟨by (with_reducible repeat (first | apply Kd.Q_alloc | apply Kd.Q_drewN | apply Kd.Q_drew)); exact Kd.Q_mono HO_1034000.out (fun _ hk => ⟨hk.1.1, ⟨hk.2, ⟨hk.1.2.1, hk.1.2.2⟩⟩⟩)⟩, ⟨by (with_reducible repeat (first | apply Kd.Q_alloc | apply Kd.Q_drewN | apply Kd.Q_drew)); exact Kd.Q_mono HO_1050000.out (fun _ hk => ⟨hk.1.1, ⟨hk.2, ⟨hk.1.2.1, hk.1.2.2⟩⟩⟩)⟩, ⟨bo BK1033.out⟩, ⟨bo BK1049.out⟩, ⟨bw⟩⟩
     have H' := am H
     clear H
     obtain ⟨Ao44, co44, eo44⟩ := Kd.R_slice HO_8.out
     subst eo44
     go_wp2
     go_loopg [14] k2 (fun kq v14 w' => ∃ (x9_3 : List Int) (x14_3 : Int), v14 = .int .i64 x14_3 ∧ Aside0 (laws_FnPure.l2 kq t1029 ((t1034 ++ (⟨#[32]⟩ : ByteArray)) ++ t1035) x9_3 x14_3 t1026 t1045 = some true) ∧ Aside0 (kq ≤ k2) ∧ Aside0 (Kd.R (Kd.int .i64) 3 w' w.heap.size (fun k_ => some k_ ≠ (v1043 : Value).ownBlock ∧ nb k_ Ao15 t1026 co15 ∧ nb k_ Ao28 t1045 co28) (.slice Ao18 t1029.length co18) t1029) ∧ Aside0 (Kd.R (Kd.int .i64) 3 w' w.heap.size (fun k_ => nb k_ Ao18 t1029 co18 ∧ nb k_ Ao15 t1026 co15 ∧ nb k_ Ao28 t1045 co28) v1043 x9_3) ∧ Aside0 (Kd.Q (Kd.int .i64) 3 w' w.heap.size (fun k_ => nb k_ Ao18 t1029 co18 ∧ some k_ ≠ (v1043 : Value).ownBlock ∧ nb k_ Ao28 t1045 co28) (.slice Ao15 t1026.length co15) t1026) ∧ Aside0 (Kd.Q (Kd.int .i64) 3 w' w.heap.size (fun k_ => nb k_ Ao18 t1029 co18 ∧ some k_ ≠ (v1043 : Value).ownBlock ∧ nb k_ Ao15 t1026 co15) (.slice Ao28 t1045.length co28) t1045) ∧ Aside0 (w'.heap[gb1033]? = some (.cells #[(.slice Ao15 t1026.length co15)] 26 (0, 0))) ∧ Aside0 (w'.heap[gb1049]? = some (.cells #[(.slice Ao28 t1045.length co28)] 26 (0, 0))) ∧ Aside0 (Below w.heap.size w w'))
     case atStart => exact ⟨(t1042), (0), rr, H', ⟨Nat.le_refl _⟩, ⟨by (with_reducible repeat (first | apply Kd.R_alloc | apply Kd.R_drewN | apply Kd.R_drew)); exact Kd.R_mono HO_4.out (fun _ hk => ⟨hk.2.1, ⟨hk.2.2.1, hk.2.2.2⟩⟩)⟩, ⟨by (with_reducible repeat (first | apply Kd.R_alloc | apply Kd.R_drewN | apply Kd.R_drew)); exact Kd.R_mono HO_9.out (fun _ hk => ⟨hk.1, ⟨hk.2.2.1, hk.2.2.2⟩⟩)⟩, ⟨by (with_reducible repeat (first | apply Kd.Q_alloc | apply Kd.Q_drewN | apply Kd.Q_drew)); exact Kd.Q_mono HO_1034000.out (fun _ hk => ⟨hk.1, ⟨hk.2.2.1, hk.2.2.2⟩⟩)⟩, ⟨by (with_reducible repeat (first | apply Kd.Q_alloc | apply Kd.Q_drewN | apply Kd.Q_drew)); exact Kd.Q_mono HO_1050000.out (fun _ hk => ⟨hk.1, ⟨hk.2.2.1, hk.2.2.2⟩⟩)⟩, ⟨bo BK1033.out⟩, ⟨bo BK1049.out⟩, ⟨bw⟩⟩
     case round =>
      clear H'
      try clear c3; try clear c6; try clear c6b0; try clear c6b1; try clear c6b2; try clear c8; try clear c8b0; try clear c8b1; try clear c8b2; try clear c31b0; try clear c32b0; try clear p33; try clear q33; try clear c38b0; try clear c39b0; try clear p40; try clear q40; try clear hcz16_0; try clear hcz21_0; try clear hcz23_0; try clear hcz25_0; try clear hcz30_0; try clear hfz16_0; try clear hfz21_0; try clear hfz23_0; try clear hfz25_0; try clear hfz30_0; try clear hx33_0; try clear hx40_0
      obtain ⟨x9_3, x14_3, rfl, HA, HK3, HO_4, HO_9, HO_1034000, HO_1050000, BK1033, BK1049, HB⟩ := hrel
      cases gk with
      | zero => exact absurd HA.out (by simp [laws_FnPure.l2])
      | succ k3 =>
       have H := HA.out
       clear HA
       simp only [laws_FnPure.l2] at H
       replace H := gi H; obtain ⟨c45b0, H⟩ | ⟨c45b0, H⟩ := H
       ·replace H := gd H; obtain ⟨c46b0, H⟩ := H
        obtain ⟨y1052, hy1052⟩ : ∃ y_ : List Int, y_ = (x9_3.set (x14_3 : Int).toNat 99) := ⟨_, rfl⟩
        replace H : (laws_FnPure.l2 k3 t1029 ((t1034 ++ (⟨#[32]⟩ : ByteArray)) ++ t1035) y1052 (wrap64 (x14_3 + 1)) t1026 t1045) = some true := by first | (rw [hy1052]; with_reducible first | exact H | exact bs H) | (with_reducible first | exact bs H | exact H) | (rw [hy1052]; exact H) | exact H
        have Ny1052 := am hy1052
        clear hy1052
        have H' := am H
        clear H
        obtain ⟨Ao48, co48, eo48⟩ := Kd.R_slice HO_9.out
        subst eo48
        have p47 : 0 ≤ (x14_3 : Int) := of_decide_eq_true (by first | (with_reducible assumption) | assumption)
        have q47 : (x14_3 : Int) < ((x9_3.length : Int) : Int) := of_decide_eq_true (by first | (with_reducible assumption) | assumption)
        obtain ⟨go47, co47, eo47, gb47, gl47, cl47, HG47⟩ := Kd.R_form HO_9.out (by omega)
        (first | cases eo47 | (injection eo47 with ea_ en_ ec_; (first | subst ea_ | (injection ea_ with ea_; subst ea_)); subst ec_; clear en_))
        have GB47 := am gb47
        have GG47 := am HG47
        clear gb47 gl47 HG47
        obtain ⟨hx47_0, hf47_0⟩ := Kd.R_celln 0 HO_9.out (x14_3 : Int) p47 q47
        replace p47 := eq_true p47
        replace q47 := eq_true q47
        have HP49 := Kd.R_putg HO_9.out (x14_3 : Int) 99
        go_wp2_with (first | ((with_reducible refine gate_store (t := 3) (p := 70) rfl ?_); refine store_event (t := 3) (p := 70) (v := ?vo_w50) (w1 := (wr.setCell ⟨go47, (x14_3 : Int).toNat, none⟩ (.int .i64 99))) ?hg ?ho ?hn ?hr ?_; (case ho => rfl); (case hg => rfl); (case hn => rfl); (case hr => first | (go_simp; done) | (go_simp; rfl)); intro w50 hw; have hg : wr.grownBy w50 (some go47) := (by rw [hw]; exact HP49.2); have hp_ : Kd.R (Kd.int .i64) 3 w50 w.heap.size (fun k_ => nb k_ Ao18 t1029 co18 ∧ nb k_ Ao15 t1026 co15 ∧ nb k_ Ao28 t1045 co28) (.slice (some ⟨go47, 0, none⟩) x9_3.length co48) y1052 := (by rw [hw, Ny1052.out]; exact HP49.1); clear HP49; replace HO_4 := am (Kd.R_after (v := (.slice (some ⟨go47, 0, none⟩) x9_3.length co48)) (v1 := (.slice (some ⟨go47, 0, none⟩) x9_3.length co48)) (ok := (fun k_ => nb k_ Ao15 t1026 co15 ∧ nb k_ Ao28 t1045 co28)) (by (with_reducible repeat (first | apply Kd.R_alloc | apply Kd.R_drewN | apply Kd.R_drew)); exact Kd.R_mono HO_4.out (fun _ hk => ⟨⟨hk.2.1, hk.2.2⟩, hk.1⟩)) hg (.inl rfl)); replace HO_1034000 := am (Kd.Q_after (v := (.slice (some ⟨go47, 0, none⟩) x9_3.length co48)) (v1 := (.slice (some ⟨go47, 0, none⟩) x9_3.length co48)) (ok := (fun k_ => nb k_ Ao18 t1029 co18 ∧ nb k_ Ao28 t1045 co28)) (by (with_reducible repeat (first | apply Kd.Q_alloc | apply Kd.Q_drewN | apply Kd.Q_drew)); exact Kd.Q_mono HO_1034000.out (fun _ hk => ⟨⟨hk.1, hk.2.2⟩, hk.2.1⟩)) hg (.inl rfl)); replace HO_1050000 := am (Kd.Q_after (v := (.slice (some ⟨go47, 0, none⟩) x9_3.length co48)) (v1 := (.slice (some ⟨go47, 0, none⟩) x9_3.length co48)) (ok := (fun k_ => nb k_ Ao18 t1029 co18 ∧ nb k_ Ao15 t1026 co15)) (by (with_reducible repeat (first | apply Kd.Q_alloc | apply Kd.Q_drewN | apply Kd.Q_drew)); exact Kd.Q_mono HO_1050000.out (fun _ hk => ⟨⟨hk.1, hk.2.2⟩, hk.2.1⟩)) hg (.inl rfl)); replace BK1033 := am (blk_grown (g := gb1033) (o := .cells #[.slice Ao15 t1026.length co15] 26 (0, 0)) (bo BK1033.out) hg (Kd.R_ne HO_9.out BK1033.out (by decide))); replace BK1049 := am (blk_grown (g := gb1049) (o := .cells #[.slice Ao28 t1045.length co28] 26 (0, 0)) (bo BK1049.out) hg (Kd.R_ne HO_9.out BK1049.out (by decide))); replace HO_9 := am (hp_); replace HB := am ((by rw [hw]; exact below_set (HB.out) GB47.out : Below w.heap.size w w50)); clear hg hw hp_))
        go_roundg k3
        case measure => have := HK1.out; have := HK2.out; have := HK3.out; omega
        case rel => exact ⟨(y1052), (wrap64 (x14_3 + 1)), rr, H', ⟨by have := HK1.out; have := HK2.out; have := HK3.out; omega⟩, ⟨by (with_reducible repeat (first | apply Kd.R_alloc | apply Kd.R_drewN | apply Kd.R_drew)); exact Kd.R_mono HO_4.out (fun _ hk => ⟨hk.2, ⟨hk.1.1, hk.1.2⟩⟩)⟩, ⟨ro HO_9.out⟩, ⟨by (with_reducible repeat (first | apply Kd.Q_alloc | apply Kd.Q_drewN | apply Kd.Q_drew)); exact Kd.Q_mono HO_1034000.out (fun _ hk => ⟨hk.1.1, ⟨hk.2, hk.1.2⟩⟩)⟩, ⟨by (with_reducible repeat (first | apply Kd.Q_alloc | apply Kd.Q_drewN | apply Kd.Q_drew)); exact Kd.Q_mono HO_1050000.out (fun _ hk => ⟨hk.1.1, ⟨hk.2, hk.1.2⟩⟩)⟩, ⟨bo BK1033.out⟩, ⟨bo BK1049.out⟩, ⟨bw⟩⟩
       have H' := am H
       clear H
       obtain ⟨Ao51, co51, eo51⟩ := Kd.R_slice HO_9.out
       subst eo51
       go_wp2
       go_loopg [15] k3 (fun kq v15 w' => ∃ (x4_4 : List Int) (x15_4 : Int) (x1034000_4 : List Int) (x1050000_4 : List Int) (u1034000 : Value) (u1050000 : Value), v15 = .int .i64 x15_4 ∧ Aside0 (laws_FnPure.l3 kq x4_4 ((t1034 ++ (⟨#[32]⟩ : ByteArray)) ++ t1035) x15_4 x1034000_4 x1050000_4 = some true) ∧ Aside0 (kq ≤ k3) ∧ Aside0 (Kd.R (Kd.int .i64) 3 w' w.heap.size (fun k_ => some k_ ≠ (u1034000 : Value).ownBlock ∧ some k_ ≠ (u1050000 : Value).ownBlock) (.slice Ao18 t1029.length co18) x4_4) ∧ Aside0 (Kd.Q (Kd.int .i64) 3 w' w.heap.size (fun k_ => nb k_ Ao18 t1029 co18 ∧ some k_ ≠ (u1050000 : Value).ownBlock) u1034000 x1034000_4) ∧ Aside0 (Kd.Q (Kd.int .i64) 3 w' w.heap.size (fun k_ => nb k_ Ao18 t1029 co18 ∧ some k_ ≠ (u1034000 : Value).ownBlock) u1050000 x1050000_4) ∧ Aside0 (w'.heap[gb1033]? = some (.cells #[u1034000] 26 (0, 0))) ∧ Aside0 (w'.heap[gb1049]? = some (.cells #[u1050000] 26 (0, 0))) ∧ Aside0 (Below w.heap.size w w'))
       case atStart => exact ⟨(t1029), (0), (t1026), (t1045), (.slice Ao15 t1026.length co15), (.slice Ao28 t1045.length co28), rr, H', ⟨Nat.le_refl _⟩, ⟨by (with_reducible repeat (first | apply Kd.R_alloc | apply Kd.R_drewN | apply Kd.R_drew)); exact Kd.R_mono HO_4.out (fun _ hk => by first | exact ⟨hk.2.1, hk.2.2⟩ | simp_all)⟩, ⟨by (with_reducible repeat (first | apply Kd.Q_alloc | apply Kd.Q_drewN | apply Kd.Q_drew)); exact Kd.Q_mono HO_1034000.out (fun _ hk => by first | exact ⟨hk.1, hk.2.2⟩ | simp_all)⟩, ⟨by (with_reducible repeat (first | apply Kd.Q_alloc | apply Kd.Q_drewN | apply Kd.Q_drew)); exact Kd.Q_mono HO_1050000.out (fun _ hk => by first | exact ⟨hk.1, hk.2.2⟩ | simp_all)⟩, ⟨bo BK1033.out⟩, ⟨bo BK1049.out⟩, ⟨bw⟩⟩
       case round =>
        clear H'
        try clear c3; try clear c6; try clear c6b0; try clear c6b1; try clear c6b2; try clear c8; try clear c8b0; try clear c8b1; try clear c8b2; try clear c31b0; try clear c32b0; try clear p33; try clear q33; try clear c38b0; try clear c39b0; try clear p40; try clear q40; try clear c45b0; try clear c46b0; try clear p47; try clear q47; try clear hcz16_0; try clear hcz21_0; try clear hcz23_0; try clear hcz25_0; try clear hcz30_0; try clear hfz16_0; try clear hfz21_0; try clear hfz23_0; try clear hfz25_0; try clear hfz30_0; try clear hx33_0; try clear hx40_0; try clear hx47_0
        obtain ⟨x4_4, x15_4, x1034000_4, x1050000_4, u1034000, u1050000, rfl, HA, HK4, HO_4, HO_1034000, HO_1050000, BK1033, BK1049, HB⟩ := hrel
        have hl4_4 := (Kd.R_reads' HO_4.out).1
        rw [hl4_4] at HO_4
        (try simp only [nb, hl4_4])
        (try simp only [nb, hl4_4] at BK1033)
        (try simp only [nb, hl4_4] at BK1049)
        (try simp only [nb, hl4_4] at HO_1034000)
        (try simp only [nb, hl4_4] at HO_1050000)
        cases gk with
        | zero => exact absurd HA.out (by simp [laws_FnPure.l3])
        | succ k4 =>
         have H := HA.out
         clear HA
         simp only [laws_FnPure.l3] at H
         by_cases c52 : x15_4 < (x1050000_4.length : Int)
         ·rw [if_pos c52] at H
          have c52b0 : decide (x15_4 < (x1050000_4.length : Int)) = true := decide_eq_true c52
          (try simp only [nb, hl4_4] at c52b0)
          clear c52
          replace H := gd H; obtain ⟨c53b0, H⟩ := H
          obtain ⟨y1053, hy1053⟩ : ∃ y_ : List Int, y_ = (x1050000_4.set (x15_4 : Int).toNat 99) := ⟨_, rfl⟩
          replace H : (laws_FnPure.l3 k4 x4_4 ((t1034 ++ (⟨#[32]⟩ : ByteArray)) ++ t1035) (wrap64 (x15_4 + 1)) x1034000_4 y1053) = some true := by first | (rw [hy1053]; with_reducible first | exact H | exact bs H) | (with_reducible first | exact bs H | exact H) | (rw [hy1053]; exact H) | exact H
          have Ny1053 := am hy1053
          clear hy1053
          have H' := am H
          clear H
          have hnb55 := NB1049_1033.out
          have hnc55 := NB1033_1049.out
          have hcz56_0 := bc BK1049 0 (u1050000)
          have hfz56_0 := blk_frozen BK1049.out 0
          obtain ⟨Ao57, co57, eo57, _⟩ := Kd.Q_slice HO_1050000.out
          subst eo57
          have p54 : 0 ≤ (x15_4 : Int) := of_decide_eq_true (by first | (with_reducible assumption) | assumption)
          have q54 : (x15_4 : Int) < ((x1050000_4.length : Int) : Int) := of_decide_eq_true (by first | (with_reducible assumption) | assumption)
          obtain ⟨go54, oo54, co54, eo54, gb54, gl54, cl54, HG54⟩ := Kd.Q_form HO_1050000.out (by omega)
          (first | cases eo54 | (injection eo54 with ea_ en_ ec_; (first | subst ea_ | (injection ea_ with ea_; subst ea_)); subst ec_; clear en_))
          have GB54 := am gb54
          have GG54 := am HG54
          clear gb54 gl54 HG54
          obtain ⟨hx54_0, hf54_0⟩ := Kd.Q_cell 0 HO_1050000.out (x15_4 : Int) p54 q54
          replace p54 := eq_true p54
          replace q54 := eq_true q54
          have HP58 := Kd.Q_putg HO_1050000.out (x15_4 : Int) (of_decide_eq_true (by first | (with_reducible assumption) | assumption)) (by have h_ : (x15_4 : Int) < ((x1050000_4.length : Int) : Int) := of_decide_eq_true (by first | (with_reducible assumption) | assumption); first | exact h_ | (have e_ := (Kd.Q_reads' HO_1050000.out).1; omega) | simpa using h_) 99
          go_wp2_with (first | ((with_reducible refine gate_store (t := 3) (p := 81) rfl ?_); refine store_event (t := 3) (p := 81) (v := ?vo_w59) (w1 := (wr.setCell ⟨go54, oo54 + (x15_4 : Int).toNat, none⟩ (.int .i64 99))) ?hg ?ho ?hn ?hr ?_; (case ho => rfl); (case hg => rfl); (case hn => rfl); (case hr => first | (go_simp; done) | (go_simp; rfl)); intro w59 hw; have hg : wr.grownBy w59 (some go54) := (by rw [hw]; exact HP58.2); have hp_ : Kd.Q (Kd.int .i64) 3 w59 w.heap.size (fun k_ => nb k_ Ao18 x4_4 co18 ∧ some k_ ≠ (u1034000 : Value).ownBlock) (.slice (some ⟨go54, oo54, none⟩) x1050000_4.length co57) y1053 := (by rw [hw, Ny1053.out]; exact HP58.1); clear HP58; replace HO_4 := am (Kd.R_after (v := (.slice (some ⟨go54, oo54, none⟩) x1050000_4.length co57)) (v1 := (.slice (some ⟨go54, oo54, none⟩) x1050000_4.length co57)) (ok := (fun k_ => some k_ ≠ (u1034000 : Value).ownBlock)) (ro HO_4.out) hg (.inl rfl)); replace HO_1034000 := am (Kd.Q_after (v := (.slice (some ⟨go54, oo54, none⟩) x1050000_4.length co57)) (v1 := (.slice (some ⟨go54, oo54, none⟩) x1050000_4.length co57)) (ok := (fun k_ => nb k_ Ao18 x4_4 co18)) (qo HO_1034000.out) hg (.inl rfl)); replace BK1033 := am (blk_grown (g := gb1033) (o := .cells #[u1034000] 26 (0, 0)) (bo BK1033.out) hg (Kd.Q_ne HO_1050000.out BK1033.out (by decide))); replace BK1049 := am (blk_grown (g := gb1049) (o := .cells #[.slice (some ⟨go54, oo54, none⟩) x1050000_4.length co57] 26 (0, 0)) (bo BK1049.out) hg (Kd.Q_ne HO_1050000.out BK1049.out (by decide))); replace HO_1050000 := am (hp_); replace HB := am ((by rw [hw]; exact below_set (HB.out) GB54.out : Below w.heap.size w w59)); clear hg hw hp_))
          (try simp only [nb, ← hl4_4])
          go_roundg k4
          case measure => have := HK1.out; have := HK2.out; have := HK3.out; have := HK4.out; omega
          case rel => exact ⟨(x4_4), (wrap64 (x15_4 + 1)), (x1034000_4), (y1053), (u1034000), (.slice (some ⟨go54, oo54, none⟩) x1050000_4.length co57), rr, H', ⟨by have := HK1.out; have := HK2.out; have := HK3.out; have := HK4.out; omega⟩, ⟨by (try simp only [nb, hl4_4]); (with_reducible repeat (first | apply Kd.R_alloc | apply Kd.R_drewN | apply Kd.R_drew)); exact HO_4.out⟩, ⟨by (try simp only [nb, hl4_4]); (with_reducible repeat (first | apply Kd.Q_alloc | apply Kd.Q_drewN | apply Kd.Q_drew)); exact HO_1034000.out⟩, ⟨by (try simp only [nb, hl4_4]); (with_reducible repeat (first | apply Kd.Q_alloc | apply Kd.Q_drewN | apply Kd.Q_drew)); exact HO_1050000.out⟩, ⟨by (try simp only [nb, hl4_4]); (with_reducible repeat (first | refine blk_drewN ?_ _ | refine blk_drew ?_ | refine blk_alloc ?_ _)); exact BK1033.out⟩, ⟨by (try simp only [nb, hl4_4]); (with_reducible repeat (first | refine blk_drewN ?_ _ | refine blk_drew ?_ | refine blk_alloc ?_ _)); exact BK1049.out⟩, ⟨bw⟩⟩
         rw [if_neg c52] at H
         have c52b0 : decide (x15_4 < (x1050000_4.length : Int)) = false := decide_eq_false c52
         (try simp only [nb, hl4_4] at c52b0)
         clear c52
         replace H := ga H; obtain ⟨t1054, A60, H⟩ := H
         by_cases c61 : t1054.size + 1 ≤ 9223372036854775807
         rotate_left
         ·rw [if_neg c61] at H
          exact absurd H (by simp)
         rw [if_pos c61] at H
         have c61b0 := eq_true c61
         have c61b1 : decide (t1054.size + 1 ≤ 9223372036854775807) = true := decide_eq_true c61
         try have c61b2 : (9223372036854775807 < t1054.size + 1) = False := eq_false (Nat.not_lt.2 c61)
         replace H := ga H; obtain ⟨t1055, A62, H⟩ := H
         by_cases c63 : (t1054 ++ (⟨#[32]⟩ : ByteArray)).size + t1055.size ≤ 9223372036854775807
         rotate_left
         ·rw [if_neg c63] at H
          exact absurd H (by simp)
         rw [if_pos c63] at H
         have c63b7 : t1054.size + 1 + t1055.size ≤ 9223372036854775807 := by have q_ := c63; rw [ByteArray.size_append] at q_; exact q_
         have c63b0 := eq_true c63
         have c63b1 : decide ((t1054 ++ (⟨#[32]⟩ : ByteArray)).size + t1055.size ≤ 9223372036854775807) = true := decide_eq_true c63
         try have c63b2 : (9223372036854775807 < (t1054 ++ (⟨#[32]⟩ : ByteArray)).size + t1055.size) = False := eq_false (Nat.not_lt.2 c63)
         by_cases c64 : ((t1054 ++ (⟨#[32]⟩ : ByteArray)) ++ t1055).toList = ((t1034 ++ (⟨#[32]⟩ : ByteArray)) ++ t1035).toList
         ·rw [if_pos c64] at H
          have c64b0 : (((t1054 ++ (⟨#[32]⟩ : ByteArray)) ++ t1055).toList == ((t1034 ++ (⟨#[32]⟩ : ByteArray)) ++ t1035).toList) = true := beq_iff_eq.mpr c64
          have c64b1 : (((t1054 ++ (⟨#[32]⟩ : ByteArray)) ++ t1055).toList != ((t1034 ++ (⟨#[32]⟩ : ByteArray)) ++ t1035).toList) = false := bne_eq_false_iff_eq.mpr c64
          clear c64
          replace H := ga H; obtain ⟨t1056, A65, H⟩ := H
          replace H := ga H; obtain ⟨t1059, A66, H⟩ := H
          replace H := ga H; obtain ⟨t1062, A67, H⟩ := H
          replace H := gb H; obtain ⟨rfl, H⟩ | ⟨rfl, H⟩ := H
          ·replace H := ga H; obtain ⟨t1063, A69, H⟩ := H
           replace H := ga H; obtain ⟨t1066, A70, H⟩ := H
           replace H := ga H; obtain ⟨t1069, A71, H⟩ := H
           replace H := gb H; obtain ⟨rfl, H⟩ | ⟨rfl, H⟩ := H
           ·replace H := ga H; obtain ⟨t1070, A73, H⟩ := H
            replace H := ga H; obtain ⟨t1073, A74, H⟩ := H
            replace H := ga H; obtain ⟨t1076, A75, H⟩ := H
            have HRE_ := Option.some.inj H
            have hnb76 := NB1049_1033.out
            have hnc76 := NB1033_1049.out
            have hcz77_0 := bc BK1049 0 (u1050000)
            have hfz77_0 := blk_frozen BK1049.out 0
            obtain ⟨Ao78, co78, eo78, _⟩ := Kd.Q_slice HO_1050000.out
            subst eo78
            try go_wp2
            replace HO_4 := am (Kd.R_drew HO_4.out)
            replace HO_1034000 := am (Kd.Q_drew HO_1034000.out)
            replace HO_1050000 := am (Kd.Q_drew HO_1050000.out)
            replace BK1033 := bd BK1033
            replace BK1049 := bd BK1049
            replace HB := am (below_drew1 HB.out)
            obtain ⟨Ao80, co80, eo80, _⟩ := Kd.Q_slice HO_1034000.out
            (first | subst eo80 | (injection eo80 with f1_ f2_ f3_; have f4_ := f1_.symm; have f5_ := f3_.symm; clear f1_ f2_ f3_; subst f4_; subst f5_))
            refine start_ (n := 33) (S := fun w' => w'.cell? ⟨gb1033, 0, none⟩ = some (.slice Ao80 x1034000_4.length co80)) (ds := []) (yz 33 0) (by kernel_rfl) rfl rfl (bc BK1033 0 _) (fun hHeld => ?_); refine with_tabW laws_FnPure.tab25 laws_FnPure.bits25 (fun HT_ HW_ => ?_)
            generalize wr.drew = w79 at HO_4 HO_1034000 HO_1050000 BK1033 BK1049 HB hHeld ⊢
            refine pa 0 (some 82) (yz 33 1) HT_ ?_
            refine pa 4 (some 86) (yz 33 17) HT_ ?_
            refine pa 7 (some 89) (yz 33 145) HT_ ?_
            refine tK 1 (some 83) (yz 33 147) HT_ HW_ hHeld ?_
            refine oa 2 (some 84) (yz 33 151) HT_ (fun K hK => ?_)
            refine gm Try.func88 #[.slice Ao80 x1034000_4.length co80] ?_
            with_reducible refine (spec_ListText.calls k4 _ _ x1034000_4 t1054 _ ?side1 ?side2 A60.out).mono ?_
            (case side1 => exact co (Kd.Q_reads' HO_1034000.out).2.2)
            (case side2 => exact (Kd.Q_reads' HO_1034000.out).2.1)
            rintro e w81 ⟨rfl, hb⟩
            refine ⟨_, rfl, ?_⟩
            replace HO_4 := rK HO_4 hb
            replace HO_1034000 := qK HO_1034000 hb
            replace HO_1050000 := qK HO_1050000 hb
            replace BK1033 := kb BK1033 hb
            replace BK1049 := kb BK1049 hb
            replace HB := am (below_step bw hb)
            clear hb
            refine hK.out _ _ (bc BK1033 0 _) (fun hHeld => ?_)
            clear hK K
            refine nm (some 84) ?_
            refine pa 3 (some 85) (yz 33 159) HT_ ?_
            refine oa 5 (some 87) (yz 33 191) HT_ (fun K hK => ?_)
            refine gm Try.func88 #[.slice Ao18 x4_4.length co18] ?_
            with_reducible refine (spec_ListText.calls k4 _ _ x4_4 t1055 _ ?side1 ?side2 A62.out).mono ?_
            (case side1 => exact co (Kd.R_reads' HO_4.out).2.2)
            (case side2 => exact (Kd.R_reads' HO_4.out).2.1)
            rintro e w82 ⟨rfl, hb⟩
            refine ⟨_, rfl, ?_⟩
            replace HO_4 := rK HO_4 hb
            replace HO_1034000 := qK HO_1034000 hb
            replace HO_1050000 := qK HO_1050000 hb
            replace BK1033 := kb BK1033 hb
            replace BK1049 := kb BK1049 hb
            replace HB := am (below_step bw hb)
            clear hb
            refine hK.out _ _ (bc BK1033 0 _) (fun hHeld => ?_)
            clear hK K
            refine nm (some 87) ?_
            refine pa 6 (some 88) (yz 33 255) HT_ ?_
            refine pa 8 (some 90) (yz 33 511) HT_ ?_
            refine pa 9 (some 91) (yz 33 1023) HT_ ?_
            refine pa 10 (some 92) (yz 33 2047) HT_ ?_
            refine pa 12 (some 94) (yz 33 6143) HT_ ?_
            refine oa 11 (some 93) (yz 33 8191) HT_ (fun K hK => ?_)
            refine gm Try.func89 #[.slice Ao18 x4_4.length co18] ?_
            with_reducible refine (impl_SortList.calls _ _ x4_4 t1056 _ ?side1 ?side2 A65.out).mono ?_
            (case side1 => exact co (Kd.R_reads' HO_4.out).2.2)
            (case side2 => exact (Kd.R_reads' HO_4.out).2.1)
            rintro e w83 ⟨v1057, rfl, ho0, hb⟩
            refine ⟨_, rfl, ?_⟩
            have HO1058 := am (Kd.R_lower (Kd.R_new' (Kd.R_new' (Kd.R_new' ho0 (Kd.R_lt (ro HO_4.out))) (Kd.Q_lt (qo HO_1034000.out))) (Kd.Q_lt (qo HO_1050000.out))) (below_size bw))
            replace HO_4 := am (Kd.R_elder' (ro HO_4.out) (Kd.R_base ho0) hb)
            replace HO_1034000 := am (Kd.Q_elder' (qo HO_1034000.out) (Kd.R_base ho0) hb)
            replace HO_1050000 := am (Kd.Q_elder' (qo HO_1050000.out) (Kd.R_base ho0) hb)
            replace BK1033 := kb BK1033 hb
            replace BK1049 := kb BK1049 hb
            replace HB := am (below_step bw hb)
            clear hb ho0
            refine hK.out _ _ (bc BK1033 0 _) (fun hHeld => ?_)
            clear hK K
            refine nm (some 93) ?_
            refine oa 13 (some 95) (yz 33 16383) HT_ (fun K hK => ?_)
            refine gm Try.func93 #[.slice Ao18 x4_4.length co18] ?_
            with_reducible refine (spec_SortList.calls k4 _ _ x4_4 t1059 _ ?side1 ?side2 A66.out).mono ?_
            (case side1 => exact co (Kd.R_reads' HO_4.out).2.2)
            (case side2 => exact (Kd.R_reads' HO_4.out).2.1)
            rintro e w84 ⟨v1060, rfl, ho0, hb⟩
            refine ⟨_, rfl, ?_⟩
            have HO1061 := am (Kd.R_lower (Kd.R_new' (Kd.R_new' (Kd.R_new' (Kd.R_new' ho0 (Kd.R_lt (ro HO_4.out))) (Kd.Q_lt (qo HO_1034000.out))) (Kd.Q_lt (qo HO_1050000.out))) (Kd.R_lt (ro HO1058.out))) (below_size bw))
            replace HO_4 := am (Kd.R_elder' (ro HO_4.out) (Kd.R_base ho0) hb)
            replace HO_1034000 := am (Kd.Q_elder' (qo HO_1034000.out) (Kd.R_base ho0) hb)
            replace HO_1050000 := am (Kd.Q_elder' (qo HO_1050000.out) (Kd.R_base ho0) hb)
            replace HO1058 := am (Kd.R_elder' (ro HO1058.out) (Kd.R_base ho0) hb)
            replace BK1033 := kb BK1033 hb
            replace BK1049 := kb BK1049 hb
            replace HB := am (below_step bw hb)
            clear hb ho0
            obtain ⟨Ao85, co85, eo85⟩ := Kd.R_slice HO1058.out
            (first | subst eo85 | (injection eo85 with f1_ f2_ f3_; have f4_ := f1_.symm; have f5_ := f3_.symm; clear f1_ f2_ f3_; subst f4_; subst f5_))
            obtain ⟨Ao86, co86, eo86⟩ := Kd.R_slice HO1061.out
            (first | subst eo86 | (injection eo86 with f1_ f2_ f3_; have f4_ := f1_.symm; have f5_ := f3_.symm; clear f1_ f2_ f3_; subst f4_; subst f5_))
            refine hK.out _ _ (bc BK1033 0 _) (fun hHeld => ?_)
            clear hK K
            refine nm (some 95) ?_
            refine oa 14 (some 96) (yz 33 32767) HT_ (fun K hK => ?_)
            refine gm Try.func20 #[.slice Ao85 t1056.length co85, .slice Ao86 t1059.length co86] ?_
            with_reducible refine (laws_sameInts.calls k4 _ _ t1056 _ _ t1059 true _ ?side1 ?side2 ?side3 ?side4 A67.out).mono ?_
            (case side1 => exact co (Kd.R_reads' HO1058.out).2.2)
            (case side2 => exact (Kd.R_reads' HO1058.out).2.1)
            (case side3 => exact co (Kd.R_reads' HO1061.out).2.2)
            (case side4 => exact (Kd.R_reads' HO1061.out).2.1)
            rintro e w' ⟨rfl, ⟨nd, rfl⟩⟩
            refine ⟨_, rfl, ?_⟩
            refine hK.out _ _ (bc BK1033 0 _) (fun hHeld => ?_)
            clear hK K
            refine nm (some 96) ?_
            refine pa 15 (some 97) (yz 33 65535) HT_ ?_
            refine pa 16 (some 98) (yz 33 131071) HT_ ?_
            refine tK 17 (some 99) (yz 33 262143) HT_ HW_ hHeld ?_
            refine tK 19 (some 101) (yz 33 786431) HT_ HW_ hHeld ?_
            refine oa 18 (some 100) (yz 33 1048575) HT_ (fun K hK => ?_)
            refine gm Try.func90 #[.agg #[.slice Ao80 x1034000_4.length co80]] ?_
            with_reducible refine (impl_Gaps.calls k4 _ _ x1034000_4 t1063 _ ?side1 ?side2 A69.out).mono ?_
            (case side1 => exact co (Kd.Q_reads' HO_1034000.out).2.2)
            (case side2 => exact (Kd.Q_reads' HO_1034000.out).2.1)
            rintro e w87 ⟨v1064, rfl, ho0, hb⟩
            refine ⟨_, rfl, ?_⟩
            have HO1065 := am (Kd.R_lower (Kd.R_new' (Kd.R_new' (Kd.R_new' (Kd.R_new' (Kd.R_new' ho0 (Kd.R_lt (ro HO_4.out))) (Kd.Q_lt (qo HO_1034000.out))) (Kd.Q_lt (qo HO_1050000.out))) (Kd.R_lt (ro HO1058.out))) (Kd.R_lt (ro HO1061.out))) (below_size bw))
            replace HO_4 := am (Kd.R_elder' (ro HO_4.out) (Kd.R_base ho0) hb)
            replace HO_1034000 := am (Kd.Q_elder' (qo HO_1034000.out) (Kd.R_base ho0) hb)
            replace HO_1050000 := am (Kd.Q_elder' (qo HO_1050000.out) (Kd.R_base ho0) hb)
            replace HO1058 := am (Kd.R_elder' (ro HO1058.out) (Kd.R_base ho0) hb)
            replace HO1061 := am (Kd.R_elder' (ro HO1061.out) (Kd.R_base ho0) hb)
            replace BK1033 := kb BK1033 hb
            replace BK1049 := kb BK1049 hb
            replace HB := am (below_step bw hb)
            clear hb ho0
            refine hK.out _ _ (bc BK1033 0 _) (fun hHeld => ?_)
            clear hK K
            refine nm (some 100) ?_
            refine oa 20 (some 102) (yz 33 2097151) HT_ (fun K hK => ?_)
            refine gm Try.func94 #[.agg #[.slice Ao80 x1034000_4.length co80]] ?_
            with_reducible refine (spec_Gaps.calls k4 _ _ x1034000_4 t1066 _ ?side1 ?side2 A70.out).mono ?_
            (case side1 => exact co (Kd.Q_reads' HO_1034000.out).2.2)
            (case side2 => exact (Kd.Q_reads' HO_1034000.out).2.1)
            rintro e w88 ⟨v1067, rfl, ho0, hb⟩
            refine ⟨_, rfl, ?_⟩
            have HO1068 := am (Kd.R_lower (Kd.R_new' (Kd.R_new' (Kd.R_new' (Kd.R_new' (Kd.R_new' (Kd.R_new' ho0 (Kd.R_lt (ro HO_4.out))) (Kd.Q_lt (qo HO_1034000.out))) (Kd.Q_lt (qo HO_1050000.out))) (Kd.R_lt (ro HO1058.out))) (Kd.R_lt (ro HO1061.out))) (Kd.R_lt (ro HO1065.out))) (below_size bw))
            replace HO_4 := am (Kd.R_elder' (ro HO_4.out) (Kd.R_base ho0) hb)
            replace HO_1034000 := am (Kd.Q_elder' (qo HO_1034000.out) (Kd.R_base ho0) hb)
            replace HO_1050000 := am (Kd.Q_elder' (qo HO_1050000.out) (Kd.R_base ho0) hb)
            replace HO1058 := am (Kd.R_elder' (ro HO1058.out) (Kd.R_base ho0) hb)
            replace HO1061 := am (Kd.R_elder' (ro HO1061.out) (Kd.R_base ho0) hb)
            replace HO1065 := am (Kd.R_elder' (ro HO1065.out) (Kd.R_base ho0) hb)
            replace BK1033 := kb BK1033 hb
            replace BK1049 := kb BK1049 hb
            replace HB := am (below_step bw hb)
            clear hb ho0
            obtain ⟨Ao89, co89, eo89⟩ := Kd.R_slice HO1065.out
            (first | subst eo89 | (injection eo89 with f1_ f2_ f3_; have f4_ := f1_.symm; have f5_ := f3_.symm; clear f1_ f2_ f3_; subst f4_; subst f5_))
            obtain ⟨Ao90, co90, eo90⟩ := Kd.R_slice HO1068.out
            (first | subst eo90 | (injection eo90 with f1_ f2_ f3_; have f4_ := f1_.symm; have f5_ := f3_.symm; clear f1_ f2_ f3_; subst f4_; subst f5_))
            refine hK.out _ _ (bc BK1033 0 _) (fun hHeld => ?_)
            clear hK K
            refine nm (some 102) ?_
            refine oa 21 (some 103) (yz 33 4194303) HT_ (fun K hK => ?_)
            refine gm Try.func20 #[.slice Ao89 t1063.length co89, .slice Ao90 t1066.length co90] ?_
            with_reducible refine (laws_sameInts.calls k4 _ _ t1063 _ _ t1066 true _ ?side1 ?side2 ?side3 ?side4 A71.out).mono ?_
            (case side1 => exact co (Kd.R_reads' HO1065.out).2.2)
            (case side2 => exact (Kd.R_reads' HO1065.out).2.1)
            (case side3 => exact co (Kd.R_reads' HO1068.out).2.2)
            (case side4 => exact (Kd.R_reads' HO1068.out).2.1)
            rintro e w' ⟨rfl, ⟨nd, rfl⟩⟩
            refine ⟨_, rfl, ?_⟩
            refine hK.out _ _ (bc BK1033 0 _) (fun hHeld => ?_)
            clear hK K
            refine nm (some 103) ?_
            refine pa 22 (some 104) (yz 33 8388607) HT_ ?_
            refine pa 23 (some 105) (yz 33 16777215) HT_ ?_
            refine pa 25 (some 107) (yz 33 50331647) HT_ ?_
            refine pa 28 (some 110) (yz 33 318767103) HT_ ?_
            refine tK 24 (some 106) (yz 33 335544319) HT_ HW_ hHeld ?_
            refine tK 27 (some 109) (yz 33 469762047) HT_ HW_ hHeld ?_
            refine oa 26 (some 108) (yz 33 536870911) HT_ (fun K hK => ?_)
            refine gm Try.func91 #[.agg #[.slice Ao80 x1034000_4.length co80], .slice Ao18 x4_4.length co18] ?_
            with_reducible refine (impl_IdealGens.calls k4 _ _ x1034000_4 _ _ x4_4 t1070 _ ?side1 ?side2 ?side3 ?side4 A73.out).mono ?_
            (case side1 => exact co (Kd.Q_reads' HO_1034000.out).2.2)
            (case side2 => exact (Kd.Q_reads' HO_1034000.out).2.1)
            (case side3 => exact co (Kd.R_reads' HO_4.out).2.2)
            (case side4 => exact (Kd.R_reads' HO_4.out).2.1)
            rintro e w91 ⟨v1071, rfl, ho0, hb⟩
            refine ⟨_, rfl, ?_⟩
            have HO1072 := am (Kd.R_lower (Kd.R_new' (Kd.R_new' (Kd.R_new' (Kd.R_new' (Kd.R_new' (Kd.R_new' (Kd.R_new' ho0 (Kd.R_lt (ro HO_4.out))) (Kd.Q_lt (qo HO_1034000.out))) (Kd.Q_lt (qo HO_1050000.out))) (Kd.R_lt (ro HO1058.out))) (Kd.R_lt (ro HO1061.out))) (Kd.R_lt (ro HO1065.out))) (Kd.R_lt (ro HO1068.out))) (below_size bw))
            replace HO_4 := am (Kd.R_elder' (ro HO_4.out) (Kd.R_base ho0) hb)
            replace HO_1034000 := am (Kd.Q_elder' (qo HO_1034000.out) (Kd.R_base ho0) hb)
            replace HO_1050000 := am (Kd.Q_elder' (qo HO_1050000.out) (Kd.R_base ho0) hb)
            replace HO1058 := am (Kd.R_elder' (ro HO1058.out) (Kd.R_base ho0) hb)
            replace HO1061 := am (Kd.R_elder' (ro HO1061.out) (Kd.R_base ho0) hb)
            replace HO1065 := am (Kd.R_elder' (ro HO1065.out) (Kd.R_base ho0) hb)
            replace HO1068 := am (Kd.R_elder' (ro HO1068.out) (Kd.R_base ho0) hb)
            replace BK1033 := kb BK1033 hb
            replace BK1049 := kb BK1049 hb
            replace HB := am (below_step bw hb)
            clear hb ho0
            refine hK.out _ _ (bc BK1033 0 _) (fun hHeld => ?_)
            clear hK K
            refine nm (some 108) ?_
            refine oa 29 (some 111) (yz 33 1073741823) HT_ (fun K hK => ?_)
            refine gm Try.func95 #[.agg #[.slice Ao80 x1034000_4.length co80], .slice Ao18 x4_4.length co18] ?_
            with_reducible refine (spec_IdealGens.calls k4 _ _ x1034000_4 _ _ x4_4 t1073 _ ?side1 ?side2 ?side3 ?side4 A74.out).mono ?_
            (case side1 => exact co (Kd.Q_reads' HO_1034000.out).2.2)
            (case side2 => exact (Kd.Q_reads' HO_1034000.out).2.1)
            (case side3 => exact co (Kd.R_reads' HO_4.out).2.2)
            (case side4 => exact (Kd.R_reads' HO_4.out).2.1)
            rintro e w92 ⟨v1074, rfl, ho0, hb⟩
            refine ⟨_, rfl, ?_⟩
            have HO1075 := am (Kd.R_lower (Kd.R_new' (Kd.R_new' (Kd.R_new' (Kd.R_new' (Kd.R_new' (Kd.R_new' (Kd.R_new' (Kd.R_new' ho0 (Kd.R_lt (ro HO_4.out))) (Kd.Q_lt (qo HO_1034000.out))) (Kd.Q_lt (qo HO_1050000.out))) (Kd.R_lt (ro HO1058.out))) (Kd.R_lt (ro HO1061.out))) (Kd.R_lt (ro HO1065.out))) (Kd.R_lt (ro HO1068.out))) (Kd.R_lt (ro HO1072.out))) (below_size bw))
            replace HO_4 := am (Kd.R_elder' (ro HO_4.out) (Kd.R_base ho0) hb)
            replace HO_1034000 := am (Kd.Q_elder' (qo HO_1034000.out) (Kd.R_base ho0) hb)
            replace HO_1050000 := am (Kd.Q_elder' (qo HO_1050000.out) (Kd.R_base ho0) hb)
            replace HO1058 := am (Kd.R_elder' (ro HO1058.out) (Kd.R_base ho0) hb)
            replace HO1061 := am (Kd.R_elder' (ro HO1061.out) (Kd.R_base ho0) hb)
            replace HO1065 := am (Kd.R_elder' (ro HO1065.out) (Kd.R_base ho0) hb)
            replace HO1068 := am (Kd.R_elder' (ro HO1068.out) (Kd.R_base ho0) hb)
            replace HO1072 := am (Kd.R_elder' (ro HO1072.out) (Kd.R_base ho0) hb)
            replace BK1033 := kb BK1033 hb
            replace BK1049 := kb BK1049 hb
            replace HB := am (below_step bw hb)
            clear hb ho0
            obtain ⟨Ao93, co93, eo93⟩ := Kd.R_slice HO1072.out
            (first | subst eo93 | (injection eo93 with f1_ f2_ f3_; have f4_ := f1_.symm; have f5_ := f3_.symm; clear f1_ f2_ f3_; subst f4_; subst f5_))
            obtain ⟨Ao94, co94, eo94⟩ := Kd.R_slice HO1075.out
            (first | subst eo94 | (injection eo94 with f1_ f2_ f3_; have f4_ := f1_.symm; have f5_ := f3_.symm; clear f1_ f2_ f3_; subst f4_; subst f5_))
            refine hK.out _ _ (bc BK1033 0 _) (fun hHeld => ?_)
            clear hK K
            refine nm (some 111) ?_
            refine oa 30 (some 112) (yz 33 2147483647) HT_ (fun K hK => ?_)
            refine gm Try.func20 #[.slice Ao93 t1070.length co93, .slice Ao94 t1073.length co94] ?_
            with_reducible refine (laws_sameInts.calls k4 _ _ t1070 _ _ t1073 t1076 _ ?side1 ?side2 ?side3 ?side4 A75.out).mono ?_
            (case side1 => exact co (Kd.R_reads' HO1072.out).2.2)
            (case side2 => exact (Kd.R_reads' HO1072.out).2.1)
            (case side3 => exact co (Kd.R_reads' HO1075.out).2.2)
            (case side4 => exact (Kd.R_reads' HO1075.out).2.1)
            rintro e w' ⟨rfl, ⟨nd, rfl⟩⟩
            refine ⟨_, rfl, ?_⟩
            refine hK.out _ _ (bc BK1033 0 _) (fun hHeld => ?_)
            clear hK K
            refine nm (some 112) ?_
            refine pa 31 (some 113) (yz 33 4294967295) HT_ ?_
            refine pa 32 (some 2) (yz 33 8589934591) HT_ ?_
            refine done_ (done_of HT_.out (by kernel_rfl)) ?_
            try go_wp2
            go_ret
            exact ⟨re, bw⟩
           exact absurd (Option.some.inj H) (by decide)
          exact absurd (Option.some.inj H) (by decide)
         rw [if_neg c64] at H
         have c64b0 : (((t1054 ++ (⟨#[32]⟩ : ByteArray)) ++ t1055).toList == ((t1034 ++ (⟨#[32]⟩ : ByteArray)) ++ t1035).toList) = false := beq_eq_false_iff_ne.mpr c64
         have c64b1 : (((t1054 ++ (⟨#[32]⟩ : ByteArray)) ++ t1055).toList != ((t1034 ++ (⟨#[32]⟩ : ByteArray)) ++ t1035).toList) = true := bne_iff_ne.mpr c64
         exact absurd (Option.some.inj H) (by decide)

/-- THE ONE PURE STATEMENT of laws_FnPure: yours. -/
def laws_FnPure.Pure : Prop := ∀ (l0 : List Int), l0.length ≤ maxLen → l0.length * 1 ≤ 140737488351232 → (∀ x ∈ l0, (Lit.int .u8 x).wf = true) → ∃ k, laws_FnPure.f k l0 = some true
end Go.Proofs.Ytkfplkdchkmgbaa.C
