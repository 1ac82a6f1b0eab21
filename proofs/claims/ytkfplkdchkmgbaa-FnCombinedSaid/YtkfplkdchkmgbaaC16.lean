/- Contracts of functions of the program: laws_FnCombined. -/
import Derived.Test.YtkfplkdchkmgbaaC0
import Derived.Test.YtkfplkdchkmgbaaC1
import Derived.Test.YtkfplkdchkmgbaaC7
import Derived.Test.YtkfplkdchkmgbaaC10
import Derived.Test.YtkfplkdchkmgbaaC12
import Derived.Test.YtkfplkdchkmgbaaC13
import Derived.Test.YtkfplkdchkmgbaaC14
import Derived.Test.YtkfplkdchkmgbaaC15
namespace Go.Proofs.Ytkfplkdchkmgbaa.C
open Go.RowKit Go.Proofs.YtkfplkdchkmgbaaW.PrintWords Go.Proofs.YtkfplkdchkmgbaaW.PrintLast Go.Proofs.YtkfplkdchkmgbaaW.PrintMore
attribute [local go_sem] max2_int min2_int max_two min_two max_three min_three max_four min_four
set_option linter.unusedVariables false
set_option linter.unusedSimpArgs false

/-! ### laws_FnCombined: function 10 -/
mutual
def laws_FnCombined.j0 : Nat → Bool → Bool → Bool → List Int → List Int → List Int → List Int → List Int → List Int → Option (Bool)
 | 0, _, _, _, _, _, _, _, _, _ => none
 | k + 1, x6, x12, x88, x822000, x823000, x828000, x840000, x841000, x846000 => if x88 = true then (some false) else (laws_FnCombined.l0 k x6 x12 0 x822000 x823000 x828000 x840000 x841000 x846000)
def laws_FnCombined.l0 : Nat → Bool → Bool → Int → List Int → List Int → List Int → List Int → List Int → List Int → Option (Bool)
 | 0, _, _, _, _, _, _, _, _, _ => none
 | k + 1, x6, x12, x17, x822000, x823000, x828000, x840000, x841000, x846000 => if x17 ≤ 30 then (laws_FnCombined.j2 k x6 x12 x17 x6 x822000 x823000 x828000 x840000 x841000 x846000) else (laws_FnCombined.j2 k x6 x12 x17 false x822000 x823000 x828000 x840000 x841000 x846000)
def laws_FnCombined.j2 : Nat → Bool → Bool → Int → Bool → List Int → List Int → List Int → List Int → List Int → List Int → Option (Bool)
 | 0, _, _, _, _, _, _, _, _, _, _ => none
 | k + 1, x6, x12, x17, x93, x822000, x823000, x828000, x840000, x841000, x846000 => if x93 = true then ((impl_Contains.f k x828000 x17).bind fun t863 => ((spec_Contains.f k x822000 x17).bind fun t864 => (if t864 = true then ((spec_Contains.f k x823000 x17).bind fun t865 => (if (t863 != t865) = true then (some false) else (laws_FnCombined.l0 k x6 x12 (wrap64 (x17 + 1)) x822000 x823000 x828000 x840000 x841000 x846000))) else (if (t863 != false) = true then (some false) else (laws_FnCombined.l0 k x6 x12 (wrap64 (x17 + 1)) x822000 x823000 x828000 x840000 x841000 x846000))))) else (if x6 = true then ((impl_IsWithin.f k x828000 x822000).bind fun t866 => (if t866 = true then ((impl_IsWithin.f k x828000 x823000).bind fun t867 => (laws_FnCombined.j3 k x12 (!t867) x840000 x841000 x846000)) else (laws_FnCombined.j3 k x12 true x840000 x841000 x846000))) else (laws_FnCombined.j3 k x12 false x840000 x841000 x846000))
def laws_FnCombined.j3 : Nat → Bool → Bool → List Int → List Int → List Int → Option (Bool)
 | 0, _, _, _, _, _ => none
 | k + 1, x12, x120, x840000, x841000, x846000 => if x120 = true then (some false) else (laws_FnCombined.l1 k x12 0 x840000 x841000 x846000)
def laws_FnCombined.l1 : Nat → Bool → Int → List Int → List Int → List Int → Option (Bool)
 | 0, _, _, _, _, _ => none
 | k + 1, x12, x18, x840000, x841000, x846000 => if x18 < (x846000.length : Int) then (laws_FnCombined.j5 k x12 x18 x12 x840000 x841000 x846000) else (laws_FnCombined.j5 k x12 x18 false x840000 x841000 x846000)
def laws_FnCombined.j5 : Nat → Bool → Int → Bool → List Int → List Int → List Int → Option (Bool)
 | 0, _, _, _, _, _, _ => none
 | k + 1, x12, x18, x128, x840000, x841000, x846000 => if x128 = true then (if 0 ≤ x18 then (if x18 < (x846000.length : Int) then ((spec_HasNumber.f k x840000 (rd x846000 x18)).bind fun t871 => (if t871 = true then (laws_FnCombined.l1 k x12 (wrap64 (x18 + 1)) x840000 x841000 x846000) else ((spec_HasNumber.f k x841000 (rd x846000 x18)).bind fun t873 => (if t873 = true then (laws_FnCombined.l1 k x12 (wrap64 (x18 + 1)) x840000 x841000 x846000) else (some false))))) else (none)) else (none)) else (if x12 = true then ((impl_IsWithin.f k x840000 x846000).bind fun t868 => (if t868 = true then ((impl_IsWithin.f k x841000 x846000).bind fun t869 => (some t869)) else (some false))) else (some true))
end
def laws_FnCombined.f (k : Nat) (l0 : List Int) : Option (Bool) := (laws_big.f l0).bind fun t814 => (if t814 = true then (some true) else ((spec_DrawMeetOf.f k l0).bind fun bt815 => ((impl_MeetOf.f k bt815.1 bt815.2).bind fun bt823 => ((spec_MeetOf.f k bt815.1 bt815.2).bind fun bt828 => ((spec_DrawAddOf.f k l0).bind fun bt833 => ((impl_AddOf.f k bt833.1 bt833.2).bind fun bt841 => ((spec_AddOf.f k bt833.1 bt833.2).bind fun bt846 => ((spec_DrawIsWithin.f k l0).bind fun bt851 => (if (bt823.2 != bt828.2) = true then (laws_FnCombined.j0 k bt823.2 bt841.2 true bt815.1 bt815.2 bt823.1 bt833.1 bt833.2 bt841.1) else ((spec_EqualSemigroup.f k bt823.1 bt828.1).bind fun t859 => (if t859 = true then (if (bt841.2 != bt846.2) = true then (laws_FnCombined.j0 k bt823.2 bt841.2 true bt815.1 bt815.2 bt823.1 bt833.1 bt833.2 bt841.1) else ((spec_EqualSemigroup.f k bt841.1 bt846.1).bind fun t860 => (if t860 = true then ((impl_IsWithin.f k bt851.1 bt851.2).bind fun t861 => ((spec_IsWithin.f k bt851.1 bt851.2).bind fun t862 => (laws_FnCombined.j0 k bt823.2 bt841.2 (t861 != t862) bt815.1 bt815.2 bt823.1 bt833.1 bt833.2 bt841.1))) else (laws_FnCombined.j0 k bt823.2 bt841.2 true bt815.1 bt815.2 bt823.1 bt833.1 bt833.2 bt841.1)))) else (laws_FnCombined.j0 k bt823.2 bt841.2 true bt815.1 bt815.2 bt823.1 bt833.1 bt833.2 bt841.1))))))))))))
def laws_FnCombined.T10 : Bool × List (List Nat × List Nat) := (true, [([], []), ([], []), ([0, 1], [0, 1]), ([2], [2]), ([3], [3]), ([3], [3]), ([4, 5, 3, 3], [3, 4, 5]), ([6, 3], [3, 6]), ([3, 7], [3, 7]), ([8, 6], [8]), ([9], [9]), ([9], [9]), ([10, 11, 9], [9, 10, 11]), ([9, 12], [9, 12]), ([13, 9], [13]), ([14], [14]), ([14], [14]), ([15, 16, 14, 14], [14, 15, 16]), ([17, 14], [14, 17]), ([14, 18], [14, 18]), ([19, 17], [19]), ([20], [20]), ([20], [20]), ([21, 22, 20, 20], [20, 21, 22]), ([20], [20]), ([20], [20]), ([24, 25, 23, 20], [20, 24, 25]), ([23, 26, 20], [20, 23, 26]), ([20, 27], [20, 27])])
def laws_FnCombined.B10 : List Nat := [0, 0, 3, 7, 15, 15, 63, 127, 255, 511, 1023, 1023, 4095, 8191, 16383, 32767, 32767, 131071, 262143, 524287, 1048575, 2097151, 2097151, 8388607, 2097151, 2097151, 67108863, 134217727, 268435455]
theorem laws_FnCombined.tab10 : rtab .any (opsOf Try.f10 10) = laws_FnCombined.T10 := by kernel_rfl
theorem laws_FnCombined.bits10 : waitsOk laws_FnCombined.T10.2 laws_FnCombined.B10 = true := by kernel_rfl
def laws_FnCombined.T15 : Bool × List (List Nat × List Nat) := (true, [([], []), ([], []), ([0, 1], [0, 1]), ([], []), ([], []), ([3, 4, 2], [3, 4]), ([5, 5], [5]), ([6], [6]), ([6], [6]), ([7, 8, 6, 6], [6, 7, 8]), ([6, 9], [6, 9]), ([2, 10], [2, 10])])
def laws_FnCombined.B15 : List Nat := [0, 0, 3, 0, 0, 31, 63, 127, 127, 511, 1023, 2047]
theorem laws_FnCombined.tab15 : rtab .any (opsOf Try.f10 15) = laws_FnCombined.T15 := by kernel_rfl
theorem laws_FnCombined.bits15 : waitsOk laws_FnCombined.T15.2 laws_FnCombined.B15 = true := by kernel_rfl
def laws_FnCombined.T22 : Bool × List (List Nat × List Nat) := (true, [([], []), ([0], [0]), ([], []), ([2], [2]), ([], []), ([3, 4], [3, 4]), ([5], [5]), ([1, 6], [1, 6]), ([7], [7]), ([8, 7], [8]), ([9], [9]), ([10, 9], [9, 10]), ([9], [9]), ([12, 9], [9, 12]), ([9], [9]), ([13, 14, 9], [9, 13, 14]), ([15, 9], [9, 15]), ([11, 16, 9, 9], [9, 11, 16]), ([17, 9], [9, 17]), ([9, 18], [9, 18])])
def laws_FnCombined.B22 : List Nat := [0, 1, 0, 4, 0, 28, 60, 127, 255, 511, 1023, 2047, 1023, 5119, 1023, 29695, 62463, 131071, 262143, 524287]
theorem laws_FnCombined.tab22 : rtab .any (opsOf Try.f10 22) = laws_FnCombined.T22 := by kernel_rfl
theorem laws_FnCombined.bits22 : waitsOk laws_FnCombined.T22.2 laws_FnCombined.B22 = true := by kernel_rfl
theorem laws_FnCombined.j0_no {k : Nat} : ∀ {a0} {a1} {a3} {a4} {a5} {a6} {a7} {a8}, laws_FnCombined.j0 k a0 a1 true a3 a4 a5 a6 a7 a8 ≠ some true := by
 intros
 cases k <;> simp [laws_FnCombined.j0]
theorem laws_FnCombined.j3_no {k : Nat} : ∀ {a0} {a2} {a3} {a4}, laws_FnCombined.j3 k a0 true a2 a3 a4 ≠ some true := by
 intros
 cases k <;> simp [laws_FnCombined.j3]
set_option maxHeartbeats 8000000 in
set_option maxRecDepth 100000 in
theorem laws_FnCombined.calls (k : Nat) (A0 : Option Addr) (c0 : Nat) (l0 : List Int) (w : World) (hr0 : Kd.C (Kd.int .u8) w A0 l0.length l0) (hc0 : l0.length ≤ c0) (h : laws_FnCombined.f k l0 = some true) :
  Calls Try.prog 10 #[.slice A0 l0.length c0] w fun e w' => e = .returned (.bool true) ∧ Below w.heap.size w w' := by
 have hu26 := Try.underlying26
 have HR0 := am hr0
 have HC0 := am hc0
 clear hr0 hc0
 have HB := am (Below.refl w.heap.size w)
 have H : ((laws_big.f l0).bind fun t814 => (if t814 = true then (some true) else ((spec_DrawMeetOf.f k l0).bind fun bt815 => ((impl_MeetOf.f k bt815.1 bt815.2).bind fun bt823 => ((spec_MeetOf.f k bt815.1 bt815.2).bind fun bt828 => ((spec_DrawAddOf.f k l0).bind fun bt833 => ((impl_AddOf.f k bt833.1 bt833.2).bind fun bt841 => ((spec_AddOf.f k bt833.1 bt833.2).bind fun bt846 => ((spec_DrawIsWithin.f k l0).bind fun bt851 => (if (bt823.2 != bt828.2) = true then (laws_FnCombined.j0 k bt823.2 bt841.2 true bt815.1 bt815.2 bt823.1 bt833.1 bt833.2 bt841.1) else ((spec_EqualSemigroup.f k bt823.1 bt828.1).bind fun t859 => (if t859 = true then (if (bt841.2 != bt846.2) = true then (laws_FnCombined.j0 k bt823.2 bt841.2 true bt815.1 bt815.2 bt823.1 bt833.1 bt833.2 bt841.1) else ((spec_EqualSemigroup.f k bt841.1 bt846.1).bind fun t860 => (if t860 = true then ((impl_IsWithin.f k bt851.1 bt851.2).bind fun t861 => ((spec_IsWithin.f k bt851.1 bt851.2).bind fun t862 => (laws_FnCombined.j0 k bt823.2 bt841.2 (t861 != t862) bt815.1 bt815.2 bt823.1 bt833.1 bt833.2 bt841.1))) else (laws_FnCombined.j0 k bt823.2 bt841.2 true bt815.1 bt815.2 bt823.1 bt833.1 bt833.2 bt841.1)))) else (laws_FnCombined.j0 k bt823.2 bt841.2 true bt815.1 bt815.2 bt823.1 bt833.1 bt833.2 bt841.1))))))))))))) = some true := h
 clear h
 replace H := ga H; obtain ⟨t814, A2, H⟩ := H
 by_cases c3 : t814 = true
 ·subst c3
  have H1 : (some true) = some true := rfl
  clear H
  have H := H1
  clear H1
  skip
  go_enter Try.func10, Try.ntmps10
  go_wp2_with (first | ((with_reducible refine gate_callee (f := 12) rfl ?_); refine gl (some 20) Try.func12 #[.slice A0 l0.length c0] ?_; (with_reducible refine (laws_big.calls _ _ l0 true _ ?side1 ?side2 A2.out).mono ?_); (case side1 => exact co HR0.out); (case side2 => exact HC0.out); rintro e w' ⟨rfl, ⟨nd, rfl⟩⟩; refine ⟨_, rfl, ?_⟩))
  go_ret
  exact ⟨re, bw⟩
 replace c3 := Bool.eq_false_iff.mpr c3
 subst c3
 have H1 : ((spec_DrawMeetOf.f k l0).bind fun bt815 => ((impl_MeetOf.f k bt815.1 bt815.2).bind fun bt823 => ((spec_MeetOf.f k bt815.1 bt815.2).bind fun bt828 => ((spec_DrawAddOf.f k l0).bind fun bt833 => ((impl_AddOf.f k bt833.1 bt833.2).bind fun bt841 => ((spec_AddOf.f k bt833.1 bt833.2).bind fun bt846 => ((spec_DrawIsWithin.f k l0).bind fun bt851 => (if (bt823.2 != bt828.2) = true then (laws_FnCombined.j0 k bt823.2 bt841.2 true bt815.1 bt815.2 bt823.1 bt833.1 bt833.2 bt841.1) else ((spec_EqualSemigroup.f k bt823.1 bt828.1).bind fun t859 => (if t859 = true then (if (bt841.2 != bt846.2) = true then (laws_FnCombined.j0 k bt823.2 bt841.2 true bt815.1 bt815.2 bt823.1 bt833.1 bt833.2 bt841.1) else ((spec_EqualSemigroup.f k bt841.1 bt846.1).bind fun t860 => (if t860 = true then ((impl_IsWithin.f k bt851.1 bt851.2).bind fun t861 => ((spec_IsWithin.f k bt851.1 bt851.2).bind fun t862 => (laws_FnCombined.j0 k bt823.2 bt841.2 (t861 != t862) bt815.1 bt815.2 bt823.1 bt833.1 bt833.2 bt841.1))) else (laws_FnCombined.j0 k bt823.2 bt841.2 true bt815.1 bt815.2 bt823.1 bt833.1 bt833.2 bt841.1)))) else (laws_FnCombined.j0 k bt823.2 bt841.2 true bt815.1 bt815.2 bt823.1 bt833.1 bt833.2 bt841.1))))))))))) = some true := by rw [if_neg (show ¬ (false = true) by decide)] at H; exact H
 clear H
 have H := H1
 clear H1
 replace H := ga H; obtain ⟨⟨t815, t818⟩, A4, H⟩ := H
 replace H : ((impl_MeetOf.f k t815 t818).bind fun bt823 => ((spec_MeetOf.f k t815 t818).bind fun bt828 => ((spec_DrawAddOf.f k l0).bind fun bt833 => ((impl_AddOf.f k bt833.1 bt833.2).bind fun bt841 => ((spec_AddOf.f k bt833.1 bt833.2).bind fun bt846 => ((spec_DrawIsWithin.f k l0).bind fun bt851 => (if (bt823.2 != bt828.2) = true then (laws_FnCombined.j0 k bt823.2 bt841.2 true t815 t818 bt823.1 bt833.1 bt833.2 bt841.1) else ((spec_EqualSemigroup.f k bt823.1 bt828.1).bind fun t859 => (if t859 = true then (if (bt841.2 != bt846.2) = true then (laws_FnCombined.j0 k bt823.2 bt841.2 true t815 t818 bt823.1 bt833.1 bt833.2 bt841.1) else ((spec_EqualSemigroup.f k bt841.1 bt846.1).bind fun t860 => (if t860 = true then ((impl_IsWithin.f k bt851.1 bt851.2).bind fun t861 => ((spec_IsWithin.f k bt851.1 bt851.2).bind fun t862 => (laws_FnCombined.j0 k bt823.2 bt841.2 (t861 != t862) t815 t818 bt823.1 bt833.1 bt833.2 bt841.1))) else (laws_FnCombined.j0 k bt823.2 bt841.2 true t815 t818 bt823.1 bt833.1 bt833.2 bt841.1)))) else (laws_FnCombined.j0 k bt823.2 bt841.2 true t815 t818 bt823.1 bt833.1 bt833.2 bt841.1)))))))))) = some true := H
 replace H := ga H; obtain ⟨⟨t823, t826⟩, A5, H⟩ := H
 replace H : ((spec_MeetOf.f k t815 t818).bind fun bt828 => ((spec_DrawAddOf.f k l0).bind fun bt833 => ((impl_AddOf.f k bt833.1 bt833.2).bind fun bt841 => ((spec_AddOf.f k bt833.1 bt833.2).bind fun bt846 => ((spec_DrawIsWithin.f k l0).bind fun bt851 => (if (t826 != bt828.2) = true then (laws_FnCombined.j0 k t826 bt841.2 true t815 t818 t823 bt833.1 bt833.2 bt841.1) else ((spec_EqualSemigroup.f k t823 bt828.1).bind fun t859 => (if t859 = true then (if (bt841.2 != bt846.2) = true then (laws_FnCombined.j0 k t826 bt841.2 true t815 t818 t823 bt833.1 bt833.2 bt841.1) else ((spec_EqualSemigroup.f k bt841.1 bt846.1).bind fun t860 => (if t860 = true then ((impl_IsWithin.f k bt851.1 bt851.2).bind fun t861 => ((spec_IsWithin.f k bt851.1 bt851.2).bind fun t862 => (laws_FnCombined.j0 k t826 bt841.2 (t861 != t862) t815 t818 t823 bt833.1 bt833.2 bt841.1))) else (laws_FnCombined.j0 k t826 bt841.2 true t815 t818 t823 bt833.1 bt833.2 bt841.1)))) else (laws_FnCombined.j0 k t826 bt841.2 true t815 t818 t823 bt833.1 bt833.2 bt841.1))))))))) = some true := H
 replace H := ga H; obtain ⟨⟨t828, t831⟩, A6, H⟩ := H
 replace H : ((spec_DrawAddOf.f k l0).bind fun bt833 => ((impl_AddOf.f k bt833.1 bt833.2).bind fun bt841 => ((spec_AddOf.f k bt833.1 bt833.2).bind fun bt846 => ((spec_DrawIsWithin.f k l0).bind fun bt851 => (if (t826 != t831) = true then (laws_FnCombined.j0 k t826 bt841.2 true t815 t818 t823 bt833.1 bt833.2 bt841.1) else ((spec_EqualSemigroup.f k t823 t828).bind fun t859 => (if t859 = true then (if (bt841.2 != bt846.2) = true then (laws_FnCombined.j0 k t826 bt841.2 true t815 t818 t823 bt833.1 bt833.2 bt841.1) else ((spec_EqualSemigroup.f k bt841.1 bt846.1).bind fun t860 => (if t860 = true then ((impl_IsWithin.f k bt851.1 bt851.2).bind fun t861 => ((spec_IsWithin.f k bt851.1 bt851.2).bind fun t862 => (laws_FnCombined.j0 k t826 bt841.2 (t861 != t862) t815 t818 t823 bt833.1 bt833.2 bt841.1))) else (laws_FnCombined.j0 k t826 bt841.2 true t815 t818 t823 bt833.1 bt833.2 bt841.1)))) else (laws_FnCombined.j0 k t826 bt841.2 true t815 t818 t823 bt833.1 bt833.2 bt841.1)))))))) = some true := H
 replace H := ga H; obtain ⟨⟨t833, t836⟩, A7, H⟩ := H
 replace H : ((impl_AddOf.f k t833 t836).bind fun bt841 => ((spec_AddOf.f k t833 t836).bind fun bt846 => ((spec_DrawIsWithin.f k l0).bind fun bt851 => (if (t826 != t831) = true then (laws_FnCombined.j0 k t826 bt841.2 true t815 t818 t823 t833 t836 bt841.1) else ((spec_EqualSemigroup.f k t823 t828).bind fun t859 => (if t859 = true then (if (bt841.2 != bt846.2) = true then (laws_FnCombined.j0 k t826 bt841.2 true t815 t818 t823 t833 t836 bt841.1) else ((spec_EqualSemigroup.f k bt841.1 bt846.1).bind fun t860 => (if t860 = true then ((impl_IsWithin.f k bt851.1 bt851.2).bind fun t861 => ((spec_IsWithin.f k bt851.1 bt851.2).bind fun t862 => (laws_FnCombined.j0 k t826 bt841.2 (t861 != t862) t815 t818 t823 t833 t836 bt841.1))) else (laws_FnCombined.j0 k t826 bt841.2 true t815 t818 t823 t833 t836 bt841.1)))) else (laws_FnCombined.j0 k t826 bt841.2 true t815 t818 t823 t833 t836 bt841.1))))))) = some true := H
 replace H := ga H; obtain ⟨⟨t841, t844⟩, A8, H⟩ := H
 replace H : ((spec_AddOf.f k t833 t836).bind fun bt846 => ((spec_DrawIsWithin.f k l0).bind fun bt851 => (if (t826 != t831) = true then (laws_FnCombined.j0 k t826 t844 true t815 t818 t823 t833 t836 t841) else ((spec_EqualSemigroup.f k t823 t828).bind fun t859 => (if t859 = true then (if (t844 != bt846.2) = true then (laws_FnCombined.j0 k t826 t844 true t815 t818 t823 t833 t836 t841) else ((spec_EqualSemigroup.f k t841 bt846.1).bind fun t860 => (if t860 = true then ((impl_IsWithin.f k bt851.1 bt851.2).bind fun t861 => ((spec_IsWithin.f k bt851.1 bt851.2).bind fun t862 => (laws_FnCombined.j0 k t826 t844 (t861 != t862) t815 t818 t823 t833 t836 t841))) else (laws_FnCombined.j0 k t826 t844 true t815 t818 t823 t833 t836 t841)))) else (laws_FnCombined.j0 k t826 t844 true t815 t818 t823 t833 t836 t841)))))) = some true := H
 replace H := ga H; obtain ⟨⟨t846, t849⟩, A9, H⟩ := H
 replace H : ((spec_DrawIsWithin.f k l0).bind fun bt851 => (if (t826 != t831) = true then (laws_FnCombined.j0 k t826 t844 true t815 t818 t823 t833 t836 t841) else ((spec_EqualSemigroup.f k t823 t828).bind fun t859 => (if t859 = true then (if (t844 != t849) = true then (laws_FnCombined.j0 k t826 t844 true t815 t818 t823 t833 t836 t841) else ((spec_EqualSemigroup.f k t841 t846).bind fun t860 => (if t860 = true then ((impl_IsWithin.f k bt851.1 bt851.2).bind fun t861 => ((spec_IsWithin.f k bt851.1 bt851.2).bind fun t862 => (laws_FnCombined.j0 k t826 t844 (t861 != t862) t815 t818 t823 t833 t836 t841))) else (laws_FnCombined.j0 k t826 t844 true t815 t818 t823 t833 t836 t841)))) else (laws_FnCombined.j0 k t826 t844 true t815 t818 t823 t833 t836 t841))))) = some true := H
 replace H := ga H; obtain ⟨⟨t851, t854⟩, A10, H⟩ := H
 replace H : (if (t826 != t831) = true then (laws_FnCombined.j0 k t826 t844 true t815 t818 t823 t833 t836 t841) else ((spec_EqualSemigroup.f k t823 t828).bind fun t859 => (if t859 = true then (if (t844 != t849) = true then (laws_FnCombined.j0 k t826 t844 true t815 t818 t823 t833 t836 t841) else ((spec_EqualSemigroup.f k t841 t846).bind fun t860 => (if t860 = true then ((impl_IsWithin.f k t851 t854).bind fun t861 => ((spec_IsWithin.f k t851 t854).bind fun t862 => (laws_FnCombined.j0 k t826 t844 (t861 != t862) t815 t818 t823 t833 t836 t841))) else (laws_FnCombined.j0 k t826 t844 true t815 t818 t823 t833 t836 t841)))) else (laws_FnCombined.j0 k t826 t844 true t815 t818 t823 t833 t836 t841)))) = some true := H
 have HC11 := am H
 clear H
 go_enter Try.func10, Try.ntmps10
 go_upto_region 10 with (first | ((with_reducible refine gate_callee (f := 12) rfl ?_); refine gl (some 20) Try.func12 #[.slice A0 l0.length c0] ?_; (with_reducible refine (laws_big.calls _ _ l0 false _ ?side1 ?side2 A2.out).mono ?_); (case side1 => exact co HR0.out); (case side2 => exact HC0.out); rintro e w' ⟨rfl, ⟨nd, rfl⟩⟩; refine ⟨_, rfl, ?_⟩) | ((with_reducible refine gate_callee (f := 108) rfl ?_); refine gl (some 23) Try.func108 #[.slice A0 l0.length c0] ?_; (with_reducible refine (spec_DrawMeetOf.calls k _ _ l0 t815 t818 _ ?side1 ?side2 A4.out).mono ?_); (case side1 => exact co HR0.out); (case side2 => exact HC0.out); rintro e w12 ⟨v816, v819, rfl, ho0, ho1, hb⟩; refine ⟨_, rfl, ?_⟩; have HO817 := am (Kd.Q_lower ho0 (below_size bw)); have HO820 := am (Kd.Q_lower ho1 (below_size bw)); replace HB := am (below_step bw hb); clear hb ho0 ho1) | ((with_reducible refine gate_dst (N := 3) rfl ?_); refine bx 3 #[.slice none 0 0] 26 ?_; intro gb821 hg w13 hbox hb; replace HO817 := qK HO817 hb; replace HO820 := qK HO820 hb; have BK821 := am (hbox); have GW821 := am (gs hg : w.heap.size ≤ gb821); have GE821 := GW821; replace HB := am (below_step bw hb); clear hb hbox hg) | ((with_reducible refine gate_dst (N := 4) rfl ?_); refine bx 4 #[.slice none 0 0] 26 ?_; intro gb822 hg w14 hbox hb; replace HO817 := qK HO817 hb; replace HO820 := qK HO820 hb; have BK822 := am (hbox); have GW822 := am (gs hg : w.heap.size ≤ gb822); have GE822 := GW822; replace HB := am (below_step bw hb); have NB821_822 := nl hg BK821; have NB822_821 := ns NB821_822; replace BK821 := kb BK821 hb; clear hb hbox hg; obtain ⟨Ao15, co15, eo15, _⟩ := Kd.Q_slice HO817.out; subst eo15; have hnb16 := NB821_822.out; have hnc16 := NB822_821.out; have hcz17_0 := bc BK821 0 (.slice none 0 0); have hfz17_0 := blk_frozen BK821.out 0; obtain ⟨Ao18, co18, eo18, _⟩ := Kd.Q_slice HO820.out; subst eo18; have hcz19_0 := bc BK822 0 (.slice none 0 0); have hfz19_0 := blk_frozen BK822.out 0) | ((with_reducible refine gate_callee (f := 109) rfl ?_); refine gl (some 29) Try.func109 #[.agg #[.slice Ao15 t815.length co15], .agg #[.slice Ao18 t818.length co18]] ?_; (with_reducible refine (impl_MeetOf.calls k _ _ t815 _ _ t818 t823 t826 _ ?side1 ?side2 ?side3 ?side4 A5.out).mono ?_); (case side1 => refine (Kd.Q_reads' (e := 3) (base := w.heap.size) (ok := fun k_ => nb k_ Ao18 t818 co18) (n := t815.length) (c := co15) ?_).2.2; exact (by (with_reducible repeat (first | apply Kd.Q_alloc | apply Kd.Q_drewN | apply Kd.Q_drew)); exact (Kd.Q_mono (Kd.Q_mono (Kd.Q_far (p := ⟨gb822, 0, none⟩) (Kd.Q_far (p := ⟨gb821, 0, none⟩) (Kd.Q_types (Kd.Q_types HO817.out BK821.out (by decide)) BK822.out (by decide)) (fun _ hk => by first | exact hk.1.2 | simp_all) (.slice Ao15 t815.length co15)) (fun _ hk => hk.2) (.slice Ao18 t818.length co18)) (fun _ h_ => h_.1)) (fun _ h_ => h_.1)))); (case side2 => exact (Kd.Q_reads' HO817.out).2.1); (case side3 => refine (Kd.Q_reads' (e := 3) (base := w.heap.size) (ok := fun k_ => nb k_ Ao15 t815 co15) (n := t818.length) (c := co18) ?_).2.2; exact (by (with_reducible repeat (first | apply Kd.Q_alloc | apply Kd.Q_drewN | apply Kd.Q_drew)); exact (Kd.Q_mono (Kd.Q_mono (Kd.Q_far (p := ⟨gb822, 0, none⟩) (Kd.Q_far (p := ⟨gb821, 0, none⟩) (Kd.Q_types (Kd.Q_types HO820.out BK821.out (by decide)) BK822.out (by decide)) (fun _ hk => by first | exact hk.1.2 | simp_all) (.slice Ao15 t815.length co15)) (fun _ hk => hk.2) (.slice Ao18 t818.length co18)) (fun _ h_ => h_.1)) (fun _ h_ => h_.1)))); (case side4 => exact (Kd.Q_reads' HO820.out).2.1); rintro e w20 ⟨v824, rfl, ho0, hb⟩; refine ⟨_, rfl, ?_⟩; have HO825 := am (Kd.R_lower (Kd.R_new' (Kd.R_new' ho0 (Kd.Q_lt (by (with_reducible repeat (first | apply Kd.Q_alloc | apply Kd.Q_drewN | apply Kd.Q_drew)); exact (Kd.Q_mono (Kd.Q_mono (Kd.Q_far (p := ⟨gb822, 0, none⟩) (Kd.Q_far (p := ⟨gb821, 0, none⟩) (Kd.Q_types (Kd.Q_types HO817.out BK821.out (by decide)) BK822.out (by decide)) (fun _ hk => by first | exact hk.1.2 | simp_all) (.slice Ao15 t815.length co15)) (fun _ hk => hk.2) (.slice Ao18 t818.length co18)) (fun _ h_ => h_.1)) (fun _ h_ => h_.1))))) (Kd.Q_lt (by (with_reducible repeat (first | apply Kd.Q_alloc | apply Kd.Q_drewN | apply Kd.Q_drew)); exact (Kd.Q_mono (Kd.Q_mono (Kd.Q_far (p := ⟨gb822, 0, none⟩) (Kd.Q_far (p := ⟨gb821, 0, none⟩) (Kd.Q_types (Kd.Q_types HO820.out BK821.out (by decide)) BK822.out (by decide)) (fun _ hk => by first | exact hk.1.2 | simp_all) (.slice Ao15 t815.length co15)) (fun _ hk => hk.2) (.slice Ao18 t818.length co18)) (fun _ h_ => h_.1)) (fun _ h_ => h_.1))))) (below_size bw)); replace HO817 := am (Kd.Q_elder' (by (with_reducible repeat (first | apply Kd.Q_alloc | apply Kd.Q_drewN | apply Kd.Q_drew)); exact (Kd.Q_mono (Kd.Q_mono (Kd.Q_far (p := ⟨gb822, 0, none⟩) (Kd.Q_far (p := ⟨gb821, 0, none⟩) (Kd.Q_types (Kd.Q_types HO817.out BK821.out (by decide)) BK822.out (by decide)) (fun _ hk => by first | exact hk.1.2 | simp_all) (.slice Ao15 t815.length co15)) (fun _ hk => hk.2) (.slice Ao18 t818.length co18)) (fun _ h_ => h_.1)) (fun _ h_ => h_.1))) (Kd.R_base ho0) hb); replace HO820 := am (Kd.Q_elder' (by (with_reducible repeat (first | apply Kd.Q_alloc | apply Kd.Q_drewN | apply Kd.Q_drew)); exact (Kd.Q_mono (Kd.Q_mono (Kd.Q_far (p := ⟨gb822, 0, none⟩) (Kd.Q_far (p := ⟨gb821, 0, none⟩) (Kd.Q_types (Kd.Q_types HO820.out BK821.out (by decide)) BK822.out (by decide)) (fun _ hk => by first | exact hk.1.2 | simp_all) (.slice Ao15 t815.length co15)) (fun _ hk => hk.2) (.slice Ao18 t818.length co18)) (fun _ h_ => h_.1)) (fun _ h_ => h_.1))) (Kd.R_base ho0) hb); replace BK821 := am (blk_below (g := gb821) (o := .cells #[.slice Ao15 t815.length co15] 26 (0, 0)) (by (with_reducible repeat (first | refine blk_drewN ?_ _ | refine blk_drew ?_ | refine blk_alloc ?_ _)); refine blk_far ?_ NB821_822.out _; (with_reducible repeat (first | refine blk_drewN ?_ _ | refine blk_drew ?_ | refine blk_alloc ?_ _)); refine blk_put (cs := #[.slice none 0 0]) ?_ 0 _ rfl; (with_reducible repeat (first | refine blk_drewN ?_ _ | refine blk_drew ?_ | refine blk_alloc ?_ _)); exact BK821.out) hb); replace BK822 := am (blk_below (g := gb822) (o := .cells #[.slice Ao18 t818.length co18] 26 (0, 0)) (by (with_reducible repeat (first | refine blk_drewN ?_ _ | refine blk_drew ?_ | refine blk_alloc ?_ _)); refine blk_put (cs := #[.slice none 0 0]) ?_ 0 _ rfl; (with_reducible repeat (first | refine blk_drewN ?_ _ | refine blk_drew ?_ | refine blk_alloc ?_ _)); refine blk_far ?_ NB822_821.out _; (with_reducible repeat (first | refine blk_drewN ?_ _ | refine blk_drew ?_ | refine blk_alloc ?_ _)); exact BK822.out) hb); replace HB := am (below_step bw hb); clear hb ho0) | ((with_reducible refine gate_dst (N := 5) rfl ?_); refine bx 5 #[.slice none 0 0] 26 ?_; intro gb827 hg w21 hbox hb; replace HO817 := qK HO817 hb; replace HO820 := qK HO820 hb; replace HO825 := rK HO825 hb; have BK827 := am (hbox); have GW827 := am (gs hg : w.heap.size ≤ gb827); have GE827 := GW827; replace HB := am (below_step bw hb); have NB821_827 := nl hg BK821; have NB827_821 := ns NB821_827; replace BK821 := kb BK821 hb; have NB822_827 := nl hg BK822; have NB827_822 := ns NB822_827; replace BK822 := kb BK822 hb; clear hb hbox hg; obtain ⟨Ao22, co22, eo22⟩ := Kd.R_slice HO825.out; subst eo22; have hnb23 := NB827_821.out; have hnc23 := NB821_827.out; have hnb24 := NB827_822.out; have hnc24 := NB822_827.out; have hcz25_0 := bc BK827 0 (.slice none 0 0); have hfz25_0 := blk_frozen BK827.out 0; have hcz26_0 := bc BK821 0 (.slice Ao15 t815.length co15); have hfz26_0 := blk_frozen BK821.out 0; have hcz27_0 := bc BK822 0 (.slice Ao18 t818.length co18); have hfz27_0 := blk_frozen BK822.out 0) | ((with_reducible refine gate_callee (f := 110) rfl ?_); refine gl (some 35) Try.func110 #[.agg #[.slice Ao15 t815.length co15], .agg #[.slice Ao18 t818.length co18]] ?_; (with_reducible refine (spec_MeetOf.calls k _ _ t815 _ _ t818 t828 t831 _ ?side1 ?side2 ?side3 ?side4 A6.out).mono ?_); (case side1 => refine (Kd.Q_reads' (e := 3) (base := w.heap.size) (ok := fun k_ => (nb k_ Ao18 t818 co18 ∧ nb k_ Ao22 t823 co22)) (n := t815.length) (c := co15) ?_).2.2; exact (qF HO817 BK827 (.slice Ao22 t823.length co22))); (case side2 => exact (Kd.Q_reads' HO817.out).2.1); (case side3 => refine (Kd.Q_reads' (e := 3) (base := w.heap.size) (ok := fun k_ => (nb k_ Ao15 t815 co15 ∧ nb k_ Ao22 t823 co22)) (n := t818.length) (c := co18) ?_).2.2; exact (qF HO820 BK827 (.slice Ao22 t823.length co22))); (case side4 => exact (Kd.Q_reads' HO820.out).2.1); rintro e w28 ⟨v829, rfl, ho0, hb⟩; refine ⟨_, rfl, ?_⟩; have HO830 := am (Kd.R_lower (Kd.R_new' (Kd.R_new' (Kd.R_new' ho0 (Kd.Q_lt (qF HO817 BK827 (.slice Ao22 t823.length co22)))) (Kd.Q_lt (qF HO820 BK827 (.slice Ao22 t823.length co22)))) (Kd.R_lt (rF HO825 BK827 (.slice Ao22 t823.length co22)))) (below_size bw)); replace HO817 := am (Kd.Q_elder' (qF HO817 BK827 (.slice Ao22 t823.length co22)) (Kd.R_base ho0) hb); replace HO820 := am (Kd.Q_elder' (qF HO820 BK827 (.slice Ao22 t823.length co22)) (Kd.R_base ho0) hb); replace HO825 := am (Kd.R_elder' (rF HO825 BK827 (.slice Ao22 t823.length co22)) (Kd.R_base ho0) hb); replace BK821 := kb BK821 hb; replace BK822 := kb BK822 hb; replace BK827 := am (blk_below (g := gb827) (o := .cells #[.slice Ao22 t823.length co22] 26 (0, 0)) (by (with_reducible repeat (first | refine blk_drewN ?_ _ | refine blk_drew ?_ | refine blk_alloc ?_ _)); refine blk_put (cs := #[.slice none 0 0]) ?_ 0 _ rfl; (with_reducible repeat (first | refine blk_drewN ?_ _ | refine blk_drew ?_ | refine blk_alloc ?_ _)); exact BK827.out) hb); replace HB := am (below_step bw hb); clear hb ho0) | ((with_reducible refine gate_dst (N := 7) rfl ?_); refine bx 7 #[.slice none 0 0] 26 ?_; intro gb832 hg w29 hbox hb; replace HO817 := qK HO817 hb; replace HO820 := qK HO820 hb; replace HO825 := rK HO825 hb; replace HO830 := rK HO830 hb; have BK832 := am (hbox); have GW832 := am (gs hg : w.heap.size ≤ gb832); have GE832 := GW832; replace HB := am (below_step bw hb); have NB821_832 := nl hg BK821; have NB832_821 := ns NB821_832; replace BK821 := kb BK821 hb; have NB822_832 := nl hg BK822; have NB832_822 := ns NB822_832; replace BK822 := kb BK822 hb; have NB827_832 := nl hg BK827; have NB832_827 := ns NB827_832; replace BK827 := kb BK827 hb; clear hb hbox hg; obtain ⟨Ao30, co30, eo30⟩ := Kd.R_slice HO830.out; subst eo30; have hnb31 := NB832_821.out; have hnc31 := NB821_832.out; have hnb32 := NB832_822.out; have hnc32 := NB822_832.out; have hnb33 := NB832_827.out; have hnc33 := NB827_832.out; have hcz34_0 := bc BK832 0 (.slice none 0 0); have hfz34_0 := blk_frozen BK832.out 0) | ((with_reducible refine gate_callee (f := 111) rfl ?_); refine gl (some 40) Try.func111 #[.slice A0 l0.length c0] ?_; (with_reducible refine (spec_DrawAddOf.calls k _ _ l0 t833 t836 _ ?side1 ?side2 A7.out).mono ?_); (case side1 => exact Kd.C_below HR0.out bw); (case side2 => exact HC0.out); rintro e w35 ⟨v834, v837, rfl, ho0, ho1, hb⟩; refine ⟨_, rfl, ?_⟩; have HO835 := am (Kd.Q_lower (Kd.Q_new' (Kd.Q_new' (Kd.Q_new' (Kd.Q_new' ho0 (Kd.Q_lt (qF HO817 BK832 (.slice Ao30 t828.length co30)))) (Kd.Q_lt (qF HO820 BK832 (.slice Ao30 t828.length co30)))) (Kd.R_lt (rF HO825 BK832 (.slice Ao30 t828.length co30)))) (Kd.R_lt (rF HO830 BK832 (.slice Ao30 t828.length co30)))) (below_size bw)); have HO838 := am (Kd.Q_lower (Kd.Q_new' (Kd.Q_new' (Kd.Q_new' (Kd.Q_new' ho1 (Kd.Q_lt (qF HO817 BK832 (.slice Ao30 t828.length co30)))) (Kd.Q_lt (qF HO820 BK832 (.slice Ao30 t828.length co30)))) (Kd.R_lt (rF HO825 BK832 (.slice Ao30 t828.length co30)))) (Kd.R_lt (rF HO830 BK832 (.slice Ao30 t828.length co30)))) (below_size bw)); replace HO817 := am (Kd.Q_mono (Kd.Q_told (Kd.Q_told (Kd.Q_old (qF HO817 BK832 (.slice Ao30 t828.length co30)) hb) (Kd.Q_base ho0)) (Kd.Q_base ho1)) (fun _ h_ => h_.1)); replace HO820 := am (Kd.Q_mono (Kd.Q_told (Kd.Q_told (Kd.Q_old (qF HO820 BK832 (.slice Ao30 t828.length co30)) hb) (Kd.Q_base ho0)) (Kd.Q_base ho1)) (fun _ h_ => h_.1)); replace HO825 := am (Kd.R_mono (Kd.R_told (Kd.R_told (Kd.R_old (rF HO825 BK832 (.slice Ao30 t828.length co30)) hb) (Kd.Q_base ho0)) (Kd.Q_base ho1)) (fun _ h_ => h_.1)); replace HO830 := am (Kd.R_mono (Kd.R_told (Kd.R_told (Kd.R_old (rF HO830 BK832 (.slice Ao30 t828.length co30)) hb) (Kd.Q_base ho0)) (Kd.Q_base ho1)) (fun _ h_ => h_.1)); replace BK821 := kb BK821 hb; replace BK822 := kb BK822 hb; replace BK827 := kb BK827 hb; replace BK832 := am (blk_below (g := gb832) (o := .cells #[.slice Ao30 t828.length co30] 26 (0, 0)) (by (with_reducible repeat (first | refine blk_drewN ?_ _ | refine blk_drew ?_ | refine blk_alloc ?_ _)); refine blk_put (cs := #[.slice none 0 0]) ?_ 0 _ rfl; (with_reducible repeat (first | refine blk_drewN ?_ _ | refine blk_drew ?_ | refine blk_alloc ?_ _)); exact BK832.out) hb); replace HB := am (below_step bw hb); clear hb ho0 ho1) | ((with_reducible refine gate_dst (N := 9) rfl ?_); refine bx 9 #[.slice none 0 0] 26 ?_; intro gb839 hg w36 hbox hb; replace HO817 := qK HO817 hb; replace HO820 := qK HO820 hb; replace HO825 := rK HO825 hb; replace HO830 := rK HO830 hb; replace HO835 := qK HO835 hb; replace HO838 := qK HO838 hb; have BK839 := am (hbox); have GW839 := am (gs hg : w.heap.size ≤ gb839); have GE839 := GW839; replace HB := am (below_step bw hb); have NB821_839 := nl hg BK821; have NB839_821 := ns NB821_839; replace BK821 := kb BK821 hb; have NB822_839 := nl hg BK822; have NB839_822 := ns NB822_839; replace BK822 := kb BK822 hb; have NB827_839 := nl hg BK827; have NB839_827 := ns NB827_839; replace BK827 := kb BK827 hb; have NB832_839 := nl hg BK832; have NB839_832 := ns NB832_839; replace BK832 := kb BK832 hb; clear hb hbox hg) | ((with_reducible refine gate_dst (N := 10) rfl ?_); refine bx 10 #[.slice none 0 0] 26 ?_; intro gb840 hg w37 hbox hb; replace HO817 := qK HO817 hb; replace HO820 := qK HO820 hb; replace HO825 := rK HO825 hb; replace HO830 := rK HO830 hb; replace HO835 := qK HO835 hb; replace HO838 := qK HO838 hb; have BK840 := am (hbox); have GW840 := am (gs hg : w.heap.size ≤ gb840); have GE840 := GW840; replace HB := am (below_step bw hb); have NB821_840 := nl hg BK821; have NB840_821 := ns NB821_840; replace BK821 := kb BK821 hb; have NB822_840 := nl hg BK822; have NB840_822 := ns NB822_840; replace BK822 := kb BK822 hb; have NB827_840 := nl hg BK827; have NB840_827 := ns NB827_840; replace BK827 := kb BK827 hb; have NB832_840 := nl hg BK832; have NB840_832 := ns NB832_840; replace BK832 := kb BK832 hb; have NB839_840 := nl hg BK839; have NB840_839 := ns NB839_840; replace BK839 := kb BK839 hb; clear hb hbox hg; obtain ⟨Ao38, co38, eo38, _⟩ := Kd.Q_slice HO835.out; subst eo38; have hnb39 := NB839_821.out; have hnc39 := NB821_839.out; have hnb40 := NB839_822.out; have hnc40 := NB822_839.out; have hnb41 := NB839_827.out; have hnc41 := NB827_839.out; have hnb42 := NB839_832.out; have hnc42 := NB832_839.out; have hnb43 := NB839_840.out; have hnc43 := NB840_839.out; have hcz44_0 := bc BK839 0 (.slice none 0 0); have hfz44_0 := blk_frozen BK839.out 0; obtain ⟨Ao45, co45, eo45, _⟩ := Kd.Q_slice HO838.out; subst eo45; have hnb46 := NB840_821.out; have hnc46 := NB821_840.out; have hnb47 := NB840_822.out; have hnc47 := NB822_840.out; have hnb48 := NB840_827.out; have hnc48 := NB827_840.out; have hnb49 := NB840_832.out; have hnc49 := NB832_840.out; have hcz50_0 := bc BK840 0 (.slice none 0 0); have hfz50_0 := blk_frozen BK840.out 0) | ((with_reducible refine gate_callee (f := 112) rfl ?_); refine gl (some 46) Try.func112 #[.agg #[.slice Ao38 t833.length co38], .agg #[.slice Ao45 t836.length co45]] ?_; (with_reducible refine (impl_AddOf.calls k _ _ t833 _ _ t836 t841 t844 _ ?side1 ?side2 ?side3 ?side4 A8.out).mono ?_); (case side1 => refine (Kd.Q_reads' (e := 3) (base := w.heap.size) (ok := fun k_ => ((((nb k_ Ao45 t836 co45 ∧ nb k_ Ao15 t815 co15) ∧ nb k_ Ao18 t818 co18) ∧ nb k_ Ao22 t823 co22) ∧ nb k_ Ao30 t828 co30)) (n := t833.length) (c := co38) ?_).2.2; exact (by (with_reducible repeat (first | apply Kd.Q_alloc | apply Kd.Q_drewN | apply Kd.Q_drew)); exact (Kd.Q_mono (Kd.Q_mono (Kd.Q_far (p := ⟨gb840, 0, none⟩) (Kd.Q_far (p := ⟨gb839, 0, none⟩) (Kd.Q_types (Kd.Q_types HO835.out BK839.out (by decide)) BK840.out (by decide)) (fun _ hk => by first | exact hk.1.2 | simp_all) (.slice Ao38 t833.length co38)) (fun _ hk => hk.2) (.slice Ao45 t836.length co45)) (fun _ h_ => h_.1)) (fun _ h_ => h_.1)))); (case side2 => exact (Kd.Q_reads' HO835.out).2.1); (case side3 => refine (Kd.Q_reads' (e := 3) (base := w.heap.size) (ok := fun k_ => ((((nb k_ Ao38 t833 co38 ∧ nb k_ Ao15 t815 co15) ∧ nb k_ Ao18 t818 co18) ∧ nb k_ Ao22 t823 co22) ∧ nb k_ Ao30 t828 co30)) (n := t836.length) (c := co45) ?_).2.2; exact (by (with_reducible repeat (first | apply Kd.Q_alloc | apply Kd.Q_drewN | apply Kd.Q_drew)); exact (Kd.Q_mono (Kd.Q_mono (Kd.Q_far (p := ⟨gb840, 0, none⟩) (Kd.Q_far (p := ⟨gb839, 0, none⟩) (Kd.Q_types (Kd.Q_types HO838.out BK839.out (by decide)) BK840.out (by decide)) (fun _ hk => by first | exact hk.1.2 | simp_all) (.slice Ao38 t833.length co38)) (fun _ hk => hk.2) (.slice Ao45 t836.length co45)) (fun _ h_ => h_.1)) (fun _ h_ => h_.1)))); (case side4 => exact (Kd.Q_reads' HO838.out).2.1); rintro e w51 ⟨v842, rfl, ho0, hb⟩; refine ⟨_, rfl, ?_⟩; have HO843 := am (Kd.R_lower (Kd.R_new' (Kd.R_new' (Kd.R_new' (Kd.R_new' (Kd.R_new' (Kd.R_new' ho0 (Kd.Q_lt (by (with_reducible repeat (first | apply Kd.Q_alloc | apply Kd.Q_drewN | apply Kd.Q_drew)); exact (Kd.Q_mono (Kd.Q_mono (Kd.Q_far (p := ⟨gb840, 0, none⟩) (Kd.Q_far (p := ⟨gb839, 0, none⟩) (Kd.Q_types (Kd.Q_types HO817.out BK839.out (by decide)) BK840.out (by decide)) (fun _ hk => by first | exact hk.1.2 | simp_all) (.slice Ao38 t833.length co38)) (fun _ hk => hk.2) (.slice Ao45 t836.length co45)) (fun _ h_ => h_.1)) (fun _ h_ => h_.1))))) (Kd.Q_lt (by (with_reducible repeat (first | apply Kd.Q_alloc | apply Kd.Q_drewN | apply Kd.Q_drew)); exact (Kd.Q_mono (Kd.Q_mono (Kd.Q_far (p := ⟨gb840, 0, none⟩) (Kd.Q_far (p := ⟨gb839, 0, none⟩) (Kd.Q_types (Kd.Q_types HO820.out BK839.out (by decide)) BK840.out (by decide)) (fun _ hk => by first | exact hk.1.2 | simp_all) (.slice Ao38 t833.length co38)) (fun _ hk => hk.2) (.slice Ao45 t836.length co45)) (fun _ h_ => h_.1)) (fun _ h_ => h_.1))))) (Kd.R_lt (by (with_reducible repeat (first | apply Kd.R_alloc | apply Kd.R_drewN | apply Kd.R_drew)); exact (Kd.R_mono (Kd.R_mono (Kd.R_far (p := ⟨gb840, 0, none⟩) (Kd.R_far (p := ⟨gb839, 0, none⟩) (Kd.R_types (Kd.R_types HO825.out BK839.out (by decide)) BK840.out (by decide)) (fun _ hk => by first | exact hk.1.2 | simp_all) (.slice Ao38 t833.length co38)) (fun _ hk => hk.2) (.slice Ao45 t836.length co45)) (fun _ h_ => h_.1)) (fun _ h_ => h_.1))))) (Kd.R_lt (by (with_reducible repeat (first | apply Kd.R_alloc | apply Kd.R_drewN | apply Kd.R_drew)); exact (Kd.R_mono (Kd.R_mono (Kd.R_far (p := ⟨gb840, 0, none⟩) (Kd.R_far (p := ⟨gb839, 0, none⟩) (Kd.R_types (Kd.R_types HO830.out BK839.out (by decide)) BK840.out (by decide)) (fun _ hk => by first | exact hk.1.2 | simp_all) (.slice Ao38 t833.length co38)) (fun _ hk => hk.2) (.slice Ao45 t836.length co45)) (fun _ h_ => h_.1)) (fun _ h_ => h_.1))))) (Kd.Q_lt (by (with_reducible repeat (first | apply Kd.Q_alloc | apply Kd.Q_drewN | apply Kd.Q_drew)); exact (Kd.Q_mono (Kd.Q_mono (Kd.Q_far (p := ⟨gb840, 0, none⟩) (Kd.Q_far (p := ⟨gb839, 0, none⟩) (Kd.Q_types (Kd.Q_types HO835.out BK839.out (by decide)) BK840.out (by decide)) (fun _ hk => by first | exact hk.1.2 | simp_all) (.slice Ao38 t833.length co38)) (fun _ hk => hk.2) (.slice Ao45 t836.length co45)) (fun _ h_ => h_.1)) (fun _ h_ => h_.1))))) (Kd.Q_lt (by (with_reducible repeat (first | apply Kd.Q_alloc | apply Kd.Q_drewN | apply Kd.Q_drew)); exact (Kd.Q_mono (Kd.Q_mono (Kd.Q_far (p := ⟨gb840, 0, none⟩) (Kd.Q_far (p := ⟨gb839, 0, none⟩) (Kd.Q_types (Kd.Q_types HO838.out BK839.out (by decide)) BK840.out (by decide)) (fun _ hk => by first | exact hk.1.2 | simp_all) (.slice Ao38 t833.length co38)) (fun _ hk => hk.2) (.slice Ao45 t836.length co45)) (fun _ h_ => h_.1)) (fun _ h_ => h_.1))))) (below_size bw)); replace HO817 := am (Kd.Q_elder' (by (with_reducible repeat (first | apply Kd.Q_alloc | apply Kd.Q_drewN | apply Kd.Q_drew)); exact (Kd.Q_mono (Kd.Q_mono (Kd.Q_far (p := ⟨gb840, 0, none⟩) (Kd.Q_far (p := ⟨gb839, 0, none⟩) (Kd.Q_types (Kd.Q_types HO817.out BK839.out (by decide)) BK840.out (by decide)) (fun _ hk => by first | exact hk.1.2 | simp_all) (.slice Ao38 t833.length co38)) (fun _ hk => hk.2) (.slice Ao45 t836.length co45)) (fun _ h_ => h_.1)) (fun _ h_ => h_.1))) (Kd.R_base ho0) hb); replace HO820 := am (Kd.Q_elder' (by (with_reducible repeat (first | apply Kd.Q_alloc | apply Kd.Q_drewN | apply Kd.Q_drew)); exact (Kd.Q_mono (Kd.Q_mono (Kd.Q_far (p := ⟨gb840, 0, none⟩) (Kd.Q_far (p := ⟨gb839, 0, none⟩) (Kd.Q_types (Kd.Q_types HO820.out BK839.out (by decide)) BK840.out (by decide)) (fun _ hk => by first | exact hk.1.2 | simp_all) (.slice Ao38 t833.length co38)) (fun _ hk => hk.2) (.slice Ao45 t836.length co45)) (fun _ h_ => h_.1)) (fun _ h_ => h_.1))) (Kd.R_base ho0) hb); replace HO825 := am (Kd.R_elder' (by (with_reducible repeat (first | apply Kd.R_alloc | apply Kd.R_drewN | apply Kd.R_drew)); exact (Kd.R_mono (Kd.R_mono (Kd.R_far (p := ⟨gb840, 0, none⟩) (Kd.R_far (p := ⟨gb839, 0, none⟩) (Kd.R_types (Kd.R_types HO825.out BK839.out (by decide)) BK840.out (by decide)) (fun _ hk => by first | exact hk.1.2 | simp_all) (.slice Ao38 t833.length co38)) (fun _ hk => hk.2) (.slice Ao45 t836.length co45)) (fun _ h_ => h_.1)) (fun _ h_ => h_.1))) (Kd.R_base ho0) hb); replace HO830 := am (Kd.R_elder' (by (with_reducible repeat (first | apply Kd.R_alloc | apply Kd.R_drewN | apply Kd.R_drew)); exact (Kd.R_mono (Kd.R_mono (Kd.R_far (p := ⟨gb840, 0, none⟩) (Kd.R_far (p := ⟨gb839, 0, none⟩) (Kd.R_types (Kd.R_types HO830.out BK839.out (by decide)) BK840.out (by decide)) (fun _ hk => by first | exact hk.1.2 | simp_all) (.slice Ao38 t833.length co38)) (fun _ hk => hk.2) (.slice Ao45 t836.length co45)) (fun _ h_ => h_.1)) (fun _ h_ => h_.1))) (Kd.R_base ho0) hb); replace HO835 := am (Kd.Q_elder' (by (with_reducible repeat (first | apply Kd.Q_alloc | apply Kd.Q_drewN | apply Kd.Q_drew)); exact (Kd.Q_mono (Kd.Q_mono (Kd.Q_far (p := ⟨gb840, 0, none⟩) (Kd.Q_far (p := ⟨gb839, 0, none⟩) (Kd.Q_types (Kd.Q_types HO835.out BK839.out (by decide)) BK840.out (by decide)) (fun _ hk => by first | exact hk.1.2 | simp_all) (.slice Ao38 t833.length co38)) (fun _ hk => hk.2) (.slice Ao45 t836.length co45)) (fun _ h_ => h_.1)) (fun _ h_ => h_.1))) (Kd.R_base ho0) hb); replace HO838 := am (Kd.Q_elder' (by (with_reducible repeat (first | apply Kd.Q_alloc | apply Kd.Q_drewN | apply Kd.Q_drew)); exact (Kd.Q_mono (Kd.Q_mono (Kd.Q_far (p := ⟨gb840, 0, none⟩) (Kd.Q_far (p := ⟨gb839, 0, none⟩) (Kd.Q_types (Kd.Q_types HO838.out BK839.out (by decide)) BK840.out (by decide)) (fun _ hk => by first | exact hk.1.2 | simp_all) (.slice Ao38 t833.length co38)) (fun _ hk => hk.2) (.slice Ao45 t836.length co45)) (fun _ h_ => h_.1)) (fun _ h_ => h_.1))) (Kd.R_base ho0) hb); replace BK821 := kb BK821 hb; replace BK822 := kb BK822 hb; replace BK827 := kb BK827 hb; replace BK832 := kb BK832 hb; replace BK839 := am (blk_below (g := gb839) (o := .cells #[.slice Ao38 t833.length co38] 26 (0, 0)) (by (with_reducible repeat (first | refine blk_drewN ?_ _ | refine blk_drew ?_ | refine blk_alloc ?_ _)); refine blk_far ?_ NB839_840.out _; (with_reducible repeat (first | refine blk_drewN ?_ _ | refine blk_drew ?_ | refine blk_alloc ?_ _)); refine blk_put (cs := #[.slice none 0 0]) ?_ 0 _ rfl; (with_reducible repeat (first | refine blk_drewN ?_ _ | refine blk_drew ?_ | refine blk_alloc ?_ _)); exact BK839.out) hb); replace BK840 := am (blk_below (g := gb840) (o := .cells #[.slice Ao45 t836.length co45] 26 (0, 0)) (by (with_reducible repeat (first | refine blk_drewN ?_ _ | refine blk_drew ?_ | refine blk_alloc ?_ _)); refine blk_put (cs := #[.slice none 0 0]) ?_ 0 _ rfl; (with_reducible repeat (first | refine blk_drewN ?_ _ | refine blk_drew ?_ | refine blk_alloc ?_ _)); refine blk_far ?_ NB840_839.out _; (with_reducible repeat (first | refine blk_drewN ?_ _ | refine blk_drew ?_ | refine blk_alloc ?_ _)); exact BK840.out) hb); replace HB := am (below_step bw hb); clear hb ho0) | ((with_reducible refine gate_dst (N := 11) rfl ?_); refine bx 11 #[.slice none 0 0] 26 ?_; intro gb845 hg w52 hbox hb; replace HO817 := qK HO817 hb; replace HO820 := qK HO820 hb; replace HO825 := rK HO825 hb; replace HO830 := rK HO830 hb; replace HO835 := qK HO835 hb; replace HO838 := qK HO838 hb; replace HO843 := rK HO843 hb; have BK845 := am (hbox); have GW845 := am (gs hg : w.heap.size ≤ gb845); have GE845 := GW845; replace HB := am (below_step bw hb); have NB821_845 := nl hg BK821; have NB845_821 := ns NB821_845; replace BK821 := kb BK821 hb; have NB822_845 := nl hg BK822; have NB845_822 := ns NB822_845; replace BK822 := kb BK822 hb; have NB827_845 := nl hg BK827; have NB845_827 := ns NB827_845; replace BK827 := kb BK827 hb; have NB832_845 := nl hg BK832; have NB845_832 := ns NB832_845; replace BK832 := kb BK832 hb; have NB839_845 := nl hg BK839; have NB845_839 := ns NB839_845; replace BK839 := kb BK839 hb; have NB840_845 := nl hg BK840; have NB845_840 := ns NB840_845; replace BK840 := kb BK840 hb; clear hb hbox hg; obtain ⟨Ao53, co53, eo53⟩ := Kd.R_slice HO843.out; subst eo53; have hnb54 := NB845_821.out; have hnc54 := NB821_845.out; have hnb55 := NB845_822.out; have hnc55 := NB822_845.out; have hnb56 := NB845_827.out; have hnc56 := NB827_845.out; have hnb57 := NB845_832.out; have hnc57 := NB832_845.out; have hnb58 := NB845_839.out; have hnc58 := NB839_845.out; have hnb59 := NB845_840.out; have hnc59 := NB840_845.out; have hcz60_0 := bc BK845 0 (.slice none 0 0); have hfz60_0 := blk_frozen BK845.out 0; have hcz61_0 := bc BK839 0 (.slice Ao38 t833.length co38); have hfz61_0 := blk_frozen BK839.out 0; have hcz62_0 := bc BK840 0 (.slice Ao45 t836.length co45); have hfz62_0 := blk_frozen BK840.out 0) | ((with_reducible refine gate_callee (f := 113) rfl ?_); refine gl (some 52) Try.func113 #[.agg #[.slice Ao38 t833.length co38], .agg #[.slice Ao45 t836.length co45]] ?_; (with_reducible refine (spec_AddOf.calls k _ _ t833 _ _ t836 t846 t849 _ ?side1 ?side2 ?side3 ?side4 A9.out).mono ?_); (case side1 => refine (Kd.Q_reads' (e := 3) (base := w.heap.size) (ok := fun k_ => (((((nb k_ Ao45 t836 co45 ∧ nb k_ Ao15 t815 co15) ∧ nb k_ Ao18 t818 co18) ∧ nb k_ Ao22 t823 co22) ∧ nb k_ Ao30 t828 co30) ∧ nb k_ Ao53 t841 co53)) (n := t833.length) (c := co38) ?_).2.2; exact (qF HO835 BK845 (.slice Ao53 t841.length co53))); (case side2 => exact (Kd.Q_reads' HO835.out).2.1); (case side3 => refine (Kd.Q_reads' (e := 3) (base := w.heap.size) (ok := fun k_ => (((((nb k_ Ao38 t833 co38 ∧ nb k_ Ao15 t815 co15) ∧ nb k_ Ao18 t818 co18) ∧ nb k_ Ao22 t823 co22) ∧ nb k_ Ao30 t828 co30) ∧ nb k_ Ao53 t841 co53)) (n := t836.length) (c := co45) ?_).2.2; exact (qF HO838 BK845 (.slice Ao53 t841.length co53))); (case side4 => exact (Kd.Q_reads' HO838.out).2.1); rintro e w63 ⟨v847, rfl, ho0, hb⟩; refine ⟨_, rfl, ?_⟩; have HO848 := am (Kd.R_lower (Kd.R_new' (Kd.R_new' (Kd.R_new' (Kd.R_new' (Kd.R_new' (Kd.R_new' (Kd.R_new' ho0 (Kd.Q_lt (qF HO817 BK845 (.slice Ao53 t841.length co53)))) (Kd.Q_lt (qF HO820 BK845 (.slice Ao53 t841.length co53)))) (Kd.R_lt (rF HO825 BK845 (.slice Ao53 t841.length co53)))) (Kd.R_lt (rF HO830 BK845 (.slice Ao53 t841.length co53)))) (Kd.Q_lt (qF HO835 BK845 (.slice Ao53 t841.length co53)))) (Kd.Q_lt (qF HO838 BK845 (.slice Ao53 t841.length co53)))) (Kd.R_lt (rF HO843 BK845 (.slice Ao53 t841.length co53)))) (below_size bw)); replace HO817 := am (Kd.Q_elder' (qF HO817 BK845 (.slice Ao53 t841.length co53)) (Kd.R_base ho0) hb); replace HO820 := am (Kd.Q_elder' (qF HO820 BK845 (.slice Ao53 t841.length co53)) (Kd.R_base ho0) hb); replace HO825 := am (Kd.R_elder' (rF HO825 BK845 (.slice Ao53 t841.length co53)) (Kd.R_base ho0) hb); replace HO830 := am (Kd.R_elder' (rF HO830 BK845 (.slice Ao53 t841.length co53)) (Kd.R_base ho0) hb); replace HO835 := am (Kd.Q_elder' (qF HO835 BK845 (.slice Ao53 t841.length co53)) (Kd.R_base ho0) hb); replace HO838 := am (Kd.Q_elder' (qF HO838 BK845 (.slice Ao53 t841.length co53)) (Kd.R_base ho0) hb); replace HO843 := am (Kd.R_elder' (rF HO843 BK845 (.slice Ao53 t841.length co53)) (Kd.R_base ho0) hb); replace BK821 := kb BK821 hb; replace BK822 := kb BK822 hb; replace BK827 := kb BK827 hb; replace BK832 := kb BK832 hb; replace BK839 := kb BK839 hb; replace BK840 := kb BK840 hb; replace BK845 := am (blk_below (g := gb845) (o := .cells #[.slice Ao53 t841.length co53] 26 (0, 0)) (by (with_reducible repeat (first | refine blk_drewN ?_ _ | refine blk_drew ?_ | refine blk_alloc ?_ _)); refine blk_put (cs := #[.slice none 0 0]) ?_ 0 _ rfl; (with_reducible repeat (first | refine blk_drewN ?_ _ | refine blk_drew ?_ | refine blk_alloc ?_ _)); exact BK845.out) hb); replace HB := am (below_step bw hb); clear hb ho0) | ((with_reducible refine gate_dst (N := 13) rfl ?_); refine bx 13 #[.slice none 0 0] 26 ?_; intro gb850 hg w64 hbox hb; replace HO817 := qK HO817 hb; replace HO820 := qK HO820 hb; replace HO825 := rK HO825 hb; replace HO830 := rK HO830 hb; replace HO835 := qK HO835 hb; replace HO838 := qK HO838 hb; replace HO843 := rK HO843 hb; replace HO848 := rK HO848 hb; have BK850 := am (hbox); have GW850 := am (gs hg : w.heap.size ≤ gb850); have GE850 := GW850; replace HB := am (below_step bw hb); have NB821_850 := nl hg BK821; have NB850_821 := ns NB821_850; replace BK821 := kb BK821 hb; have NB822_850 := nl hg BK822; have NB850_822 := ns NB822_850; replace BK822 := kb BK822 hb; have NB827_850 := nl hg BK827; have NB850_827 := ns NB827_850; replace BK827 := kb BK827 hb; have NB832_850 := nl hg BK832; have NB850_832 := ns NB832_850; replace BK832 := kb BK832 hb; have NB839_850 := nl hg BK839; have NB850_839 := ns NB839_850; replace BK839 := kb BK839 hb; have NB840_850 := nl hg BK840; have NB850_840 := ns NB840_850; replace BK840 := kb BK840 hb; have NB845_850 := nl hg BK845; have NB850_845 := ns NB845_850; replace BK845 := kb BK845 hb; clear hb hbox hg; obtain ⟨Ao65, co65, eo65⟩ := Kd.R_slice HO848.out; subst eo65; have hnb66 := NB850_821.out; have hnc66 := NB821_850.out; have hnb67 := NB850_822.out; have hnc67 := NB822_850.out; have hnb68 := NB850_827.out; have hnc68 := NB827_850.out; have hnb69 := NB850_832.out; have hnc69 := NB832_850.out; have hnb70 := NB850_839.out; have hnc70 := NB839_850.out; have hnb71 := NB850_840.out; have hnc71 := NB840_850.out; have hnb72 := NB850_845.out; have hnc72 := NB845_850.out; have hcz73_0 := bc BK850 0 (.slice none 0 0); have hfz73_0 := blk_frozen BK850.out 0) | ((with_reducible refine gate_callee (f := 114) rfl ?_); refine gl (some 57) Try.func114 #[.slice A0 l0.length c0] ?_; (with_reducible refine (spec_DrawIsWithin.calls k _ _ l0 t851 t854 _ ?side1 ?side2 A10.out).mono ?_); (case side1 => exact Kd.C_below HR0.out bw); (case side2 => exact HC0.out); rintro e w74 ⟨v852, v855, rfl, ho0, ho1, hb⟩; refine ⟨_, rfl, ?_⟩; have HO853 := am (Kd.Q_lower (Kd.Q_new' (Kd.Q_new' (Kd.Q_new' (Kd.Q_new' (Kd.Q_new' (Kd.Q_new' (Kd.Q_new' (Kd.Q_new' ho0 (Kd.Q_lt (qF HO817 BK850 (.slice Ao65 t846.length co65)))) (Kd.Q_lt (qF HO820 BK850 (.slice Ao65 t846.length co65)))) (Kd.R_lt (rF HO825 BK850 (.slice Ao65 t846.length co65)))) (Kd.R_lt (rF HO830 BK850 (.slice Ao65 t846.length co65)))) (Kd.Q_lt (qF HO835 BK850 (.slice Ao65 t846.length co65)))) (Kd.Q_lt (qF HO838 BK850 (.slice Ao65 t846.length co65)))) (Kd.R_lt (rF HO843 BK850 (.slice Ao65 t846.length co65)))) (Kd.R_lt (rF HO848 BK850 (.slice Ao65 t846.length co65)))) (below_size bw)); have HO856 := am (Kd.Q_lower (Kd.Q_new' (Kd.Q_new' (Kd.Q_new' (Kd.Q_new' (Kd.Q_new' (Kd.Q_new' (Kd.Q_new' (Kd.Q_new' ho1 (Kd.Q_lt (qF HO817 BK850 (.slice Ao65 t846.length co65)))) (Kd.Q_lt (qF HO820 BK850 (.slice Ao65 t846.length co65)))) (Kd.R_lt (rF HO825 BK850 (.slice Ao65 t846.length co65)))) (Kd.R_lt (rF HO830 BK850 (.slice Ao65 t846.length co65)))) (Kd.Q_lt (qF HO835 BK850 (.slice Ao65 t846.length co65)))) (Kd.Q_lt (qF HO838 BK850 (.slice Ao65 t846.length co65)))) (Kd.R_lt (rF HO843 BK850 (.slice Ao65 t846.length co65)))) (Kd.R_lt (rF HO848 BK850 (.slice Ao65 t846.length co65)))) (below_size bw)); replace HO817 := am (Kd.Q_mono (Kd.Q_told (Kd.Q_told (Kd.Q_old (qF HO817 BK850 (.slice Ao65 t846.length co65)) hb) (Kd.Q_base ho0)) (Kd.Q_base ho1)) (fun _ h_ => h_.1)); replace HO820 := am (Kd.Q_mono (Kd.Q_told (Kd.Q_told (Kd.Q_old (qF HO820 BK850 (.slice Ao65 t846.length co65)) hb) (Kd.Q_base ho0)) (Kd.Q_base ho1)) (fun _ h_ => h_.1)); replace HO825 := am (Kd.R_mono (Kd.R_told (Kd.R_told (Kd.R_old (rF HO825 BK850 (.slice Ao65 t846.length co65)) hb) (Kd.Q_base ho0)) (Kd.Q_base ho1)) (fun _ h_ => h_.1)); replace HO830 := am (Kd.R_mono (Kd.R_told (Kd.R_told (Kd.R_old (rF HO830 BK850 (.slice Ao65 t846.length co65)) hb) (Kd.Q_base ho0)) (Kd.Q_base ho1)) (fun _ h_ => h_.1)); replace HO835 := am (Kd.Q_mono (Kd.Q_told (Kd.Q_told (Kd.Q_old (qF HO835 BK850 (.slice Ao65 t846.length co65)) hb) (Kd.Q_base ho0)) (Kd.Q_base ho1)) (fun _ h_ => h_.1)); replace HO838 := am (Kd.Q_mono (Kd.Q_told (Kd.Q_told (Kd.Q_old (qF HO838 BK850 (.slice Ao65 t846.length co65)) hb) (Kd.Q_base ho0)) (Kd.Q_base ho1)) (fun _ h_ => h_.1)); replace HO843 := am (Kd.R_mono (Kd.R_told (Kd.R_told (Kd.R_old (rF HO843 BK850 (.slice Ao65 t846.length co65)) hb) (Kd.Q_base ho0)) (Kd.Q_base ho1)) (fun _ h_ => h_.1)); replace HO848 := am (Kd.R_mono (Kd.R_told (Kd.R_told (Kd.R_old (rF HO848 BK850 (.slice Ao65 t846.length co65)) hb) (Kd.Q_base ho0)) (Kd.Q_base ho1)) (fun _ h_ => h_.1)); replace BK821 := kb BK821 hb; replace BK822 := kb BK822 hb; replace BK827 := kb BK827 hb; replace BK832 := kb BK832 hb; replace BK839 := kb BK839 hb; replace BK840 := kb BK840 hb; replace BK845 := kb BK845 hb; replace BK850 := am (blk_below (g := gb850) (o := .cells #[.slice Ao65 t846.length co65] 26 (0, 0)) (by (with_reducible repeat (first | refine blk_drewN ?_ _ | refine blk_drew ?_ | refine blk_alloc ?_ _)); refine blk_put (cs := #[.slice none 0 0]) ?_ 0 _ rfl; (with_reducible repeat (first | refine blk_drewN ?_ _ | refine blk_drew ?_ | refine blk_alloc ?_ _)); exact BK850.out) hb); replace HB := am (below_step bw hb); clear hb ho0 ho1) | ((with_reducible refine gate_dst (N := 15) rfl ?_); refine bx 15 #[.slice none 0 0] 26 ?_; intro gb857 hg w75 hbox hb; replace HO817 := qK HO817 hb; replace HO820 := qK HO820 hb; replace HO825 := rK HO825 hb; replace HO830 := rK HO830 hb; replace HO835 := qK HO835 hb; replace HO838 := qK HO838 hb; replace HO843 := rK HO843 hb; replace HO848 := rK HO848 hb; replace HO853 := qK HO853 hb; replace HO856 := qK HO856 hb; have BK857 := am (hbox); have GW857 := am (gs hg : w.heap.size ≤ gb857); have GE857 := GW857; replace HB := am (below_step bw hb); have NB821_857 := nl hg BK821; have NB857_821 := ns NB821_857; replace BK821 := kb BK821 hb; have NB822_857 := nl hg BK822; have NB857_822 := ns NB822_857; replace BK822 := kb BK822 hb; have NB827_857 := nl hg BK827; have NB857_827 := ns NB827_857; replace BK827 := kb BK827 hb; have NB832_857 := nl hg BK832; have NB857_832 := ns NB832_857; replace BK832 := kb BK832 hb; have NB839_857 := nl hg BK839; have NB857_839 := ns NB839_857; replace BK839 := kb BK839 hb; have NB840_857 := nl hg BK840; have NB857_840 := ns NB840_857; replace BK840 := kb BK840 hb; have NB845_857 := nl hg BK845; have NB857_845 := ns NB845_857; replace BK845 := kb BK845 hb; have NB850_857 := nl hg BK850; have NB857_850 := ns NB850_857; replace BK850 := kb BK850 hb; clear hb hbox hg) | ((with_reducible refine gate_dst (N := 16) rfl ?_); refine bx 16 #[.slice none 0 0] 26 ?_; intro gb858 hg w76 hbox hb; replace HO817 := qK HO817 hb; replace HO820 := qK HO820 hb; replace HO825 := rK HO825 hb; replace HO830 := rK HO830 hb; replace HO835 := qK HO835 hb; replace HO838 := qK HO838 hb; replace HO843 := rK HO843 hb; replace HO848 := rK HO848 hb; replace HO853 := qK HO853 hb; replace HO856 := qK HO856 hb; have BK858 := am (hbox); have GW858 := am (gs hg : w.heap.size ≤ gb858); have GE858 := GW858; replace HB := am (below_step bw hb); have NB821_858 := nl hg BK821; have NB858_821 := ns NB821_858; replace BK821 := kb BK821 hb; have NB822_858 := nl hg BK822; have NB858_822 := ns NB822_858; replace BK822 := kb BK822 hb; have NB827_858 := nl hg BK827; have NB858_827 := ns NB827_858; replace BK827 := kb BK827 hb; have NB832_858 := nl hg BK832; have NB858_832 := ns NB832_858; replace BK832 := kb BK832 hb; have NB839_858 := nl hg BK839; have NB858_839 := ns NB839_858; replace BK839 := kb BK839 hb; have NB840_858 := nl hg BK840; have NB858_840 := ns NB840_858; replace BK840 := kb BK840 hb; have NB845_858 := nl hg BK845; have NB858_845 := ns NB845_858; replace BK845 := kb BK845 hb; have NB850_858 := nl hg BK850; have NB858_850 := ns NB850_858; replace BK850 := kb BK850 hb; have NB857_858 := nl hg BK857; have NB858_857 := ns NB857_858; replace BK857 := kb BK857 hb; clear hb hbox hg; obtain ⟨Ao77, co77, eo77, _⟩ := Kd.Q_slice HO853.out; subst eo77; have hnb78 := NB857_821.out; have hnc78 := NB821_857.out; have hnb79 := NB857_822.out; have hnc79 := NB822_857.out; have hnb80 := NB857_827.out; have hnc80 := NB827_857.out; have hnb81 := NB857_832.out; have hnc81 := NB832_857.out; have hnb82 := NB857_839.out; have hnc82 := NB839_857.out; have hnb83 := NB857_840.out; have hnc83 := NB840_857.out; have hnb84 := NB857_845.out; have hnc84 := NB845_857.out; have hnb85 := NB857_850.out; have hnc85 := NB850_857.out; have hnb86 := NB857_858.out; have hnc86 := NB858_857.out; have hcz87_0 := bc BK857 0 (.slice none 0 0); have hfz87_0 := blk_frozen BK857.out 0; obtain ⟨Ao88, co88, eo88, _⟩ := Kd.Q_slice HO856.out; subst eo88; have hnb89 := NB858_821.out; have hnc89 := NB821_858.out; have hnb90 := NB858_822.out; have hnc90 := NB822_858.out; have hnb91 := NB858_827.out; have hnc91 := NB827_858.out; have hnb92 := NB858_832.out; have hnc92 := NB832_858.out; have hnb93 := NB858_839.out; have hnc93 := NB839_858.out; have hnb94 := NB858_840.out; have hnc94 := NB840_858.out; have hnb95 := NB858_845.out; have hnc95 := NB845_858.out; have hnb96 := NB858_850.out; have hnc96 := NB850_858.out; have hcz97_0 := bc BK858 0 (.slice none 0 0); have hfz97_0 := blk_frozen BK858.out 0))
 (try simp only [Act.put, List.setIfInBounds_toArray, List.set_cons_zero, List.set_cons_succ])
 go_cut [88] (fun v88 wc => ∃ (kq : Nat) (x88_10 : Bool), v88 = .bool x88_10 ∧ Aside0 (laws_FnCombined.j0 kq t826 t844 x88_10 t815 t818 t823 t833 t836 t841 = some true) ∧ Aside0 (kq ≤ k) ∧ Aside0 (Kd.Q (Kd.int .i64) 3 wc w.heap.size (fun k_ => nb k_ Ao18 t818 co18 ∧ nb k_ Ao22 t823 co22 ∧ nb k_ Ao30 t828 co30 ∧ nb k_ Ao38 t833 co38 ∧ nb k_ Ao45 t836 co45 ∧ nb k_ Ao53 t841 co53 ∧ nb k_ Ao65 t846 co65 ∧ nb k_ Ao77 t851 co77 ∧ nb k_ Ao88 t854 co88) (.slice Ao15 t815.length co15) t815) ∧ Aside0 (Kd.Q (Kd.int .i64) 3 wc w.heap.size (fun k_ => nb k_ Ao15 t815 co15 ∧ nb k_ Ao22 t823 co22 ∧ nb k_ Ao30 t828 co30 ∧ nb k_ Ao38 t833 co38 ∧ nb k_ Ao45 t836 co45 ∧ nb k_ Ao53 t841 co53 ∧ nb k_ Ao65 t846 co65 ∧ nb k_ Ao77 t851 co77 ∧ nb k_ Ao88 t854 co88) (.slice Ao18 t818.length co18) t818) ∧ Aside0 (Kd.Q (Kd.int .i64) 3 wc w.heap.size (fun k_ => nb k_ Ao15 t815 co15 ∧ nb k_ Ao18 t818 co18 ∧ nb k_ Ao30 t828 co30 ∧ nb k_ Ao38 t833 co38 ∧ nb k_ Ao45 t836 co45 ∧ nb k_ Ao53 t841 co53 ∧ nb k_ Ao65 t846 co65 ∧ nb k_ Ao77 t851 co77 ∧ nb k_ Ao88 t854 co88) (.slice Ao22 t823.length co22) t823) ∧ Aside0 (Kd.Q (Kd.int .i64) 3 wc w.heap.size (fun k_ => nb k_ Ao15 t815 co15 ∧ nb k_ Ao18 t818 co18 ∧ nb k_ Ao22 t823 co22 ∧ nb k_ Ao38 t833 co38 ∧ nb k_ Ao45 t836 co45 ∧ nb k_ Ao53 t841 co53 ∧ nb k_ Ao65 t846 co65 ∧ nb k_ Ao77 t851 co77 ∧ nb k_ Ao88 t854 co88) (.slice Ao30 t828.length co30) t828) ∧ Aside0 (Kd.Q (Kd.int .i64) 3 wc w.heap.size (fun k_ => nb k_ Ao15 t815 co15 ∧ nb k_ Ao18 t818 co18 ∧ nb k_ Ao22 t823 co22 ∧ nb k_ Ao30 t828 co30 ∧ nb k_ Ao45 t836 co45 ∧ nb k_ Ao53 t841 co53 ∧ nb k_ Ao65 t846 co65 ∧ nb k_ Ao77 t851 co77 ∧ nb k_ Ao88 t854 co88) (.slice Ao38 t833.length co38) t833) ∧ Aside0 (Kd.Q (Kd.int .i64) 3 wc w.heap.size (fun k_ => nb k_ Ao15 t815 co15 ∧ nb k_ Ao18 t818 co18 ∧ nb k_ Ao22 t823 co22 ∧ nb k_ Ao30 t828 co30 ∧ nb k_ Ao38 t833 co38 ∧ nb k_ Ao53 t841 co53 ∧ nb k_ Ao65 t846 co65 ∧ nb k_ Ao77 t851 co77 ∧ nb k_ Ao88 t854 co88) (.slice Ao45 t836.length co45) t836) ∧ Aside0 (Kd.Q (Kd.int .i64) 3 wc w.heap.size (fun k_ => nb k_ Ao15 t815 co15 ∧ nb k_ Ao18 t818 co18 ∧ nb k_ Ao22 t823 co22 ∧ nb k_ Ao30 t828 co30 ∧ nb k_ Ao38 t833 co38 ∧ nb k_ Ao45 t836 co45 ∧ nb k_ Ao65 t846 co65 ∧ nb k_ Ao77 t851 co77 ∧ nb k_ Ao88 t854 co88) (.slice Ao53 t841.length co53) t841) ∧ Aside0 (Kd.Q (Kd.int .i64) 3 wc w.heap.size (fun k_ => nb k_ Ao15 t815 co15 ∧ nb k_ Ao18 t818 co18 ∧ nb k_ Ao22 t823 co22 ∧ nb k_ Ao30 t828 co30 ∧ nb k_ Ao38 t833 co38 ∧ nb k_ Ao45 t836 co45 ∧ nb k_ Ao53 t841 co53 ∧ nb k_ Ao77 t851 co77 ∧ nb k_ Ao88 t854 co88) (.slice Ao65 t846.length co65) t846) ∧ Aside0 (Kd.Q (Kd.int .i64) 3 wc w.heap.size (fun k_ => nb k_ Ao15 t815 co15 ∧ nb k_ Ao18 t818 co18 ∧ nb k_ Ao22 t823 co22 ∧ nb k_ Ao30 t828 co30 ∧ nb k_ Ao38 t833 co38 ∧ nb k_ Ao45 t836 co45 ∧ nb k_ Ao53 t841 co53 ∧ nb k_ Ao65 t846 co65 ∧ nb k_ Ao88 t854 co88) (.slice Ao77 t851.length co77) t851) ∧ Aside0 (Kd.Q (Kd.int .i64) 3 wc w.heap.size (fun k_ => nb k_ Ao15 t815 co15 ∧ nb k_ Ao18 t818 co18 ∧ nb k_ Ao22 t823 co22 ∧ nb k_ Ao30 t828 co30 ∧ nb k_ Ao38 t833 co38 ∧ nb k_ Ao45 t836 co45 ∧ nb k_ Ao53 t841 co53 ∧ nb k_ Ao65 t846 co65 ∧ nb k_ Ao77 t851 co77) (.slice Ao88 t854.length co88) t854) ∧ Aside0 (wc.heap[gb821]? = some (.cells #[(.slice Ao15 t815.length co15)] 26 (0, 0))) ∧ Aside0 (wc.heap[gb822]? = some (.cells #[(.slice Ao18 t818.length co18)] 26 (0, 0))) ∧ Aside0 (wc.heap[gb827]? = some (.cells #[(.slice Ao22 t823.length co22)] 26 (0, 0))) ∧ Aside0 (wc.heap[gb832]? = some (.cells #[(.slice Ao30 t828.length co30)] 26 (0, 0))) ∧ Aside0 (wc.heap[gb839]? = some (.cells #[(.slice Ao38 t833.length co38)] 26 (0, 0))) ∧ Aside0 (wc.heap[gb840]? = some (.cells #[(.slice Ao45 t836.length co45)] 26 (0, 0))) ∧ Aside0 (wc.heap[gb845]? = some (.cells #[(.slice Ao53 t841.length co53)] 26 (0, 0))) ∧ Aside0 (wc.heap[gb850]? = some (.cells #[(.slice Ao65 t846.length co65)] 26 (0, 0))) ∧ Aside0 (wc.heap[gb857]? = some (.cells #[(.slice Ao77 t851.length co77)] 26 (0, 0))) ∧ Aside0 (wc.heap[gb858]? = some (.cells #[(.slice Ao88 t854.length co88)] 26 (0, 0))) ∧ Aside0 (Below w.heap.size w wc))
 case first =>
  have H := HC11.out
  clear HC11
  by_cases c98 : (t826 != t831) = true
  ·rw [if_pos c98] at H
   exact absurd H (laws_FnCombined.j0_no)
  rw [if_neg c98] at H
  have c98b0 : (t826 != t831) = false := by simpa using c98
  (try (have c98b1 : decide (t826 = t831) = true := by simpa using c98))
  (try (have c98b2 : (t826 == t831) = true := by simpa using c98))
  clear c98
  (first | rw [c98b0] | (simp only [i64_w, i32_w]; rw [c98b0]) | skip)
  replace H := ga H; obtain ⟨t859, A101, H⟩ := H
  by_cases c102 : t859 = true
  ·subst c102
   have H1 : (if (t844 != t849) = true then (laws_FnCombined.j0 k t826 t844 true t815 t818 t823 t833 t836 t841) else ((spec_EqualSemigroup.f k t841 t846).bind fun t860 => (if t860 = true then ((impl_IsWithin.f k t851 t854).bind fun t861 => ((spec_IsWithin.f k t851 t854).bind fun t862 => (laws_FnCombined.j0 k t826 t844 (t861 != t862) t815 t818 t823 t833 t836 t841))) else (laws_FnCombined.j0 k t826 t844 true t815 t818 t823 t833 t836 t841)))) = some true := by rw [if_pos rfl] at H; exact H
   clear H
   have H := H1
   clear H1
   by_cases c103 : (t844 != t849) = true
   ·rw [if_pos c103] at H
    exact absurd H (laws_FnCombined.j0_no)
   rw [if_neg c103] at H
   have c103b0 : (t844 != t849) = false := by simpa using c103
   (try (have c103b1 : decide (t844 = t849) = true := by simpa using c103))
   (try (have c103b2 : (t844 == t849) = true := by simpa using c103))
   clear c103
   replace H := ga H; obtain ⟨t860, A107, H⟩ := H
   by_cases c108 : t860 = true
   ·subst c108
    have H1 : ((impl_IsWithin.f k t851 t854).bind fun t861 => ((spec_IsWithin.f k t851 t854).bind fun t862 => (laws_FnCombined.j0 k t826 t844 (t861 != t862) t815 t818 t823 t833 t836 t841))) = some true := by rw [if_pos rfl] at H; exact H
    clear H
    have H := H1
    clear H1
    replace H := ga H; obtain ⟨t861, A109, H⟩ := H
    replace H := ga H; obtain ⟨t862, A110, H⟩ := H
    have H' := am H
    clear H
    try go_wp2
    have n0_ : Aside0 (Kd.Q (Kd.int .i64) 3 ((w76.setCell ⟨gb857, 0, none⟩ (.slice Ao77 t851.length co77)).setCell ⟨gb858, 0, none⟩ (.slice Ao88 t854.length co88)) w.heap.size (fun k_ => nb k_ Ao18 t818 co18 ∧ nb k_ Ao22 t823 co22 ∧ nb k_ Ao30 t828 co30 ∧ nb k_ Ao38 t833 co38 ∧ nb k_ Ao45 t836 co45 ∧ nb k_ Ao53 t841 co53 ∧ nb k_ Ao65 t846 co65 ∧ nb k_ Ao77 t851 co77 ∧ nb k_ Ao88 t854 co88) (.slice Ao15 t815.length co15) t815) := ⟨by (with_reducible repeat (first | apply Kd.Q_alloc | apply Kd.Q_drewN | apply Kd.Q_drew)); exact Kd.Q_mono (Kd.Q_far (p := ⟨gb858, 0, none⟩) (Kd.Q_far (p := ⟨gb857, 0, none⟩) (Kd.Q_types (Kd.Q_types HO817.out BK857.out (by decide)) BK858.out (by decide)) (fun _ hk => by first | exact hk.1.2 | simp_all) (.slice Ao77 t851.length co77)) (fun _ hk => hk.2) (.slice Ao88 t854.length co88)) (fun _ hk => ⟨hk.1.1.1.1.1.1.1.1.1.1, ⟨hk.1.1.1.1.1.1.1.1.1.2, ⟨hk.1.1.1.1.1.1.1.1.2, ⟨hk.1.1.1.1.1.1.1.2, ⟨hk.1.1.1.1.1.1.2, ⟨hk.1.1.1.1.1.2, ⟨hk.1.1.1.1.2, ⟨hk.1.1.1.2, hk.1.1.2⟩⟩⟩⟩⟩⟩⟩⟩)⟩
    have n1_ : Aside0 (Kd.Q (Kd.int .i64) 3 ((w76.setCell ⟨gb857, 0, none⟩ (.slice Ao77 t851.length co77)).setCell ⟨gb858, 0, none⟩ (.slice Ao88 t854.length co88)) w.heap.size (fun k_ => nb k_ Ao15 t815 co15 ∧ nb k_ Ao22 t823 co22 ∧ nb k_ Ao30 t828 co30 ∧ nb k_ Ao38 t833 co38 ∧ nb k_ Ao45 t836 co45 ∧ nb k_ Ao53 t841 co53 ∧ nb k_ Ao65 t846 co65 ∧ nb k_ Ao77 t851 co77 ∧ nb k_ Ao88 t854 co88) (.slice Ao18 t818.length co18) t818) := ⟨by (with_reducible repeat (first | apply Kd.Q_alloc | apply Kd.Q_drewN | apply Kd.Q_drew)); exact Kd.Q_mono (Kd.Q_far (p := ⟨gb858, 0, none⟩) (Kd.Q_far (p := ⟨gb857, 0, none⟩) (Kd.Q_types (Kd.Q_types HO820.out BK857.out (by decide)) BK858.out (by decide)) (fun _ hk => by first | exact hk.1.2 | simp_all) (.slice Ao77 t851.length co77)) (fun _ hk => hk.2) (.slice Ao88 t854.length co88)) (fun _ hk => ⟨hk.1.1.1.1.1.1.1.1.1.1, ⟨hk.1.1.1.1.1.1.1.1.1.2, ⟨hk.1.1.1.1.1.1.1.1.2, ⟨hk.1.1.1.1.1.1.1.2, ⟨hk.1.1.1.1.1.1.2, ⟨hk.1.1.1.1.1.2, ⟨hk.1.1.1.1.2, ⟨hk.1.1.1.2, hk.1.1.2⟩⟩⟩⟩⟩⟩⟩⟩)⟩
    have n2_ : Aside0 (Kd.R (Kd.int .i64) 3 ((w76.setCell ⟨gb857, 0, none⟩ (.slice Ao77 t851.length co77)).setCell ⟨gb858, 0, none⟩ (.slice Ao88 t854.length co88)) w.heap.size (fun k_ => nb k_ Ao15 t815 co15 ∧ nb k_ Ao18 t818 co18 ∧ nb k_ Ao30 t828 co30 ∧ nb k_ Ao38 t833 co38 ∧ nb k_ Ao45 t836 co45 ∧ nb k_ Ao53 t841 co53 ∧ nb k_ Ao65 t846 co65 ∧ nb k_ Ao77 t851 co77 ∧ nb k_ Ao88 t854 co88) (.slice Ao22 t823.length co22) t823) := ⟨by (with_reducible repeat (first | apply Kd.R_alloc | apply Kd.R_drewN | apply Kd.R_drew)); exact Kd.R_mono (Kd.R_far (p := ⟨gb858, 0, none⟩) (Kd.R_far (p := ⟨gb857, 0, none⟩) (Kd.R_types (Kd.R_types HO825.out BK857.out (by decide)) BK858.out (by decide)) (fun _ hk => by first | exact hk.1.2 | simp_all) (.slice Ao77 t851.length co77)) (fun _ hk => hk.2) (.slice Ao88 t854.length co88)) (fun _ hk => ⟨hk.1.1.1.1.1.1.1.1.1.1.2, ⟨hk.1.1.1.1.1.1.1.1.1.2, ⟨hk.1.1.1.1.1.1.1.1.2, ⟨hk.1.1.1.1.1.1.1.2, ⟨hk.1.1.1.1.1.1.2, ⟨hk.1.1.1.1.1.2, ⟨hk.1.1.1.1.2, ⟨hk.1.1.1.2, hk.1.1.2⟩⟩⟩⟩⟩⟩⟩⟩)⟩
    have n3_ : Aside0 (Kd.R (Kd.int .i64) 3 ((w76.setCell ⟨gb857, 0, none⟩ (.slice Ao77 t851.length co77)).setCell ⟨gb858, 0, none⟩ (.slice Ao88 t854.length co88)) w.heap.size (fun k_ => nb k_ Ao15 t815 co15 ∧ nb k_ Ao18 t818 co18 ∧ nb k_ Ao22 t823 co22 ∧ nb k_ Ao38 t833 co38 ∧ nb k_ Ao45 t836 co45 ∧ nb k_ Ao53 t841 co53 ∧ nb k_ Ao65 t846 co65 ∧ nb k_ Ao77 t851 co77 ∧ nb k_ Ao88 t854 co88) (.slice Ao30 t828.length co30) t828) := ⟨by (with_reducible repeat (first | apply Kd.R_alloc | apply Kd.R_drewN | apply Kd.R_drew)); exact Kd.R_mono (Kd.R_far (p := ⟨gb858, 0, none⟩) (Kd.R_far (p := ⟨gb857, 0, none⟩) (Kd.R_types (Kd.R_types HO830.out BK857.out (by decide)) BK858.out (by decide)) (fun _ hk => by first | exact hk.1.2 | simp_all) (.slice Ao77 t851.length co77)) (fun _ hk => hk.2) (.slice Ao88 t854.length co88)) (fun _ hk => ⟨hk.1.1.1.1.1.1.1.1.1.1.2, ⟨hk.1.1.1.1.1.1.1.1.1.2, ⟨hk.1.1.1.1.1.1.1.1.2, ⟨hk.1.1.1.1.1.1.1.2, ⟨hk.1.1.1.1.1.1.2, ⟨hk.1.1.1.1.1.2, ⟨hk.1.1.1.1.2, ⟨hk.1.1.1.2, hk.1.1.2⟩⟩⟩⟩⟩⟩⟩⟩)⟩
    have n4_ : Aside0 (Kd.Q (Kd.int .i64) 3 ((w76.setCell ⟨gb857, 0, none⟩ (.slice Ao77 t851.length co77)).setCell ⟨gb858, 0, none⟩ (.slice Ao88 t854.length co88)) w.heap.size (fun k_ => nb k_ Ao15 t815 co15 ∧ nb k_ Ao18 t818 co18 ∧ nb k_ Ao22 t823 co22 ∧ nb k_ Ao30 t828 co30 ∧ nb k_ Ao45 t836 co45 ∧ nb k_ Ao53 t841 co53 ∧ nb k_ Ao65 t846 co65 ∧ nb k_ Ao77 t851 co77 ∧ nb k_ Ao88 t854 co88) (.slice Ao38 t833.length co38) t833) := ⟨by (with_reducible repeat (first | apply Kd.Q_alloc | apply Kd.Q_drewN | apply Kd.Q_drew)); exact Kd.Q_mono (Kd.Q_far (p := ⟨gb858, 0, none⟩) (Kd.Q_far (p := ⟨gb857, 0, none⟩) (Kd.Q_types (Kd.Q_types HO835.out BK857.out (by decide)) BK858.out (by decide)) (fun _ hk => by first | exact hk.1.2 | simp_all) (.slice Ao77 t851.length co77)) (fun _ hk => hk.2) (.slice Ao88 t854.length co88)) (fun _ hk => ⟨hk.1.1.1.1.1.1.1.1.1.2, ⟨hk.1.1.1.1.1.1.1.1.2, ⟨hk.1.1.1.1.1.1.1.2, ⟨hk.1.1.1.1.1.1.2, ⟨hk.1.1.1.1.1.1.1.1.1.1, ⟨hk.1.1.1.1.1.2, ⟨hk.1.1.1.1.2, ⟨hk.1.1.1.2, hk.1.1.2⟩⟩⟩⟩⟩⟩⟩⟩)⟩
    have n5_ : Aside0 (Kd.Q (Kd.int .i64) 3 ((w76.setCell ⟨gb857, 0, none⟩ (.slice Ao77 t851.length co77)).setCell ⟨gb858, 0, none⟩ (.slice Ao88 t854.length co88)) w.heap.size (fun k_ => nb k_ Ao15 t815 co15 ∧ nb k_ Ao18 t818 co18 ∧ nb k_ Ao22 t823 co22 ∧ nb k_ Ao30 t828 co30 ∧ nb k_ Ao38 t833 co38 ∧ nb k_ Ao53 t841 co53 ∧ nb k_ Ao65 t846 co65 ∧ nb k_ Ao77 t851 co77 ∧ nb k_ Ao88 t854 co88) (.slice Ao45 t836.length co45) t836) := ⟨by (with_reducible repeat (first | apply Kd.Q_alloc | apply Kd.Q_drewN | apply Kd.Q_drew)); exact Kd.Q_mono (Kd.Q_far (p := ⟨gb858, 0, none⟩) (Kd.Q_far (p := ⟨gb857, 0, none⟩) (Kd.Q_types (Kd.Q_types HO838.out BK857.out (by decide)) BK858.out (by decide)) (fun _ hk => by first | exact hk.1.2 | simp_all) (.slice Ao77 t851.length co77)) (fun _ hk => hk.2) (.slice Ao88 t854.length co88)) (fun _ hk => ⟨hk.1.1.1.1.1.1.1.1.1.2, ⟨hk.1.1.1.1.1.1.1.1.2, ⟨hk.1.1.1.1.1.1.1.2, ⟨hk.1.1.1.1.1.1.2, ⟨hk.1.1.1.1.1.1.1.1.1.1, ⟨hk.1.1.1.1.1.2, ⟨hk.1.1.1.1.2, ⟨hk.1.1.1.2, hk.1.1.2⟩⟩⟩⟩⟩⟩⟩⟩)⟩
    have n6_ : Aside0 (Kd.R (Kd.int .i64) 3 ((w76.setCell ⟨gb857, 0, none⟩ (.slice Ao77 t851.length co77)).setCell ⟨gb858, 0, none⟩ (.slice Ao88 t854.length co88)) w.heap.size (fun k_ => nb k_ Ao15 t815 co15 ∧ nb k_ Ao18 t818 co18 ∧ nb k_ Ao22 t823 co22 ∧ nb k_ Ao30 t828 co30 ∧ nb k_ Ao38 t833 co38 ∧ nb k_ Ao45 t836 co45 ∧ nb k_ Ao65 t846 co65 ∧ nb k_ Ao77 t851 co77 ∧ nb k_ Ao88 t854 co88) (.slice Ao53 t841.length co53) t841) := ⟨by (with_reducible repeat (first | apply Kd.R_alloc | apply Kd.R_drewN | apply Kd.R_drew)); exact Kd.R_mono (Kd.R_far (p := ⟨gb858, 0, none⟩) (Kd.R_far (p := ⟨gb857, 0, none⟩) (Kd.R_types (Kd.R_types HO843.out BK857.out (by decide)) BK858.out (by decide)) (fun _ hk => by first | exact hk.1.2 | simp_all) (.slice Ao77 t851.length co77)) (fun _ hk => hk.2) (.slice Ao88 t854.length co88)) (fun _ hk => ⟨hk.1.1.1.1.1.1.1.1.1.1.2, ⟨hk.1.1.1.1.1.1.1.1.1.2, ⟨hk.1.1.1.1.1.1.1.1.2, ⟨hk.1.1.1.1.1.1.1.2, ⟨hk.1.1.1.1.1.1.2, ⟨hk.1.1.1.1.1.2, ⟨hk.1.1.1.1.2, ⟨hk.1.1.1.2, hk.1.1.2⟩⟩⟩⟩⟩⟩⟩⟩)⟩
    have n7_ : Aside0 (Kd.R (Kd.int .i64) 3 ((w76.setCell ⟨gb857, 0, none⟩ (.slice Ao77 t851.length co77)).setCell ⟨gb858, 0, none⟩ (.slice Ao88 t854.length co88)) w.heap.size (fun k_ => nb k_ Ao15 t815 co15 ∧ nb k_ Ao18 t818 co18 ∧ nb k_ Ao22 t823 co22 ∧ nb k_ Ao30 t828 co30 ∧ nb k_ Ao38 t833 co38 ∧ nb k_ Ao45 t836 co45 ∧ nb k_ Ao53 t841 co53 ∧ nb k_ Ao77 t851 co77 ∧ nb k_ Ao88 t854 co88) (.slice Ao65 t846.length co65) t846) := ⟨by (with_reducible repeat (first | apply Kd.R_alloc | apply Kd.R_drewN | apply Kd.R_drew)); exact Kd.R_mono (Kd.R_far (p := ⟨gb858, 0, none⟩) (Kd.R_far (p := ⟨gb857, 0, none⟩) (Kd.R_types (Kd.R_types HO848.out BK857.out (by decide)) BK858.out (by decide)) (fun _ hk => by first | exact hk.1.2 | simp_all) (.slice Ao77 t851.length co77)) (fun _ hk => hk.2) (.slice Ao88 t854.length co88)) (fun _ hk => ⟨hk.1.1.1.1.1.1.1.1.1.1.2, ⟨hk.1.1.1.1.1.1.1.1.1.2, ⟨hk.1.1.1.1.1.1.1.1.2, ⟨hk.1.1.1.1.1.1.1.2, ⟨hk.1.1.1.1.1.1.2, ⟨hk.1.1.1.1.1.2, ⟨hk.1.1.1.1.2, ⟨hk.1.1.1.2, hk.1.1.2⟩⟩⟩⟩⟩⟩⟩⟩)⟩
    have n8_ : Aside0 (Kd.Q (Kd.int .i64) 3 ((w76.setCell ⟨gb857, 0, none⟩ (.slice Ao77 t851.length co77)).setCell ⟨gb858, 0, none⟩ (.slice Ao88 t854.length co88)) w.heap.size (fun k_ => nb k_ Ao15 t815 co15 ∧ nb k_ Ao18 t818 co18 ∧ nb k_ Ao22 t823 co22 ∧ nb k_ Ao30 t828 co30 ∧ nb k_ Ao38 t833 co38 ∧ nb k_ Ao45 t836 co45 ∧ nb k_ Ao53 t841 co53 ∧ nb k_ Ao65 t846 co65 ∧ nb k_ Ao88 t854 co88) (.slice Ao77 t851.length co77) t851) := ⟨by (with_reducible repeat (first | apply Kd.Q_alloc | apply Kd.Q_drewN | apply Kd.Q_drew)); exact Kd.Q_mono (Kd.Q_far (p := ⟨gb858, 0, none⟩) (Kd.Q_far (p := ⟨gb857, 0, none⟩) (Kd.Q_types (Kd.Q_types HO853.out BK857.out (by decide)) BK858.out (by decide)) (fun _ hk => by first | exact hk.1.2 | simp_all) (.slice Ao77 t851.length co77)) (fun _ hk => hk.2) (.slice Ao88 t854.length co88)) (fun _ hk => ⟨hk.1.1.1.1.1.1.1.1.1.2, ⟨hk.1.1.1.1.1.1.1.1.2, ⟨hk.1.1.1.1.1.1.1.2, ⟨hk.1.1.1.1.1.1.2, ⟨hk.1.1.1.1.1.2, ⟨hk.1.1.1.1.2, ⟨hk.1.1.1.2, ⟨hk.1.1.2, hk.1.1.1.1.1.1.1.1.1.1⟩⟩⟩⟩⟩⟩⟩⟩)⟩
    have n9_ : Aside0 (Kd.Q (Kd.int .i64) 3 ((w76.setCell ⟨gb857, 0, none⟩ (.slice Ao77 t851.length co77)).setCell ⟨gb858, 0, none⟩ (.slice Ao88 t854.length co88)) w.heap.size (fun k_ => nb k_ Ao15 t815 co15 ∧ nb k_ Ao18 t818 co18 ∧ nb k_ Ao22 t823 co22 ∧ nb k_ Ao30 t828 co30 ∧ nb k_ Ao38 t833 co38 ∧ nb k_ Ao45 t836 co45 ∧ nb k_ Ao53 t841 co53 ∧ nb k_ Ao65 t846 co65 ∧ nb k_ Ao77 t851 co77) (.slice Ao88 t854.length co88) t854) := ⟨by (with_reducible repeat (first | apply Kd.Q_alloc | apply Kd.Q_drewN | apply Kd.Q_drew)); exact Kd.Q_mono (Kd.Q_far (p := ⟨gb858, 0, none⟩) (Kd.Q_far (p := ⟨gb857, 0, none⟩) (Kd.Q_types (Kd.Q_types HO856.out BK857.out (by decide)) BK858.out (by decide)) (fun _ hk => by first | exact hk.1.2 | simp_all) (.slice Ao77 t851.length co77)) (fun _ hk => hk.2) (.slice Ao88 t854.length co88)) (fun _ hk => ⟨hk.1.1.1.1.1.1.1.1.1.2, ⟨hk.1.1.1.1.1.1.1.1.2, ⟨hk.1.1.1.1.1.1.1.2, ⟨hk.1.1.1.1.1.1.2, ⟨hk.1.1.1.1.1.2, ⟨hk.1.1.1.1.2, ⟨hk.1.1.1.2, ⟨hk.1.1.2, hk.1.1.1.1.1.1.1.1.1.1⟩⟩⟩⟩⟩⟩⟩⟩)⟩
    have n10_ : Aside0 (((w76.setCell ⟨gb857, 0, none⟩ (.slice Ao77 t851.length co77)).setCell ⟨gb858, 0, none⟩ (.slice Ao88 t854.length co88)).heap[gb821]? = some (.cells #[.slice Ao15 t815.length co15] 26 (0, 0))) := ⟨bf BK821.out⟩
    have n11_ : Aside0 (((w76.setCell ⟨gb857, 0, none⟩ (.slice Ao77 t851.length co77)).setCell ⟨gb858, 0, none⟩ (.slice Ao88 t854.length co88)).heap[gb822]? = some (.cells #[.slice Ao18 t818.length co18] 26 (0, 0))) := ⟨bf BK822.out⟩
    have n12_ : Aside0 (((w76.setCell ⟨gb857, 0, none⟩ (.slice Ao77 t851.length co77)).setCell ⟨gb858, 0, none⟩ (.slice Ao88 t854.length co88)).heap[gb827]? = some (.cells #[.slice Ao22 t823.length co22] 26 (0, 0))) := ⟨bf BK827.out⟩
    have n13_ : Aside0 (((w76.setCell ⟨gb857, 0, none⟩ (.slice Ao77 t851.length co77)).setCell ⟨gb858, 0, none⟩ (.slice Ao88 t854.length co88)).heap[gb832]? = some (.cells #[.slice Ao30 t828.length co30] 26 (0, 0))) := ⟨bf BK832.out⟩
    have n14_ : Aside0 (((w76.setCell ⟨gb857, 0, none⟩ (.slice Ao77 t851.length co77)).setCell ⟨gb858, 0, none⟩ (.slice Ao88 t854.length co88)).heap[gb839]? = some (.cells #[.slice Ao38 t833.length co38] 26 (0, 0))) := ⟨bf BK839.out⟩
    have n15_ : Aside0 (((w76.setCell ⟨gb857, 0, none⟩ (.slice Ao77 t851.length co77)).setCell ⟨gb858, 0, none⟩ (.slice Ao88 t854.length co88)).heap[gb840]? = some (.cells #[.slice Ao45 t836.length co45] 26 (0, 0))) := ⟨bf BK840.out⟩
    have n16_ : Aside0 (((w76.setCell ⟨gb857, 0, none⟩ (.slice Ao77 t851.length co77)).setCell ⟨gb858, 0, none⟩ (.slice Ao88 t854.length co88)).heap[gb845]? = some (.cells #[.slice Ao53 t841.length co53] 26 (0, 0))) := ⟨bf BK845.out⟩
    have n17_ : Aside0 (((w76.setCell ⟨gb857, 0, none⟩ (.slice Ao77 t851.length co77)).setCell ⟨gb858, 0, none⟩ (.slice Ao88 t854.length co88)).heap[gb850]? = some (.cells #[.slice Ao65 t846.length co65] 26 (0, 0))) := ⟨bf BK850.out⟩
    have n18_ : Aside0 (((w76.setCell ⟨gb857, 0, none⟩ (.slice Ao77 t851.length co77)).setCell ⟨gb858, 0, none⟩ (.slice Ao88 t854.length co88)).heap[gb857]? = some (.cells #[.slice Ao77 t851.length co77] 26 (0, 0))) := ⟨by (with_reducible repeat (first | refine blk_drewN ?_ _ | refine blk_drew ?_ | refine blk_alloc ?_ _)); refine blk_far ?_ NB857_858.out _; (with_reducible repeat (first | refine blk_drewN ?_ _ | refine blk_drew ?_ | refine blk_alloc ?_ _)); refine blk_put (cs := #[.slice none 0 0]) ?_ 0 _ rfl; (with_reducible repeat (first | refine blk_drewN ?_ _ | refine blk_drew ?_ | refine blk_alloc ?_ _)); exact BK857.out⟩
    have n19_ : Aside0 (((w76.setCell ⟨gb857, 0, none⟩ (.slice Ao77 t851.length co77)).setCell ⟨gb858, 0, none⟩ (.slice Ao88 t854.length co88)).heap[gb858]? = some (.cells #[.slice Ao88 t854.length co88] 26 (0, 0))) := ⟨by (with_reducible repeat (first | refine blk_drewN ?_ _ | refine blk_drew ?_ | refine blk_alloc ?_ _)); refine blk_put (cs := #[.slice none 0 0]) ?_ 0 _ rfl; (with_reducible repeat (first | refine blk_drewN ?_ _ | refine blk_drew ?_ | refine blk_alloc ?_ _)); refine blk_far ?_ NB858_857.out _; (with_reducible repeat (first | refine blk_drewN ?_ _ | refine blk_drew ?_ | refine blk_alloc ?_ _)); exact BK858.out⟩
    have n20_ : Aside0 (Below w.heap.size w ((w76.setCell ⟨gb857, 0, none⟩ (.slice Ao77 t851.length co77)).setCell ⟨gb858, 0, none⟩ (.slice Ao88 t854.length co88))) := ⟨bw⟩
    (try clear HO817); (try clear HO820); (try clear HO825); (try clear HO830); (try clear HO835); (try clear HO838); (try clear HO843); (try clear HO848); (try clear HO853); (try clear HO856); (try clear BK821); (try clear BK822); (try clear BK827); (try clear BK832); (try clear BK839); (try clear BK840); (try clear BK845); (try clear BK850); (try clear BK857); (try clear BK858); (try clear HB)
    generalize ((w76.setCell ⟨gb857, 0, none⟩ (.slice Ao77 t851.length co77)).setCell ⟨gb858, 0, none⟩ (.slice Ao88 t854.length co88)) = w111 at n0_ n1_ n2_ n3_ n4_ n5_ n6_ n7_ n8_ n9_ n10_ n11_ n12_ n13_ n14_ n15_ n16_ n17_ n18_ n19_ n20_ ⊢
    have HO817 := n0_
    have HO820 := n1_
    have HO825 := n2_
    have HO830 := n3_
    have HO835 := n4_
    have HO838 := n5_
    have HO843 := n6_
    have HO848 := n7_
    have HO853 := n8_
    have HO856 := n9_
    have BK821 := n10_
    have BK822 := n11_
    have BK827 := n12_
    have BK832 := n13_
    have BK839 := n14_
    have BK840 := n15_
    have BK845 := n16_
    have BK850 := n17_
    have BK857 := n18_
    have BK858 := n19_
    have HB := n20_
    clear n0_ n1_ n2_ n3_ n4_ n5_ n6_ n7_ n8_ n9_ n10_ n11_ n12_ n13_ n14_ n15_ n16_ n17_ n18_ n19_ n20_
    replace HO817 := am (Kd.Q_drew HO817.out)
    replace HO820 := am (Kd.Q_drew HO820.out)
    replace HO825 := am (Kd.R_drew HO825.out)
    replace HO830 := am (Kd.R_drew HO830.out)
    replace HO835 := am (Kd.Q_drew HO835.out)
    replace HO838 := am (Kd.Q_drew HO838.out)
    replace HO843 := am (Kd.R_drew HO843.out)
    replace HO848 := am (Kd.R_drew HO848.out)
    replace HO853 := am (Kd.Q_drew HO853.out)
    replace HO856 := am (Kd.Q_drew HO856.out)
    replace BK821 := bd BK821
    replace BK822 := bd BK822
    replace BK827 := bd BK827
    replace BK832 := bd BK832
    replace BK839 := bd BK839
    replace BK840 := bd BK840
    replace BK845 := bd BK845
    replace BK850 := bd BK850
    replace BK857 := bd BK857
    replace BK858 := bd BK858
    replace HB := am (below_drew1 HB.out)
    refine start_ (n := 29) (S := fun w' => w'.cell? ⟨gb827, 0, none⟩ = some (.slice Ao22 t823.length co22) ∧ w'.cell? ⟨gb832, 0, none⟩ = some (.slice Ao30 t828.length co30) ∧ w'.cell? ⟨gb845, 0, none⟩ = some (.slice Ao53 t841.length co53) ∧ w'.cell? ⟨gb850, 0, none⟩ = some (.slice Ao65 t846.length co65) ∧ w'.cell? ⟨gb857, 0, none⟩ = some (.slice Ao77 t851.length co77) ∧ w'.cell? ⟨gb858, 0, none⟩ = some (.slice Ao88 t854.length co88)) (ds := []) (yz 29 0) (by kernel_rfl) rfl rfl ⟨bc BK827 0 _, bc BK832 0 _, bc BK845 0 _, bc BK850 0 _, bc BK857 0 _, bc BK858 0 _⟩ (fun hHeld => ?_); refine with_tabW laws_FnCombined.tab10 laws_FnCombined.bits10 (fun HT_ HW_ => ?_)
    generalize w111.drew = w112 at HO817 HO820 HO825 HO830 HO835 HO838 HO843 HO848 HO853 HO856 BK821 BK822 BK827 BK832 BK839 BK840 BK845 BK850 BK857 BK858 HB hHeld ⊢
    refine pa 0 (some 60) (yz 29 1) HT_ ?_
    refine pa 1 (some 61) (yz 29 3) HT_ ?_
    refine pa 2 (some 62) (yz 29 7) HT_ ?_
    refine pa 3 (some 63) (yz 29 15) HT_ ?_
    refine tk 4 (some 64) (yz 29 31) HT_ HW_ hHeld ?_
    refine tk 5 (some 65) (yz 29 63) HT_ HW_ hHeld ?_
    refine oa 6 (some 66) (yz 29 127) HT_ (fun K hK => ?_)
    refine gm Try.func22 #[.agg #[.slice Ao22 t823.length co22], .agg #[.slice Ao30 t828.length co30]] ?_
    with_reducible refine (spec_EqualSemigroup.calls k _ _ t823 _ _ t828 true _ ?side1 ?side2 ?side3 ?side4 A101.out).mono ?_
    (case side1 => exact co (Kd.R_reads' HO825.out).2.2)
    (case side2 => exact (Kd.R_reads' HO825.out).2.1)
    (case side3 => exact co (Kd.R_reads' HO830.out).2.2)
    (case side4 => exact (Kd.R_reads' HO830.out).2.1)
    rintro e w113 ⟨rfl, hb⟩
    refine ⟨_, rfl, ?_⟩
    replace HO817 := qK HO817 hb
    replace HO820 := qK HO820 hb
    replace HO825 := rK HO825 hb
    replace HO830 := rK HO830 hb
    replace HO835 := qK HO835 hb
    replace HO838 := qK HO838 hb
    replace HO843 := rK HO843 hb
    replace HO848 := rK HO848 hb
    replace HO853 := qK HO853 hb
    replace HO856 := qK HO856 hb
    replace BK821 := kb BK821 hb
    replace BK822 := kb BK822 hb
    replace BK827 := kb BK827 hb
    replace BK832 := kb BK832 hb
    replace BK839 := kb BK839 hb
    replace BK840 := kb BK840 hb
    replace BK845 := kb BK845 hb
    replace BK850 := kb BK850 hb
    replace BK857 := kb BK857 hb
    replace BK858 := kb BK858 hb
    replace HB := am (below_step bw hb)
    clear hb
    refine hK.out _ _ ⟨bc BK827 0 _, bc BK832 0 _, bc BK845 0 _, bc BK850 0 _, bc BK857 0 _, bc BK858 0 _⟩ (fun hHeld => ?_)
    clear hK K
    refine nm (some 66) ?_
    refine pa 7 (some 67) (yz 29 255) HT_ ?_
    refine pa 8 (some 68) (yz 29 511) HT_ ?_
    refine pa 9 (some 69) (yz 29 1023) HT_ ?_
    refine pa 10 (some 70) (yz 29 2047) HT_ ?_
    refine pa 11 (some 71) (yz 29 4095) HT_ ?_
    refine pa 12 (some 72) (yz 29 8191) HT_ ?_
    refine pa 13 (some 73) (yz 29 16383) HT_ ?_
    refine pa 14 (some 74) (yz 29 32767) HT_ ?_
    refine tk 15 (some 75) (yz 29 65535) HT_ HW_ hHeld ?_
    refine tk 16 (some 76) (yz 29 131071) HT_ HW_ hHeld ?_
    refine oa 17 (some 77) (yz 29 262143) HT_ (fun K hK => ?_)
    refine gm Try.func22 #[.agg #[.slice Ao53 t841.length co53], .agg #[.slice Ao65 t846.length co65]] ?_
    with_reducible refine (spec_EqualSemigroup.calls k _ _ t841 _ _ t846 true _ ?side1 ?side2 ?side3 ?side4 A107.out).mono ?_
    (case side1 => exact co (Kd.R_reads' HO843.out).2.2)
    (case side2 => exact (Kd.R_reads' HO843.out).2.1)
    (case side3 => exact co (Kd.R_reads' HO848.out).2.2)
    (case side4 => exact (Kd.R_reads' HO848.out).2.1)
    rintro e w114 ⟨rfl, hb⟩
    refine ⟨_, rfl, ?_⟩
    replace HO817 := qK HO817 hb
    replace HO820 := qK HO820 hb
    replace HO825 := rK HO825 hb
    replace HO830 := rK HO830 hb
    replace HO835 := qK HO835 hb
    replace HO838 := qK HO838 hb
    replace HO843 := rK HO843 hb
    replace HO848 := rK HO848 hb
    replace HO853 := qK HO853 hb
    replace HO856 := qK HO856 hb
    replace BK821 := kb BK821 hb
    replace BK822 := kb BK822 hb
    replace BK827 := kb BK827 hb
    replace BK832 := kb BK832 hb
    replace BK839 := kb BK839 hb
    replace BK840 := kb BK840 hb
    replace BK845 := kb BK845 hb
    replace BK850 := kb BK850 hb
    replace BK857 := kb BK857 hb
    replace BK858 := kb BK858 hb
    replace HB := am (below_step bw hb)
    clear hb
    refine hK.out _ _ ⟨bc BK827 0 _, bc BK832 0 _, bc BK845 0 _, bc BK850 0 _, bc BK857 0 _, bc BK858 0 _⟩ (fun hHeld => ?_)
    clear hK K
    refine nm (some 77) ?_
    refine pa 18 (some 78) (yz 29 524287) HT_ ?_
    refine pa 19 (some 79) (yz 29 1048575) HT_ ?_
    refine pa 20 (some 80) (yz 29 2097151) HT_ ?_
    refine tk 21 (some 81) (yz 29 4194303) HT_ HW_ hHeld ?_
    refine tk 22 (some 82) (yz 29 8388607) HT_ HW_ hHeld ?_
    refine tk 24 (some 84) (yz 29 25165823) HT_ HW_ hHeld ?_
    refine tk 25 (some 85) (yz 29 58720255) HT_ HW_ hHeld ?_
    refine oa 23 (some 83) (yz 29 67108863) HT_ (fun K hK => ?_)
    refine gm Try.func115 #[.agg #[.slice Ao77 t851.length co77], .agg #[.slice Ao88 t854.length co88]] ?_
    with_reducible refine (impl_IsWithin.calls k _ _ t851 _ _ t854 t861 _ ?side1 ?side2 ?side3 ?side4 A109.out).mono ?_
    (case side1 => exact co (Kd.Q_reads' HO853.out).2.2)
    (case side2 => exact (Kd.Q_reads' HO853.out).2.1)
    (case side3 => exact co (Kd.Q_reads' HO856.out).2.2)
    (case side4 => exact (Kd.Q_reads' HO856.out).2.1)
    rintro e w115 ⟨rfl, hb⟩
    refine ⟨_, rfl, ?_⟩
    replace HO817 := qK HO817 hb
    replace HO820 := qK HO820 hb
    replace HO825 := rK HO825 hb
    replace HO830 := rK HO830 hb
    replace HO835 := qK HO835 hb
    replace HO838 := qK HO838 hb
    replace HO843 := rK HO843 hb
    replace HO848 := rK HO848 hb
    replace HO853 := qK HO853 hb
    replace HO856 := qK HO856 hb
    replace BK821 := kb BK821 hb
    replace BK822 := kb BK822 hb
    replace BK827 := kb BK827 hb
    replace BK832 := kb BK832 hb
    replace BK839 := kb BK839 hb
    replace BK840 := kb BK840 hb
    replace BK845 := kb BK845 hb
    replace BK850 := kb BK850 hb
    replace BK857 := kb BK857 hb
    replace BK858 := kb BK858 hb
    replace HB := am (below_step bw hb)
    clear hb
    refine hK.out _ _ ⟨bc BK827 0 _, bc BK832 0 _, bc BK845 0 _, bc BK850 0 _, bc BK857 0 _, bc BK858 0 _⟩ (fun hHeld => ?_)
    clear hK K
    refine nm (some 83) ?_
    refine oa 26 (some 86) (yz 29 134217727) HT_ (fun K hK => ?_)
    refine gm Try.func116 #[.agg #[.slice Ao77 t851.length co77], .agg #[.slice Ao88 t854.length co88]] ?_
    with_reducible refine (spec_IsWithin.calls k _ _ t851 _ _ t854 t862 _ ?side1 ?side2 ?side3 ?side4 A110.out).mono ?_
    (case side1 => exact co (Kd.Q_reads' HO853.out).2.2)
    (case side2 => exact (Kd.Q_reads' HO853.out).2.1)
    (case side3 => exact co (Kd.Q_reads' HO856.out).2.2)
    (case side4 => exact (Kd.Q_reads' HO856.out).2.1)
    rintro e w116 ⟨rfl, hb⟩
    refine ⟨_, rfl, ?_⟩
    replace HO817 := qK HO817 hb
    replace HO820 := qK HO820 hb
    replace HO825 := rK HO825 hb
    replace HO830 := rK HO830 hb
    replace HO835 := qK HO835 hb
    replace HO838 := qK HO838 hb
    replace HO843 := rK HO843 hb
    replace HO848 := rK HO848 hb
    replace HO853 := qK HO853 hb
    replace HO856 := qK HO856 hb
    replace BK821 := kb BK821 hb
    replace BK822 := kb BK822 hb
    replace BK827 := kb BK827 hb
    replace BK832 := kb BK832 hb
    replace BK839 := kb BK839 hb
    replace BK840 := kb BK840 hb
    replace BK845 := kb BK845 hb
    replace BK850 := kb BK850 hb
    replace BK857 := kb BK857 hb
    replace BK858 := kb BK858 hb
    replace HB := am (below_step bw hb)
    clear hb
    refine hK.out _ _ ⟨bc BK827 0 _, bc BK832 0 _, bc BK845 0 _, bc BK850 0 _, bc BK857 0 _, bc BK858 0 _⟩ (fun hHeld => ?_)
    clear hK K
    refine nm (some 86) ?_
    refine pa 27 (some 87) (yz 29 268435455) HT_ ?_
    refine pa 28 (some 88) (yz 29 536870911) HT_ ?_
    refine done_ (done_of HT_.out (by kernel_rfl)) ?_
    try go_wp2
    go_meet
    case rel => exact ⟨_, ((t861 != t862)), rr, H', ⟨om⟩, ⟨qo HO817.out⟩, ⟨qo HO820.out⟩, ⟨Kd.Q_of_R (ro HO825.out)⟩, ⟨Kd.Q_of_R (ro HO830.out)⟩, ⟨qo HO835.out⟩, ⟨qo HO838.out⟩, ⟨Kd.Q_of_R (ro HO843.out)⟩, ⟨Kd.Q_of_R (ro HO848.out)⟩, ⟨qo HO853.out⟩, ⟨qo HO856.out⟩, ⟨bo BK821.out⟩, ⟨bo BK822.out⟩, ⟨bo BK827.out⟩, ⟨bo BK832.out⟩, ⟨bo BK839.out⟩, ⟨bo BK840.out⟩, ⟨bo BK845.out⟩, ⟨bo BK850.out⟩, ⟨bo BK857.out⟩, ⟨bo BK858.out⟩, ⟨bw⟩⟩
   replace c108 := Bool.eq_false_iff.mpr c108
   subst c108
   exact absurd H (laws_FnCombined.j0_no)
  replace c102 := Bool.eq_false_iff.mpr c102
  subst c102
  exact absurd H (laws_FnCombined.j0_no)
 case rest =>
  clear HC11
  try clear c102
  obtain ⟨kq, x88_10, rfl, HA, HJ10, HO_822000, HO_823000, HO_828000, HO_833000, HO_840000, HO_841000, HO_846000, HO_851000, HO_858000, HO_859000, BK821, BK822, BK827, BK832, BK839, BK840, BK845, BK850, BK857, BK858, HB⟩ := hcut
  cases kq with
  | zero => exact absurd HA.out (by simp [laws_FnCombined.j0])
  | succ kj10 =>
   have H := HA.out
   clear HA
   simp only [laws_FnCombined.j0] at H
   replace H := gb H; obtain ⟨rfl, H⟩ | ⟨rfl, H⟩ := H
   ·exact absurd (Option.some.inj H) (by decide)
   have H' := am H
   clear H
   go_wp2
   go_loopg [17] kj10 (fun kq v17 w' => ∃ (x17_2 : Int), v17 = .int .i64 x17_2 ∧ Aside0 (laws_FnCombined.l0 kq t826 t844 x17_2 t815 t818 t823 t833 t836 t841 = some true) ∧ Aside0 (kq ≤ kj10) ∧ Aside0 (Kd.Q (Kd.int .i64) 3 w' w.heap.size (fun k_ => nb k_ Ao18 t818 co18 ∧ nb k_ Ao22 t823 co22 ∧ nb k_ Ao30 t828 co30 ∧ nb k_ Ao38 t833 co38 ∧ nb k_ Ao45 t836 co45 ∧ nb k_ Ao53 t841 co53 ∧ nb k_ Ao65 t846 co65 ∧ nb k_ Ao77 t851 co77 ∧ nb k_ Ao88 t854 co88) (.slice Ao15 t815.length co15) t815) ∧ Aside0 (Kd.Q (Kd.int .i64) 3 w' w.heap.size (fun k_ => nb k_ Ao15 t815 co15 ∧ nb k_ Ao22 t823 co22 ∧ nb k_ Ao30 t828 co30 ∧ nb k_ Ao38 t833 co38 ∧ nb k_ Ao45 t836 co45 ∧ nb k_ Ao53 t841 co53 ∧ nb k_ Ao65 t846 co65 ∧ nb k_ Ao77 t851 co77 ∧ nb k_ Ao88 t854 co88) (.slice Ao18 t818.length co18) t818) ∧ Aside0 (Kd.Q (Kd.int .i64) 3 w' w.heap.size (fun k_ => nb k_ Ao15 t815 co15 ∧ nb k_ Ao18 t818 co18 ∧ nb k_ Ao30 t828 co30 ∧ nb k_ Ao38 t833 co38 ∧ nb k_ Ao45 t836 co45 ∧ nb k_ Ao53 t841 co53 ∧ nb k_ Ao65 t846 co65 ∧ nb k_ Ao77 t851 co77 ∧ nb k_ Ao88 t854 co88) (.slice Ao22 t823.length co22) t823) ∧ Aside0 (Kd.Q (Kd.int .i64) 3 w' w.heap.size (fun k_ => nb k_ Ao15 t815 co15 ∧ nb k_ Ao18 t818 co18 ∧ nb k_ Ao22 t823 co22 ∧ nb k_ Ao38 t833 co38 ∧ nb k_ Ao45 t836 co45 ∧ nb k_ Ao53 t841 co53 ∧ nb k_ Ao65 t846 co65 ∧ nb k_ Ao77 t851 co77 ∧ nb k_ Ao88 t854 co88) (.slice Ao30 t828.length co30) t828) ∧ Aside0 (Kd.Q (Kd.int .i64) 3 w' w.heap.size (fun k_ => nb k_ Ao15 t815 co15 ∧ nb k_ Ao18 t818 co18 ∧ nb k_ Ao22 t823 co22 ∧ nb k_ Ao30 t828 co30 ∧ nb k_ Ao45 t836 co45 ∧ nb k_ Ao53 t841 co53 ∧ nb k_ Ao65 t846 co65 ∧ nb k_ Ao77 t851 co77 ∧ nb k_ Ao88 t854 co88) (.slice Ao38 t833.length co38) t833) ∧ Aside0 (Kd.Q (Kd.int .i64) 3 w' w.heap.size (fun k_ => nb k_ Ao15 t815 co15 ∧ nb k_ Ao18 t818 co18 ∧ nb k_ Ao22 t823 co22 ∧ nb k_ Ao30 t828 co30 ∧ nb k_ Ao38 t833 co38 ∧ nb k_ Ao53 t841 co53 ∧ nb k_ Ao65 t846 co65 ∧ nb k_ Ao77 t851 co77 ∧ nb k_ Ao88 t854 co88) (.slice Ao45 t836.length co45) t836) ∧ Aside0 (Kd.Q (Kd.int .i64) 3 w' w.heap.size (fun k_ => nb k_ Ao15 t815 co15 ∧ nb k_ Ao18 t818 co18 ∧ nb k_ Ao22 t823 co22 ∧ nb k_ Ao30 t828 co30 ∧ nb k_ Ao38 t833 co38 ∧ nb k_ Ao45 t836 co45 ∧ nb k_ Ao65 t846 co65 ∧ nb k_ Ao77 t851 co77 ∧ nb k_ Ao88 t854 co88) (.slice Ao53 t841.length co53) t841) ∧ Aside0 (Kd.Q (Kd.int .i64) 3 w' w.heap.size (fun k_ => nb k_ Ao15 t815 co15 ∧ nb k_ Ao18 t818 co18 ∧ nb k_ Ao22 t823 co22 ∧ nb k_ Ao30 t828 co30 ∧ nb k_ Ao38 t833 co38 ∧ nb k_ Ao45 t836 co45 ∧ nb k_ Ao53 t841 co53 ∧ nb k_ Ao77 t851 co77 ∧ nb k_ Ao88 t854 co88) (.slice Ao65 t846.length co65) t846) ∧ Aside0 (Kd.Q (Kd.int .i64) 3 w' w.heap.size (fun k_ => nb k_ Ao15 t815 co15 ∧ nb k_ Ao18 t818 co18 ∧ nb k_ Ao22 t823 co22 ∧ nb k_ Ao30 t828 co30 ∧ nb k_ Ao38 t833 co38 ∧ nb k_ Ao45 t836 co45 ∧ nb k_ Ao53 t841 co53 ∧ nb k_ Ao65 t846 co65 ∧ nb k_ Ao88 t854 co88) (.slice Ao77 t851.length co77) t851) ∧ Aside0 (Kd.Q (Kd.int .i64) 3 w' w.heap.size (fun k_ => nb k_ Ao15 t815 co15 ∧ nb k_ Ao18 t818 co18 ∧ nb k_ Ao22 t823 co22 ∧ nb k_ Ao30 t828 co30 ∧ nb k_ Ao38 t833 co38 ∧ nb k_ Ao45 t836 co45 ∧ nb k_ Ao53 t841 co53 ∧ nb k_ Ao65 t846 co65 ∧ nb k_ Ao77 t851 co77) (.slice Ao88 t854.length co88) t854) ∧ Aside0 (w'.heap[gb821]? = some (.cells #[(.slice Ao15 t815.length co15)] 26 (0, 0))) ∧ Aside0 (w'.heap[gb822]? = some (.cells #[(.slice Ao18 t818.length co18)] 26 (0, 0))) ∧ Aside0 (w'.heap[gb827]? = some (.cells #[(.slice Ao22 t823.length co22)] 26 (0, 0))) ∧ Aside0 (w'.heap[gb832]? = some (.cells #[(.slice Ao30 t828.length co30)] 26 (0, 0))) ∧ Aside0 (w'.heap[gb839]? = some (.cells #[(.slice Ao38 t833.length co38)] 26 (0, 0))) ∧ Aside0 (w'.heap[gb840]? = some (.cells #[(.slice Ao45 t836.length co45)] 26 (0, 0))) ∧ Aside0 (w'.heap[gb845]? = some (.cells #[(.slice Ao53 t841.length co53)] 26 (0, 0))) ∧ Aside0 (w'.heap[gb850]? = some (.cells #[(.slice Ao65 t846.length co65)] 26 (0, 0))) ∧ Aside0 (w'.heap[gb857]? = some (.cells #[(.slice Ao77 t851.length co77)] 26 (0, 0))) ∧ Aside0 (w'.heap[gb858]? = some (.cells #[(.slice Ao88 t854.length co88)] 26 (0, 0))) ∧ Aside0 (Below w.heap.size w w'))
   case atStart => exact ⟨(0), rr, H', ⟨Nat.le_refl _⟩, ⟨qo HO_822000.out⟩, ⟨qo HO_823000.out⟩, ⟨qo HO_828000.out⟩, ⟨qo HO_833000.out⟩, ⟨qo HO_840000.out⟩, ⟨qo HO_841000.out⟩, ⟨qo HO_846000.out⟩, ⟨qo HO_851000.out⟩, ⟨qo HO_858000.out⟩, ⟨qo HO_859000.out⟩, ⟨bo BK821.out⟩, ⟨bo BK822.out⟩, ⟨bo BK827.out⟩, ⟨bo BK832.out⟩, ⟨bo BK839.out⟩, ⟨bo BK840.out⟩, ⟨bo BK845.out⟩, ⟨bo BK850.out⟩, ⟨bo BK857.out⟩, ⟨bo BK858.out⟩, ⟨bw⟩⟩
   case round =>
    clear H'
    try clear c102
    obtain ⟨x17_2, rfl, HA, HK2, HO_822000, HO_823000, HO_828000, HO_833000, HO_840000, HO_841000, HO_846000, HO_851000, HO_858000, HO_859000, BK821, BK822, BK827, BK832, BK839, BK840, BK845, BK850, BK857, BK858, HB⟩ := hrel
    cases gk with
    | zero => exact absurd HA.out (by simp [laws_FnCombined.l0])
    | succ k2 =>
     have H := HA.out
     clear HA
     simp only [laws_FnCombined.l0] at H
     have HC125 := am H
     clear H
     go_upto_region 13 with (fail)
     go_cut [93] (fun v93 wc => ∃ (kq : Nat) (x93_124 : Bool), v93 = .bool x93_124 ∧ Aside0 (laws_FnCombined.j2 kq t826 t844 x17_2 x93_124 t815 t818 t823 t833 t836 t841 = some true) ∧ Aside0 (kq ≤ k2) ∧ Aside0 (Kd.Q (Kd.int .i64) 3 wc w.heap.size (fun k_ => nb k_ Ao18 t818 co18 ∧ nb k_ Ao22 t823 co22 ∧ nb k_ Ao30 t828 co30 ∧ nb k_ Ao38 t833 co38 ∧ nb k_ Ao45 t836 co45 ∧ nb k_ Ao53 t841 co53 ∧ nb k_ Ao65 t846 co65 ∧ nb k_ Ao77 t851 co77 ∧ nb k_ Ao88 t854 co88) (.slice Ao15 t815.length co15) t815) ∧ Aside0 (Kd.Q (Kd.int .i64) 3 wc w.heap.size (fun k_ => nb k_ Ao15 t815 co15 ∧ nb k_ Ao22 t823 co22 ∧ nb k_ Ao30 t828 co30 ∧ nb k_ Ao38 t833 co38 ∧ nb k_ Ao45 t836 co45 ∧ nb k_ Ao53 t841 co53 ∧ nb k_ Ao65 t846 co65 ∧ nb k_ Ao77 t851 co77 ∧ nb k_ Ao88 t854 co88) (.slice Ao18 t818.length co18) t818) ∧ Aside0 (Kd.Q (Kd.int .i64) 3 wc w.heap.size (fun k_ => nb k_ Ao15 t815 co15 ∧ nb k_ Ao18 t818 co18 ∧ nb k_ Ao30 t828 co30 ∧ nb k_ Ao38 t833 co38 ∧ nb k_ Ao45 t836 co45 ∧ nb k_ Ao53 t841 co53 ∧ nb k_ Ao65 t846 co65 ∧ nb k_ Ao77 t851 co77 ∧ nb k_ Ao88 t854 co88) (.slice Ao22 t823.length co22) t823) ∧ Aside0 (Kd.Q (Kd.int .i64) 3 wc w.heap.size (fun k_ => nb k_ Ao15 t815 co15 ∧ nb k_ Ao18 t818 co18 ∧ nb k_ Ao22 t823 co22 ∧ nb k_ Ao38 t833 co38 ∧ nb k_ Ao45 t836 co45 ∧ nb k_ Ao53 t841 co53 ∧ nb k_ Ao65 t846 co65 ∧ nb k_ Ao77 t851 co77 ∧ nb k_ Ao88 t854 co88) (.slice Ao30 t828.length co30) t828) ∧ Aside0 (Kd.Q (Kd.int .i64) 3 wc w.heap.size (fun k_ => nb k_ Ao15 t815 co15 ∧ nb k_ Ao18 t818 co18 ∧ nb k_ Ao22 t823 co22 ∧ nb k_ Ao30 t828 co30 ∧ nb k_ Ao45 t836 co45 ∧ nb k_ Ao53 t841 co53 ∧ nb k_ Ao65 t846 co65 ∧ nb k_ Ao77 t851 co77 ∧ nb k_ Ao88 t854 co88) (.slice Ao38 t833.length co38) t833) ∧ Aside0 (Kd.Q (Kd.int .i64) 3 wc w.heap.size (fun k_ => nb k_ Ao15 t815 co15 ∧ nb k_ Ao18 t818 co18 ∧ nb k_ Ao22 t823 co22 ∧ nb k_ Ao30 t828 co30 ∧ nb k_ Ao38 t833 co38 ∧ nb k_ Ao53 t841 co53 ∧ nb k_ Ao65 t846 co65 ∧ nb k_ Ao77 t851 co77 ∧ nb k_ Ao88 t854 co88) (.slice Ao45 t836.length co45) t836) ∧ Aside0 (Kd.Q (Kd.int .i64) 3 wc w.heap.size (fun k_ => nb k_ Ao15 t815 co15 ∧ nb k_ Ao18 t818 co18 ∧ nb k_ Ao22 t823 co22 ∧ nb k_ Ao30 t828 co30 ∧ nb k_ Ao38 t833 co38 ∧ nb k_ Ao45 t836 co45 ∧ nb k_ Ao65 t846 co65 ∧ nb k_ Ao77 t851 co77 ∧ nb k_ Ao88 t854 co88) (.slice Ao53 t841.length co53) t841) ∧ Aside0 (Kd.Q (Kd.int .i64) 3 wc w.heap.size (fun k_ => nb k_ Ao15 t815 co15 ∧ nb k_ Ao18 t818 co18 ∧ nb k_ Ao22 t823 co22 ∧ nb k_ Ao30 t828 co30 ∧ nb k_ Ao38 t833 co38 ∧ nb k_ Ao45 t836 co45 ∧ nb k_ Ao53 t841 co53 ∧ nb k_ Ao77 t851 co77 ∧ nb k_ Ao88 t854 co88) (.slice Ao65 t846.length co65) t846) ∧ Aside0 (Kd.Q (Kd.int .i64) 3 wc w.heap.size (fun k_ => nb k_ Ao15 t815 co15 ∧ nb k_ Ao18 t818 co18 ∧ nb k_ Ao22 t823 co22 ∧ nb k_ Ao30 t828 co30 ∧ nb k_ Ao38 t833 co38 ∧ nb k_ Ao45 t836 co45 ∧ nb k_ Ao53 t841 co53 ∧ nb k_ Ao65 t846 co65 ∧ nb k_ Ao88 t854 co88) (.slice Ao77 t851.length co77) t851) ∧ Aside0 (Kd.Q (Kd.int .i64) 3 wc w.heap.size (fun k_ => nb k_ Ao15 t815 co15 ∧ nb k_ Ao18 t818 co18 ∧ nb k_ Ao22 t823 co22 ∧ nb k_ Ao30 t828 co30 ∧ nb k_ Ao38 t833 co38 ∧ nb k_ Ao45 t836 co45 ∧ nb k_ Ao53 t841 co53 ∧ nb k_ Ao65 t846 co65 ∧ nb k_ Ao77 t851 co77) (.slice Ao88 t854.length co88) t854) ∧ Aside0 (wc.heap[gb821]? = some (.cells #[(.slice Ao15 t815.length co15)] 26 (0, 0))) ∧ Aside0 (wc.heap[gb822]? = some (.cells #[(.slice Ao18 t818.length co18)] 26 (0, 0))) ∧ Aside0 (wc.heap[gb827]? = some (.cells #[(.slice Ao22 t823.length co22)] 26 (0, 0))) ∧ Aside0 (wc.heap[gb832]? = some (.cells #[(.slice Ao30 t828.length co30)] 26 (0, 0))) ∧ Aside0 (wc.heap[gb839]? = some (.cells #[(.slice Ao38 t833.length co38)] 26 (0, 0))) ∧ Aside0 (wc.heap[gb840]? = some (.cells #[(.slice Ao45 t836.length co45)] 26 (0, 0))) ∧ Aside0 (wc.heap[gb845]? = some (.cells #[(.slice Ao53 t841.length co53)] 26 (0, 0))) ∧ Aside0 (wc.heap[gb850]? = some (.cells #[(.slice Ao65 t846.length co65)] 26 (0, 0))) ∧ Aside0 (wc.heap[gb857]? = some (.cells #[(.slice Ao77 t851.length co77)] 26 (0, 0))) ∧ Aside0 (wc.heap[gb858]? = some (.cells #[(.slice Ao88 t854.length co88)] 26 (0, 0))) ∧ Aside0 (Below w.heap.size w wc))
     case first =>
      have H := HC125.out
      clear HC125
      replace H := gi H; obtain ⟨c126b0, H⟩ | ⟨c126b0, H⟩ := H
      ·(first | rw [c126b0] | (simp only [i64_w, i32_w]; rw [c126b0]) | skip)
       have H' := am H
       clear H
       go_wp2
       go_meet
       case rel => exact ⟨_, (t826), rr, H', ⟨by have := HJ10.out; have := HK2.out; first | omega | exact Nat.le_refl _⟩, ⟨qo HO_822000.out⟩, ⟨qo HO_823000.out⟩, ⟨qo HO_828000.out⟩, ⟨qo HO_833000.out⟩, ⟨qo HO_840000.out⟩, ⟨qo HO_841000.out⟩, ⟨qo HO_846000.out⟩, ⟨qo HO_851000.out⟩, ⟨qo HO_858000.out⟩, ⟨qo HO_859000.out⟩, ⟨bo BK821.out⟩, ⟨bo BK822.out⟩, ⟨bo BK827.out⟩, ⟨bo BK832.out⟩, ⟨bo BK839.out⟩, ⟨bo BK840.out⟩, ⟨bo BK845.out⟩, ⟨bo BK850.out⟩, ⟨bo BK857.out⟩, ⟨bo BK858.out⟩, ⟨bw⟩⟩
      ·(first | rw [c126b0] | (simp only [i64_w, i32_w]; rw [c126b0]) | skip)
       have H' := am H
       clear H
       go_wp2
       go_meet
       case rel => exact ⟨_, (false), rr, H', ⟨by have := HJ10.out; have := HK2.out; first | omega | exact Nat.le_refl _⟩, ⟨qo HO_822000.out⟩, ⟨qo HO_823000.out⟩, ⟨qo HO_828000.out⟩, ⟨qo HO_833000.out⟩, ⟨qo HO_840000.out⟩, ⟨qo HO_841000.out⟩, ⟨qo HO_846000.out⟩, ⟨qo HO_851000.out⟩, ⟨qo HO_858000.out⟩, ⟨qo HO_859000.out⟩, ⟨bo BK821.out⟩, ⟨bo BK822.out⟩, ⟨bo BK827.out⟩, ⟨bo BK832.out⟩, ⟨bo BK839.out⟩, ⟨bo BK840.out⟩, ⟨bo BK845.out⟩, ⟨bo BK850.out⟩, ⟨bo BK857.out⟩, ⟨bo BK858.out⟩, ⟨bw⟩⟩
     case rest =>
      clear HC125
      try clear c102; try clear c126b0
      obtain ⟨kq, x93_124, rfl, HA, HJ124, HO_822000, HO_823000, HO_828000, HO_833000, HO_840000, HO_841000, HO_846000, HO_851000, HO_858000, HO_859000, BK821, BK822, BK827, BK832, BK839, BK840, BK845, BK850, BK857, BK858, HB⟩ := hcut
      cases kq with
      | zero => exact absurd HA.out (by simp [laws_FnCombined.j2])
      | succ kj124 =>
       have H := HA.out
       clear HA
       simp only [laws_FnCombined.j2] at H
       replace H := gb H; obtain ⟨rfl, H⟩ | ⟨rfl, H⟩ := H
       ·replace H := ga H; obtain ⟨t863, A128, H⟩ := H
        replace H := ga H; obtain ⟨t864, A129, H⟩ := H
        replace H := gb H; obtain ⟨rfl, H⟩ | ⟨rfl, H⟩ := H
        ·replace H := ga H; obtain ⟨t865, A131, H⟩ := H
         by_cases c132 : (t863 != t865) = true
         ·rw [if_pos c132] at H
          have c132b0 : (t863 != t865) = true := c132
          (try (have c132b1 : decide (t863 = t865) = false := by simpa using c132))
          (try (have c132b2 : (t863 == t865) = false := by simpa using c132))
          (try (have c132b3 : ¬ (t863 = t865) := by simpa using c132))
          clear c132
          exact absurd (Option.some.inj H) (by decide)
         rw [if_neg c132] at H
         have c132b0 : (t863 != t865) = false := by simpa using c132
         (try (have c132b1 : decide (t863 = t865) = true := by simpa using c132))
         (try (have c132b2 : (t863 == t865) = true := by simpa using c132))
         clear c132
         have H' := am H
         clear H
         try go_wp2
         replace HO_822000 := am (Kd.Q_drew HO_822000.out)
         replace HO_823000 := am (Kd.Q_drew HO_823000.out)
         replace HO_828000 := am (Kd.Q_drew HO_828000.out)
         replace HO_833000 := am (Kd.Q_drew HO_833000.out)
         replace HO_840000 := am (Kd.Q_drew HO_840000.out)
         replace HO_841000 := am (Kd.Q_drew HO_841000.out)
         replace HO_846000 := am (Kd.Q_drew HO_846000.out)
         replace HO_851000 := am (Kd.Q_drew HO_851000.out)
         replace HO_858000 := am (Kd.Q_drew HO_858000.out)
         replace HO_859000 := am (Kd.Q_drew HO_859000.out)
         replace BK821 := bd BK821
         replace BK822 := bd BK822
         replace BK827 := bd BK827
         replace BK832 := bd BK832
         replace BK839 := bd BK839
         replace BK840 := bd BK840
         replace BK845 := bd BK845
         replace BK850 := bd BK850
         replace BK857 := bd BK857
         replace BK858 := bd BK858
         replace HB := am (below_drew1 HB.out)
         refine start_ (n := 12) (S := fun w' => w'.cell? ⟨gb827, 0, none⟩ = some (.slice Ao22 t823.length co22) ∧ w'.cell? ⟨gb821, 0, none⟩ = some (.slice Ao15 t815.length co15) ∧ w'.cell? ⟨gb822, 0, none⟩ = some (.slice Ao18 t818.length co18)) (ds := []) (yz 12 0) (by kernel_rfl) rfl rfl ⟨bc BK827 0 _, bc BK821 0 _, bc BK822 0 _⟩ (fun hHeld => ?_); refine with_tabW laws_FnCombined.tab15 laws_FnCombined.bits15 (fun HT_ HW_ => ?_)
         generalize wc.drew = w137 at HO_822000 HO_823000 HO_828000 HO_833000 HO_840000 HO_841000 HO_846000 HO_851000 HO_858000 HO_859000 BK821 BK822 BK827 BK832 BK839 BK840 BK845 BK850 BK857 BK858 HB hHeld ⊢
         refine pa 1 (some 97) (yz 12 2) HT_ ?_
         refine pa 4 (some 100) (yz 12 18) HT_ ?_
         refine tk 0 (some 96) (yz 12 19) HT_ HW_ hHeld ?_
         refine tk 3 (some 99) (yz 12 27) HT_ HW_ hHeld ?_
         refine oa 2 (some 98) (yz 12 31) HT_ (fun K hK => ?_)
         refine gm Try.func32 #[.agg #[.slice Ao22 t823.length co22], .int .i64 x17_2] ?_
         with_reducible refine (impl_Contains.calls kj124 _ _ t823 x17_2 t863 _ ?side1 ?side2 A128.out).mono ?_
         (case side1 => exact co (Kd.Q_reads' HO_828000.out).2.2)
         (case side2 => exact (Kd.Q_reads' HO_828000.out).2.1)
         rintro e w138 ⟨rfl, hb⟩
         refine ⟨_, rfl, ?_⟩
         replace HO_822000 := qK HO_822000 hb
         replace HO_823000 := qK HO_823000 hb
         replace HO_828000 := qK HO_828000 hb
         replace HO_833000 := qK HO_833000 hb
         replace HO_840000 := qK HO_840000 hb
         replace HO_841000 := qK HO_841000 hb
         replace HO_846000 := qK HO_846000 hb
         replace HO_851000 := qK HO_851000 hb
         replace HO_858000 := qK HO_858000 hb
         replace HO_859000 := qK HO_859000 hb
         replace BK821 := kb BK821 hb
         replace BK822 := kb BK822 hb
         replace BK827 := kb BK827 hb
         replace BK832 := kb BK832 hb
         replace BK839 := kb BK839 hb
         replace BK840 := kb BK840 hb
         replace BK845 := kb BK845 hb
         replace BK850 := kb BK850 hb
         replace BK857 := kb BK857 hb
         replace BK858 := kb BK858 hb
         replace HB := am (below_step bw hb)
         clear hb
         refine hK.out _ _ ⟨bc BK827 0 _, bc BK821 0 _, bc BK822 0 _⟩ (fun hHeld => ?_)
         clear hK K
         refine nm (some 98) ?_
         refine oa 5 (some 101) (yz 12 63) HT_ (fun K hK => ?_)
         refine gm Try.func33 #[.agg #[.slice Ao15 t815.length co15], .int .i64 x17_2] ?_
         with_reducible refine (spec_Contains.calls kj124 _ _ t815 x17_2 true _ ?side1 ?side2 A129.out).mono ?_
         (case side1 => exact co (Kd.Q_reads' HO_822000.out).2.2)
         (case side2 => exact (Kd.Q_reads' HO_822000.out).2.1)
         rintro e w139 ⟨rfl, hb⟩
         refine ⟨_, rfl, ?_⟩
         replace HO_822000 := qK HO_822000 hb
         replace HO_823000 := qK HO_823000 hb
         replace HO_828000 := qK HO_828000 hb
         replace HO_833000 := qK HO_833000 hb
         replace HO_840000 := qK HO_840000 hb
         replace HO_841000 := qK HO_841000 hb
         replace HO_846000 := qK HO_846000 hb
         replace HO_851000 := qK HO_851000 hb
         replace HO_858000 := qK HO_858000 hb
         replace HO_859000 := qK HO_859000 hb
         replace BK821 := kb BK821 hb
         replace BK822 := kb BK822 hb
         replace BK827 := kb BK827 hb
         replace BK832 := kb BK832 hb
         replace BK839 := kb BK839 hb
         replace BK840 := kb BK840 hb
         replace BK845 := kb BK845 hb
         replace BK850 := kb BK850 hb
         replace BK857 := kb BK857 hb
         replace BK858 := kb BK858 hb
         replace HB := am (below_step bw hb)
         clear hb
         refine hK.out _ _ ⟨bc BK827 0 _, bc BK821 0 _, bc BK822 0 _⟩ (fun hHeld => ?_)
         clear hK K
         refine nm (some 101) ?_
         refine pa 6 (some 102) (yz 12 127) HT_ ?_
         refine pa 8 (some 104) (yz 12 383) HT_ ?_
         refine tk 7 (some 103) (yz 12 511) HT_ HW_ hHeld ?_
         refine oa 9 (some 105) (yz 12 1023) HT_ (fun K hK => ?_)
         refine gm Try.func33 #[.agg #[.slice Ao18 t818.length co18], .int .i64 x17_2] ?_
         with_reducible refine (spec_Contains.calls kj124 _ _ t818 x17_2 t865 _ ?side1 ?side2 A131.out).mono ?_
         (case side1 => exact co (Kd.Q_reads' HO_823000.out).2.2)
         (case side2 => exact (Kd.Q_reads' HO_823000.out).2.1)
         rintro e w140 ⟨rfl, hb⟩
         refine ⟨_, rfl, ?_⟩
         replace HO_822000 := qK HO_822000 hb
         replace HO_823000 := qK HO_823000 hb
         replace HO_828000 := qK HO_828000 hb
         replace HO_833000 := qK HO_833000 hb
         replace HO_840000 := qK HO_840000 hb
         replace HO_841000 := qK HO_841000 hb
         replace HO_846000 := qK HO_846000 hb
         replace HO_851000 := qK HO_851000 hb
         replace HO_858000 := qK HO_858000 hb
         replace HO_859000 := qK HO_859000 hb
         replace BK821 := kb BK821 hb
         replace BK822 := kb BK822 hb
         replace BK827 := kb BK827 hb
         replace BK832 := kb BK832 hb
         replace BK839 := kb BK839 hb
         replace BK840 := kb BK840 hb
         replace BK845 := kb BK845 hb
         replace BK850 := kb BK850 hb
         replace BK857 := kb BK857 hb
         replace BK858 := kb BK858 hb
         replace HB := am (below_step bw hb)
         clear hb
         refine hK.out _ _ ⟨bc BK827 0 _, bc BK821 0 _, bc BK822 0 _⟩ (fun hHeld => ?_)
         clear hK K
         refine nm (some 105) ?_
         refine pa 10 (some 106) (yz 12 2047) HT_ ?_
         refine pa 11 (some 107) (yz 12 4095) HT_ ?_
         refine done_ (done_of HT_.out (by kernel_rfl)) ?_
         try go_wp2
         go_roundg kj124
         case measure => have := HJ10.out; have := HK2.out; have := HJ124.out; omega
         case rel => exact ⟨(wrap64 (x17_2 + 1)), rr, H', ⟨by have := HJ10.out; have := HK2.out; have := HJ124.out; omega⟩, ⟨qo HO_822000.out⟩, ⟨qo HO_823000.out⟩, ⟨qo HO_828000.out⟩, ⟨qo HO_833000.out⟩, ⟨qo HO_840000.out⟩, ⟨qo HO_841000.out⟩, ⟨qo HO_846000.out⟩, ⟨qo HO_851000.out⟩, ⟨qo HO_858000.out⟩, ⟨qo HO_859000.out⟩, ⟨bo BK821.out⟩, ⟨bo BK822.out⟩, ⟨bo BK827.out⟩, ⟨bo BK832.out⟩, ⟨bo BK839.out⟩, ⟨bo BK840.out⟩, ⟨bo BK845.out⟩, ⟨bo BK850.out⟩, ⟨bo BK857.out⟩, ⟨bo BK858.out⟩, ⟨bw⟩⟩
        by_cases c141 : (t863 != false) = true
        ·rw [if_pos c141] at H
         have c141b0 : (t863 != false) = true := c141
         (try (have c141b1 : decide (t863 = false) = false := by simpa using c141))
         (try (have c141b2 : (t863 == false) = false := by simpa using c141))
         (try (have c141b3 : ¬ (t863 = false) := by simpa using c141))
         clear c141
         exact absurd (Option.some.inj H) (by decide)
        rw [if_neg c141] at H
        have c141b0 : (t863 != false) = false := by simpa using c141
        (try (have c141b1 : decide (t863 = false) = true := by simpa using c141))
        (try (have c141b2 : (t863 == false) = true := by simpa using c141))
        clear c141
        have H' := am H
        clear H
        try go_wp2
        replace HO_822000 := am (Kd.Q_drew HO_822000.out)
        replace HO_823000 := am (Kd.Q_drew HO_823000.out)
        replace HO_828000 := am (Kd.Q_drew HO_828000.out)
        replace HO_833000 := am (Kd.Q_drew HO_833000.out)
        replace HO_840000 := am (Kd.Q_drew HO_840000.out)
        replace HO_841000 := am (Kd.Q_drew HO_841000.out)
        replace HO_846000 := am (Kd.Q_drew HO_846000.out)
        replace HO_851000 := am (Kd.Q_drew HO_851000.out)
        replace HO_858000 := am (Kd.Q_drew HO_858000.out)
        replace HO_859000 := am (Kd.Q_drew HO_859000.out)
        replace BK821 := bd BK821
        replace BK822 := bd BK822
        replace BK827 := bd BK827
        replace BK832 := bd BK832
        replace BK839 := bd BK839
        replace BK840 := bd BK840
        replace BK845 := bd BK845
        replace BK850 := bd BK850
        replace BK857 := bd BK857
        replace BK858 := bd BK858
        replace HB := am (below_drew1 HB.out)
        refine start_ (n := 12) (S := fun w' => w'.cell? ⟨gb827, 0, none⟩ = some (.slice Ao22 t823.length co22) ∧ w'.cell? ⟨gb821, 0, none⟩ = some (.slice Ao15 t815.length co15)) (ds := []) (yz 12 0) (by kernel_rfl) rfl rfl ⟨bc BK827 0 _, bc BK821 0 _⟩ (fun hHeld => ?_); refine with_tabW laws_FnCombined.tab15 laws_FnCombined.bits15 (fun HT_ HW_ => ?_)
        generalize wc.drew = w145 at HO_822000 HO_823000 HO_828000 HO_833000 HO_840000 HO_841000 HO_846000 HO_851000 HO_858000 HO_859000 BK821 BK822 BK827 BK832 BK839 BK840 BK845 BK850 BK857 BK858 HB hHeld ⊢
        refine pa 1 (some 97) (yz 12 2) HT_ ?_
        refine pa 4 (some 100) (yz 12 18) HT_ ?_
        refine tk 0 (some 96) (yz 12 19) HT_ HW_ hHeld ?_
        refine tk 3 (some 99) (yz 12 27) HT_ HW_ hHeld ?_
        refine oa 2 (some 98) (yz 12 31) HT_ (fun K hK => ?_)
        refine gm Try.func32 #[.agg #[.slice Ao22 t823.length co22], .int .i64 x17_2] ?_
        with_reducible refine (impl_Contains.calls kj124 _ _ t823 x17_2 t863 _ ?side1 ?side2 A128.out).mono ?_
        (case side1 => exact co (Kd.Q_reads' HO_828000.out).2.2)
        (case side2 => exact (Kd.Q_reads' HO_828000.out).2.1)
        rintro e w146 ⟨rfl, hb⟩
        refine ⟨_, rfl, ?_⟩
        replace HO_822000 := qK HO_822000 hb
        replace HO_823000 := qK HO_823000 hb
        replace HO_828000 := qK HO_828000 hb
        replace HO_833000 := qK HO_833000 hb
        replace HO_840000 := qK HO_840000 hb
        replace HO_841000 := qK HO_841000 hb
        replace HO_846000 := qK HO_846000 hb
        replace HO_851000 := qK HO_851000 hb
        replace HO_858000 := qK HO_858000 hb
        replace HO_859000 := qK HO_859000 hb
        replace BK821 := kb BK821 hb
        replace BK822 := kb BK822 hb
        replace BK827 := kb BK827 hb
        replace BK832 := kb BK832 hb
        replace BK839 := kb BK839 hb
        replace BK840 := kb BK840 hb
        replace BK845 := kb BK845 hb
        replace BK850 := kb BK850 hb
        replace BK857 := kb BK857 hb
        replace BK858 := kb BK858 hb
        replace HB := am (below_step bw hb)
        clear hb
        refine hK.out _ _ ⟨bc BK827 0 _, bc BK821 0 _⟩ (fun hHeld => ?_)
        clear hK K
        refine nm (some 98) ?_
        refine oa 5 (some 101) (yz 12 63) HT_ (fun K hK => ?_)
        refine gm Try.func33 #[.agg #[.slice Ao15 t815.length co15], .int .i64 x17_2] ?_
        with_reducible refine (spec_Contains.calls kj124 _ _ t815 x17_2 false _ ?side1 ?side2 A129.out).mono ?_
        (case side1 => exact co (Kd.Q_reads' HO_822000.out).2.2)
        (case side2 => exact (Kd.Q_reads' HO_822000.out).2.1)
        rintro e w147 ⟨rfl, hb⟩
        refine ⟨_, rfl, ?_⟩
        replace HO_822000 := qK HO_822000 hb
        replace HO_823000 := qK HO_823000 hb
        replace HO_828000 := qK HO_828000 hb
        replace HO_833000 := qK HO_833000 hb
        replace HO_840000 := qK HO_840000 hb
        replace HO_841000 := qK HO_841000 hb
        replace HO_846000 := qK HO_846000 hb
        replace HO_851000 := qK HO_851000 hb
        replace HO_858000 := qK HO_858000 hb
        replace HO_859000 := qK HO_859000 hb
        replace BK821 := kb BK821 hb
        replace BK822 := kb BK822 hb
        replace BK827 := kb BK827 hb
        replace BK832 := kb BK832 hb
        replace BK839 := kb BK839 hb
        replace BK840 := kb BK840 hb
        replace BK845 := kb BK845 hb
        replace BK850 := kb BK850 hb
        replace BK857 := kb BK857 hb
        replace BK858 := kb BK858 hb
        replace HB := am (below_step bw hb)
        clear hb
        refine hK.out _ _ ⟨bc BK827 0 _, bc BK821 0 _⟩ (fun hHeld => ?_)
        clear hK K
        refine nm (some 101) ?_
        refine pa 6 (some 102) (yz 12 127) HT_ ?_
        refine pu 7 (some 103) (yz 12 255) HT_ ?_
        refine pu 8 (some 104) (yz 12 511) HT_ ?_
        refine pu 9 (some 105) (yz 12 1023) HT_ ?_
        refine pa 10 (some 106) (yz 12 2047) HT_ ?_
        refine pa 11 (some 107) (yz 12 4095) HT_ ?_
        refine done_ (done_of HT_.out (by kernel_rfl)) ?_
        try go_wp2
        go_roundg kj124
        case measure => have := HJ10.out; have := HK2.out; have := HJ124.out; omega
        case rel => exact ⟨(wrap64 (x17_2 + 1)), rr, H', ⟨by have := HJ10.out; have := HK2.out; have := HJ124.out; omega⟩, ⟨qo HO_822000.out⟩, ⟨qo HO_823000.out⟩, ⟨qo HO_828000.out⟩, ⟨qo HO_833000.out⟩, ⟨qo HO_840000.out⟩, ⟨qo HO_841000.out⟩, ⟨qo HO_846000.out⟩, ⟨qo HO_851000.out⟩, ⟨qo HO_858000.out⟩, ⟨qo HO_859000.out⟩, ⟨bo BK821.out⟩, ⟨bo BK822.out⟩, ⟨bo BK827.out⟩, ⟨bo BK832.out⟩, ⟨bo BK839.out⟩, ⟨bo BK840.out⟩, ⟨bo BK845.out⟩, ⟨bo BK850.out⟩, ⟨bo BK857.out⟩, ⟨bo BK858.out⟩, ⟨bw⟩⟩
       have HC148 := am H
       clear H
       go_upto_region 17 with (fail)
       go_cut [120] (fun v120 wc => ∃ (kq : Nat) (x120_147 : Bool), v120 = .bool x120_147 ∧ Aside0 (laws_FnCombined.j3 kq t844 x120_147 t833 t836 t841 = some true) ∧ Aside0 (kq ≤ kj124) ∧ Aside0 (Kd.Q (Kd.int .i64) 3 wc w.heap.size (fun k_ => nb k_ Ao18 t818 co18 ∧ nb k_ Ao22 t823 co22 ∧ nb k_ Ao30 t828 co30 ∧ nb k_ Ao38 t833 co38 ∧ nb k_ Ao45 t836 co45 ∧ nb k_ Ao53 t841 co53 ∧ nb k_ Ao65 t846 co65 ∧ nb k_ Ao77 t851 co77 ∧ nb k_ Ao88 t854 co88) (.slice Ao15 t815.length co15) t815) ∧ Aside0 (Kd.Q (Kd.int .i64) 3 wc w.heap.size (fun k_ => nb k_ Ao15 t815 co15 ∧ nb k_ Ao22 t823 co22 ∧ nb k_ Ao30 t828 co30 ∧ nb k_ Ao38 t833 co38 ∧ nb k_ Ao45 t836 co45 ∧ nb k_ Ao53 t841 co53 ∧ nb k_ Ao65 t846 co65 ∧ nb k_ Ao77 t851 co77 ∧ nb k_ Ao88 t854 co88) (.slice Ao18 t818.length co18) t818) ∧ Aside0 (Kd.Q (Kd.int .i64) 3 wc w.heap.size (fun k_ => nb k_ Ao15 t815 co15 ∧ nb k_ Ao18 t818 co18 ∧ nb k_ Ao30 t828 co30 ∧ nb k_ Ao38 t833 co38 ∧ nb k_ Ao45 t836 co45 ∧ nb k_ Ao53 t841 co53 ∧ nb k_ Ao65 t846 co65 ∧ nb k_ Ao77 t851 co77 ∧ nb k_ Ao88 t854 co88) (.slice Ao22 t823.length co22) t823) ∧ Aside0 (Kd.Q (Kd.int .i64) 3 wc w.heap.size (fun k_ => nb k_ Ao15 t815 co15 ∧ nb k_ Ao18 t818 co18 ∧ nb k_ Ao22 t823 co22 ∧ nb k_ Ao38 t833 co38 ∧ nb k_ Ao45 t836 co45 ∧ nb k_ Ao53 t841 co53 ∧ nb k_ Ao65 t846 co65 ∧ nb k_ Ao77 t851 co77 ∧ nb k_ Ao88 t854 co88) (.slice Ao30 t828.length co30) t828) ∧ Aside0 (Kd.Q (Kd.int .i64) 3 wc w.heap.size (fun k_ => nb k_ Ao15 t815 co15 ∧ nb k_ Ao18 t818 co18 ∧ nb k_ Ao22 t823 co22 ∧ nb k_ Ao30 t828 co30 ∧ nb k_ Ao45 t836 co45 ∧ nb k_ Ao53 t841 co53 ∧ nb k_ Ao65 t846 co65 ∧ nb k_ Ao77 t851 co77 ∧ nb k_ Ao88 t854 co88) (.slice Ao38 t833.length co38) t833) ∧ Aside0 (Kd.Q (Kd.int .i64) 3 wc w.heap.size (fun k_ => nb k_ Ao15 t815 co15 ∧ nb k_ Ao18 t818 co18 ∧ nb k_ Ao22 t823 co22 ∧ nb k_ Ao30 t828 co30 ∧ nb k_ Ao38 t833 co38 ∧ nb k_ Ao53 t841 co53 ∧ nb k_ Ao65 t846 co65 ∧ nb k_ Ao77 t851 co77 ∧ nb k_ Ao88 t854 co88) (.slice Ao45 t836.length co45) t836) ∧ Aside0 (Kd.Q (Kd.int .i64) 3 wc w.heap.size (fun k_ => nb k_ Ao15 t815 co15 ∧ nb k_ Ao18 t818 co18 ∧ nb k_ Ao22 t823 co22 ∧ nb k_ Ao30 t828 co30 ∧ nb k_ Ao38 t833 co38 ∧ nb k_ Ao45 t836 co45 ∧ nb k_ Ao65 t846 co65 ∧ nb k_ Ao77 t851 co77 ∧ nb k_ Ao88 t854 co88) (.slice Ao53 t841.length co53) t841) ∧ Aside0 (Kd.Q (Kd.int .i64) 3 wc w.heap.size (fun k_ => nb k_ Ao15 t815 co15 ∧ nb k_ Ao18 t818 co18 ∧ nb k_ Ao22 t823 co22 ∧ nb k_ Ao30 t828 co30 ∧ nb k_ Ao38 t833 co38 ∧ nb k_ Ao45 t836 co45 ∧ nb k_ Ao53 t841 co53 ∧ nb k_ Ao77 t851 co77 ∧ nb k_ Ao88 t854 co88) (.slice Ao65 t846.length co65) t846) ∧ Aside0 (Kd.Q (Kd.int .i64) 3 wc w.heap.size (fun k_ => nb k_ Ao15 t815 co15 ∧ nb k_ Ao18 t818 co18 ∧ nb k_ Ao22 t823 co22 ∧ nb k_ Ao30 t828 co30 ∧ nb k_ Ao38 t833 co38 ∧ nb k_ Ao45 t836 co45 ∧ nb k_ Ao53 t841 co53 ∧ nb k_ Ao65 t846 co65 ∧ nb k_ Ao88 t854 co88) (.slice Ao77 t851.length co77) t851) ∧ Aside0 (Kd.Q (Kd.int .i64) 3 wc w.heap.size (fun k_ => nb k_ Ao15 t815 co15 ∧ nb k_ Ao18 t818 co18 ∧ nb k_ Ao22 t823 co22 ∧ nb k_ Ao30 t828 co30 ∧ nb k_ Ao38 t833 co38 ∧ nb k_ Ao45 t836 co45 ∧ nb k_ Ao53 t841 co53 ∧ nb k_ Ao65 t846 co65 ∧ nb k_ Ao77 t851 co77) (.slice Ao88 t854.length co88) t854) ∧ Aside0 (wc.heap[gb821]? = some (.cells #[(.slice Ao15 t815.length co15)] 26 (0, 0))) ∧ Aside0 (wc.heap[gb822]? = some (.cells #[(.slice Ao18 t818.length co18)] 26 (0, 0))) ∧ Aside0 (wc.heap[gb827]? = some (.cells #[(.slice Ao22 t823.length co22)] 26 (0, 0))) ∧ Aside0 (wc.heap[gb832]? = some (.cells #[(.slice Ao30 t828.length co30)] 26 (0, 0))) ∧ Aside0 (wc.heap[gb839]? = some (.cells #[(.slice Ao38 t833.length co38)] 26 (0, 0))) ∧ Aside0 (wc.heap[gb840]? = some (.cells #[(.slice Ao45 t836.length co45)] 26 (0, 0))) ∧ Aside0 (wc.heap[gb845]? = some (.cells #[(.slice Ao53 t841.length co53)] 26 (0, 0))) ∧ Aside0 (wc.heap[gb850]? = some (.cells #[(.slice Ao65 t846.length co65)] 26 (0, 0))) ∧ Aside0 (wc.heap[gb857]? = some (.cells #[(.slice Ao77 t851.length co77)] 26 (0, 0))) ∧ Aside0 (wc.heap[gb858]? = some (.cells #[(.slice Ao88 t854.length co88)] 26 (0, 0))) ∧ Aside0 (Below w.heap.size w wc))
       case first =>
        have H := HC148.out
        clear HC148
        replace H := gb H; obtain ⟨rfl, H⟩ | ⟨rfl, H⟩ := H
        ·replace H := ga H; obtain ⟨t866, A150, H⟩ := H
         by_cases c151 : t866 = true
         ·subst c151
          have H1 : ((impl_IsWithin.f kj124 t823 t818).bind fun t867 => (laws_FnCombined.j3 kj124 t844 (!t867) t833 t836 t841)) = some true := by rw [if_pos rfl] at H; exact H
          clear H
          have H := H1
          clear H1
          replace H := ga H; obtain ⟨t867, A152, H⟩ := H
          have H' := am H
          clear H
          have hnb153 := NB827_821.out
          have hnc153 := NB821_827.out
          have hnb154 := NB827_822.out
          have hnc154 := NB822_827.out
          have hnb155 := NB827_832.out
          have hnc155 := NB832_827.out
          have hnb156 := NB827_839.out
          have hnc156 := NB839_827.out
          have hnb157 := NB827_840.out
          have hnc157 := NB840_827.out
          have hnb158 := NB827_845.out
          have hnc158 := NB845_827.out
          have hnb159 := NB827_850.out
          have hnc159 := NB850_827.out
          have hnb160 := NB827_857.out
          have hnc160 := NB857_827.out
          have hnb161 := NB827_858.out
          have hnc161 := NB858_827.out
          have hcz162_0 := bc BK827 0 (.slice Ao22 t823.length co22)
          have hfz162_0 := blk_frozen BK827.out 0
          have hnb163 := NB821_822.out
          have hnc163 := NB822_821.out
          have hnb164 := NB821_832.out
          have hnc164 := NB832_821.out
          have hnb165 := NB821_839.out
          have hnc165 := NB839_821.out
          have hnb166 := NB821_840.out
          have hnc166 := NB840_821.out
          have hnb167 := NB821_845.out
          have hnc167 := NB845_821.out
          have hnb168 := NB821_850.out
          have hnc168 := NB850_821.out
          have hnb169 := NB821_857.out
          have hnc169 := NB857_821.out
          have hnb170 := NB821_858.out
          have hnc170 := NB858_821.out
          have hcz171_0 := bc BK821 0 (.slice Ao15 t815.length co15)
          have hfz171_0 := blk_frozen BK821.out 0
          go_wp2_with (first | (go_at_call 115; (with_reducible refine (impl_IsWithin.calls kj124 _ _ t823 _ _ t815 true _ ?side1 ?side2 ?side3 ?side4 A150.out).mono ?_); (case side1 => exact co (Kd.Q_reads' HO_828000.out).2.2); (case side2 => exact (Kd.Q_reads' HO_828000.out).2.1); (case side3 => exact co (Kd.Q_reads' HO_822000.out).2.2); (case side4 => exact (Kd.Q_reads' HO_822000.out).2.1); rintro e w172 ⟨rfl, hb⟩; replace HO_822000 := qK HO_822000 hb; replace HO_823000 := qK HO_823000 hb; replace HO_828000 := qK HO_828000 hb; replace HO_833000 := qK HO_833000 hb; replace HO_840000 := qK HO_840000 hb; replace HO_841000 := qK HO_841000 hb; replace HO_846000 := qK HO_846000 hb; replace HO_851000 := qK HO_851000 hb; replace HO_858000 := qK HO_858000 hb; replace HO_859000 := qK HO_859000 hb; replace BK821 := kb BK821 hb; replace BK822 := kb BK822 hb; replace BK827 := kb BK827 hb; replace BK832 := kb BK832 hb; replace BK839 := kb BK839 hb; replace BK840 := kb BK840 hb; replace BK845 := kb BK845 hb; replace BK850 := kb BK850 hb; replace BK857 := kb BK857 hb; replace BK858 := kb BK858 hb; replace HB := am (below_step bw hb); clear hb; have hcz173_0 := bc BK827 0 (.slice Ao22 t823.length co22); have hfz173_0 := blk_frozen BK827.out 0; have hnb174 := NB822_832.out; have hnc174 := NB832_822.out; have hnb175 := NB822_839.out; have hnc175 := NB839_822.out; have hnb176 := NB822_840.out; have hnc176 := NB840_822.out; have hnb177 := NB822_845.out; have hnc177 := NB845_822.out; have hnb178 := NB822_850.out; have hnc178 := NB850_822.out; have hnb179 := NB822_857.out; have hnc179 := NB857_822.out; have hnb180 := NB822_858.out; have hnc180 := NB858_822.out; have hcz181_0 := bc BK822 0 (.slice Ao18 t818.length co18); have hfz181_0 := blk_frozen BK822.out 0) | (go_at_call 115; (with_reducible refine (impl_IsWithin.calls kj124 _ _ t823 _ _ t818 t867 _ ?side1 ?side2 ?side3 ?side4 A152.out).mono ?_); (case side1 => exact co (Kd.Q_reads' HO_828000.out).2.2); (case side2 => exact (Kd.Q_reads' HO_828000.out).2.1); (case side3 => exact co (Kd.Q_reads' HO_823000.out).2.2); (case side4 => exact (Kd.Q_reads' HO_823000.out).2.1); rintro e w182 ⟨rfl, hb⟩; replace HO_822000 := qK HO_822000 hb; replace HO_823000 := qK HO_823000 hb; replace HO_828000 := qK HO_828000 hb; replace HO_833000 := qK HO_833000 hb; replace HO_840000 := qK HO_840000 hb; replace HO_841000 := qK HO_841000 hb; replace HO_846000 := qK HO_846000 hb; replace HO_851000 := qK HO_851000 hb; replace HO_858000 := qK HO_858000 hb; replace HO_859000 := qK HO_859000 hb; replace BK821 := kb BK821 hb; replace BK822 := kb BK822 hb; replace BK827 := kb BK827 hb; replace BK832 := kb BK832 hb; replace BK839 := kb BK839 hb; replace BK840 := kb BK840 hb; replace BK845 := kb BK845 hb; replace BK850 := kb BK850 hb; replace BK857 := kb BK857 hb; replace BK858 := kb BK858 hb; replace HB := am (below_step bw hb); clear hb))
          go_meet
          case rel => exact ⟨_, (!t867), rr, H', ⟨by have := HJ10.out; have := HK2.out; have := HJ124.out; first | omega | exact Nat.le_refl _⟩, ⟨qo HO_822000.out⟩, ⟨qo HO_823000.out⟩, ⟨qo HO_828000.out⟩, ⟨qo HO_833000.out⟩, ⟨qo HO_840000.out⟩, ⟨qo HO_841000.out⟩, ⟨qo HO_846000.out⟩, ⟨qo HO_851000.out⟩, ⟨qo HO_858000.out⟩, ⟨qo HO_859000.out⟩, ⟨bo BK821.out⟩, ⟨bo BK822.out⟩, ⟨bo BK827.out⟩, ⟨bo BK832.out⟩, ⟨bo BK839.out⟩, ⟨bo BK840.out⟩, ⟨bo BK845.out⟩, ⟨bo BK850.out⟩, ⟨bo BK857.out⟩, ⟨bo BK858.out⟩, ⟨bw⟩⟩
         replace c151 := Bool.eq_false_iff.mpr c151
         subst c151
         exact absurd H (laws_FnCombined.j3_no)
        have H' := am H
        clear H
        go_wp2
        go_meet
        case rel => exact ⟨_, (false), rr, H', ⟨by have := HJ10.out; have := HK2.out; have := HJ124.out; first | omega | exact Nat.le_refl _⟩, ⟨qo HO_822000.out⟩, ⟨qo HO_823000.out⟩, ⟨qo HO_828000.out⟩, ⟨qo HO_833000.out⟩, ⟨qo HO_840000.out⟩, ⟨qo HO_841000.out⟩, ⟨qo HO_846000.out⟩, ⟨qo HO_851000.out⟩, ⟨qo HO_858000.out⟩, ⟨qo HO_859000.out⟩, ⟨bo BK821.out⟩, ⟨bo BK822.out⟩, ⟨bo BK827.out⟩, ⟨bo BK832.out⟩, ⟨bo BK839.out⟩, ⟨bo BK840.out⟩, ⟨bo BK845.out⟩, ⟨bo BK850.out⟩, ⟨bo BK857.out⟩, ⟨bo BK858.out⟩, ⟨bw⟩⟩
       case rest =>
        clear HC148
        try clear c3; try clear c141; try clear c141b0; try clear c141b1; try clear c141b2; try clear c151; try clear hcz162_0; try clear hcz171_0; try clear hcz173_0; try clear hcz181_0; try clear hfz162_0; try clear hfz171_0; try clear hfz173_0; try clear hfz181_0
        obtain ⟨kq, x120_147, rfl, HA, HJ147, HO_822000, HO_823000, HO_828000, HO_833000, HO_840000, HO_841000, HO_846000, HO_851000, HO_858000, HO_859000, BK821, BK822, BK827, BK832, BK839, BK840, BK845, BK850, BK857, BK858, HB⟩ := hcut
        cases kq with
        | zero => exact absurd HA.out (by simp [laws_FnCombined.j3])
        | succ kj147 =>
         have H := HA.out
         clear HA
         simp only [laws_FnCombined.j3] at H
         replace H := gb H; obtain ⟨rfl, H⟩ | ⟨rfl, H⟩ := H
         ·exact absurd (Option.some.inj H) (by decide)
         have H' := am H
         clear H
         go_wp2
         go_loopg [18] kj147 (fun kq v18 w' => ∃ (x18_5 : Int), v18 = .int .i64 x18_5 ∧ Aside0 (laws_FnCombined.l1 kq t844 x18_5 t833 t836 t841 = some true) ∧ Aside0 (kq ≤ kj147) ∧ Aside0 (Kd.Q (Kd.int .i64) 3 w' w.heap.size (fun k_ => nb k_ Ao18 t818 co18 ∧ nb k_ Ao22 t823 co22 ∧ nb k_ Ao30 t828 co30 ∧ nb k_ Ao38 t833 co38 ∧ nb k_ Ao45 t836 co45 ∧ nb k_ Ao53 t841 co53 ∧ nb k_ Ao65 t846 co65 ∧ nb k_ Ao77 t851 co77 ∧ nb k_ Ao88 t854 co88) (.slice Ao15 t815.length co15) t815) ∧ Aside0 (Kd.Q (Kd.int .i64) 3 w' w.heap.size (fun k_ => nb k_ Ao15 t815 co15 ∧ nb k_ Ao22 t823 co22 ∧ nb k_ Ao30 t828 co30 ∧ nb k_ Ao38 t833 co38 ∧ nb k_ Ao45 t836 co45 ∧ nb k_ Ao53 t841 co53 ∧ nb k_ Ao65 t846 co65 ∧ nb k_ Ao77 t851 co77 ∧ nb k_ Ao88 t854 co88) (.slice Ao18 t818.length co18) t818) ∧ Aside0 (Kd.Q (Kd.int .i64) 3 w' w.heap.size (fun k_ => nb k_ Ao15 t815 co15 ∧ nb k_ Ao18 t818 co18 ∧ nb k_ Ao30 t828 co30 ∧ nb k_ Ao38 t833 co38 ∧ nb k_ Ao45 t836 co45 ∧ nb k_ Ao53 t841 co53 ∧ nb k_ Ao65 t846 co65 ∧ nb k_ Ao77 t851 co77 ∧ nb k_ Ao88 t854 co88) (.slice Ao22 t823.length co22) t823) ∧ Aside0 (Kd.Q (Kd.int .i64) 3 w' w.heap.size (fun k_ => nb k_ Ao15 t815 co15 ∧ nb k_ Ao18 t818 co18 ∧ nb k_ Ao22 t823 co22 ∧ nb k_ Ao38 t833 co38 ∧ nb k_ Ao45 t836 co45 ∧ nb k_ Ao53 t841 co53 ∧ nb k_ Ao65 t846 co65 ∧ nb k_ Ao77 t851 co77 ∧ nb k_ Ao88 t854 co88) (.slice Ao30 t828.length co30) t828) ∧ Aside0 (Kd.Q (Kd.int .i64) 3 w' w.heap.size (fun k_ => nb k_ Ao15 t815 co15 ∧ nb k_ Ao18 t818 co18 ∧ nb k_ Ao22 t823 co22 ∧ nb k_ Ao30 t828 co30 ∧ nb k_ Ao45 t836 co45 ∧ nb k_ Ao53 t841 co53 ∧ nb k_ Ao65 t846 co65 ∧ nb k_ Ao77 t851 co77 ∧ nb k_ Ao88 t854 co88) (.slice Ao38 t833.length co38) t833) ∧ Aside0 (Kd.Q (Kd.int .i64) 3 w' w.heap.size (fun k_ => nb k_ Ao15 t815 co15 ∧ nb k_ Ao18 t818 co18 ∧ nb k_ Ao22 t823 co22 ∧ nb k_ Ao30 t828 co30 ∧ nb k_ Ao38 t833 co38 ∧ nb k_ Ao53 t841 co53 ∧ nb k_ Ao65 t846 co65 ∧ nb k_ Ao77 t851 co77 ∧ nb k_ Ao88 t854 co88) (.slice Ao45 t836.length co45) t836) ∧ Aside0 (Kd.Q (Kd.int .i64) 3 w' w.heap.size (fun k_ => nb k_ Ao15 t815 co15 ∧ nb k_ Ao18 t818 co18 ∧ nb k_ Ao22 t823 co22 ∧ nb k_ Ao30 t828 co30 ∧ nb k_ Ao38 t833 co38 ∧ nb k_ Ao45 t836 co45 ∧ nb k_ Ao65 t846 co65 ∧ nb k_ Ao77 t851 co77 ∧ nb k_ Ao88 t854 co88) (.slice Ao53 t841.length co53) t841) ∧ Aside0 (Kd.Q (Kd.int .i64) 3 w' w.heap.size (fun k_ => nb k_ Ao15 t815 co15 ∧ nb k_ Ao18 t818 co18 ∧ nb k_ Ao22 t823 co22 ∧ nb k_ Ao30 t828 co30 ∧ nb k_ Ao38 t833 co38 ∧ nb k_ Ao45 t836 co45 ∧ nb k_ Ao53 t841 co53 ∧ nb k_ Ao77 t851 co77 ∧ nb k_ Ao88 t854 co88) (.slice Ao65 t846.length co65) t846) ∧ Aside0 (Kd.Q (Kd.int .i64) 3 w' w.heap.size (fun k_ => nb k_ Ao15 t815 co15 ∧ nb k_ Ao18 t818 co18 ∧ nb k_ Ao22 t823 co22 ∧ nb k_ Ao30 t828 co30 ∧ nb k_ Ao38 t833 co38 ∧ nb k_ Ao45 t836 co45 ∧ nb k_ Ao53 t841 co53 ∧ nb k_ Ao65 t846 co65 ∧ nb k_ Ao88 t854 co88) (.slice Ao77 t851.length co77) t851) ∧ Aside0 (Kd.Q (Kd.int .i64) 3 w' w.heap.size (fun k_ => nb k_ Ao15 t815 co15 ∧ nb k_ Ao18 t818 co18 ∧ nb k_ Ao22 t823 co22 ∧ nb k_ Ao30 t828 co30 ∧ nb k_ Ao38 t833 co38 ∧ nb k_ Ao45 t836 co45 ∧ nb k_ Ao53 t841 co53 ∧ nb k_ Ao65 t846 co65 ∧ nb k_ Ao77 t851 co77) (.slice Ao88 t854.length co88) t854) ∧ Aside0 (w'.heap[gb821]? = some (.cells #[(.slice Ao15 t815.length co15)] 26 (0, 0))) ∧ Aside0 (w'.heap[gb822]? = some (.cells #[(.slice Ao18 t818.length co18)] 26 (0, 0))) ∧ Aside0 (w'.heap[gb827]? = some (.cells #[(.slice Ao22 t823.length co22)] 26 (0, 0))) ∧ Aside0 (w'.heap[gb832]? = some (.cells #[(.slice Ao30 t828.length co30)] 26 (0, 0))) ∧ Aside0 (w'.heap[gb839]? = some (.cells #[(.slice Ao38 t833.length co38)] 26 (0, 0))) ∧ Aside0 (w'.heap[gb840]? = some (.cells #[(.slice Ao45 t836.length co45)] 26 (0, 0))) ∧ Aside0 (w'.heap[gb845]? = some (.cells #[(.slice Ao53 t841.length co53)] 26 (0, 0))) ∧ Aside0 (w'.heap[gb850]? = some (.cells #[(.slice Ao65 t846.length co65)] 26 (0, 0))) ∧ Aside0 (w'.heap[gb857]? = some (.cells #[(.slice Ao77 t851.length co77)] 26 (0, 0))) ∧ Aside0 (w'.heap[gb858]? = some (.cells #[(.slice Ao88 t854.length co88)] 26 (0, 0))) ∧ Aside0 (Below w.heap.size w w'))
         case atStart => exact ⟨(0), rr, H', ⟨Nat.le_refl _⟩, ⟨qo HO_822000.out⟩, ⟨qo HO_823000.out⟩, ⟨qo HO_828000.out⟩, ⟨qo HO_833000.out⟩, ⟨qo HO_840000.out⟩, ⟨qo HO_841000.out⟩, ⟨qo HO_846000.out⟩, ⟨qo HO_851000.out⟩, ⟨qo HO_858000.out⟩, ⟨qo HO_859000.out⟩, ⟨bo BK821.out⟩, ⟨bo BK822.out⟩, ⟨bo BK827.out⟩, ⟨bo BK832.out⟩, ⟨bo BK839.out⟩, ⟨bo BK840.out⟩, ⟨bo BK845.out⟩, ⟨bo BK850.out⟩, ⟨bo BK857.out⟩, ⟨bo BK858.out⟩, ⟨bw⟩⟩
         case round =>
          clear H'
          try clear c3; try clear c141; try clear c141b0; try clear c141b1; try clear c141b2; try clear c151; try clear hcz162_0; try clear hcz171_0; try clear hcz173_0; try clear hcz181_0; try clear hfz162_0; try clear hfz171_0; try clear hfz173_0; try clear hfz181_0
          obtain ⟨x18_5, rfl, HA, HK5, HO_822000, HO_823000, HO_828000, HO_833000, HO_840000, HO_841000, HO_846000, HO_851000, HO_858000, HO_859000, BK821, BK822, BK827, BK832, BK839, BK840, BK845, BK850, BK857, BK858, HB⟩ := hrel
          cases gk with
          | zero => exact absurd HA.out (by simp [laws_FnCombined.l1])
          | succ k5 =>
           have H := HA.out
           clear HA
           simp only [laws_FnCombined.l1] at H
           have HC204 := am H
           clear H
           go_upto_region 20 with (fail)
           go_cut [128] (fun v128 wc => ∃ (kq : Nat) (x128_203 : Bool), v128 = .bool x128_203 ∧ Aside0 (laws_FnCombined.j5 kq t844 x18_5 x128_203 t833 t836 t841 = some true) ∧ Aside0 (kq ≤ k5) ∧ Aside0 (Kd.Q (Kd.int .i64) 3 wc w.heap.size (fun k_ => nb k_ Ao18 t818 co18 ∧ nb k_ Ao22 t823 co22 ∧ nb k_ Ao30 t828 co30 ∧ nb k_ Ao38 t833 co38 ∧ nb k_ Ao45 t836 co45 ∧ nb k_ Ao53 t841 co53 ∧ nb k_ Ao65 t846 co65 ∧ nb k_ Ao77 t851 co77 ∧ nb k_ Ao88 t854 co88) (.slice Ao15 t815.length co15) t815) ∧ Aside0 (Kd.Q (Kd.int .i64) 3 wc w.heap.size (fun k_ => nb k_ Ao15 t815 co15 ∧ nb k_ Ao22 t823 co22 ∧ nb k_ Ao30 t828 co30 ∧ nb k_ Ao38 t833 co38 ∧ nb k_ Ao45 t836 co45 ∧ nb k_ Ao53 t841 co53 ∧ nb k_ Ao65 t846 co65 ∧ nb k_ Ao77 t851 co77 ∧ nb k_ Ao88 t854 co88) (.slice Ao18 t818.length co18) t818) ∧ Aside0 (Kd.Q (Kd.int .i64) 3 wc w.heap.size (fun k_ => nb k_ Ao15 t815 co15 ∧ nb k_ Ao18 t818 co18 ∧ nb k_ Ao30 t828 co30 ∧ nb k_ Ao38 t833 co38 ∧ nb k_ Ao45 t836 co45 ∧ nb k_ Ao53 t841 co53 ∧ nb k_ Ao65 t846 co65 ∧ nb k_ Ao77 t851 co77 ∧ nb k_ Ao88 t854 co88) (.slice Ao22 t823.length co22) t823) ∧ Aside0 (Kd.Q (Kd.int .i64) 3 wc w.heap.size (fun k_ => nb k_ Ao15 t815 co15 ∧ nb k_ Ao18 t818 co18 ∧ nb k_ Ao22 t823 co22 ∧ nb k_ Ao38 t833 co38 ∧ nb k_ Ao45 t836 co45 ∧ nb k_ Ao53 t841 co53 ∧ nb k_ Ao65 t846 co65 ∧ nb k_ Ao77 t851 co77 ∧ nb k_ Ao88 t854 co88) (.slice Ao30 t828.length co30) t828) ∧ Aside0 (Kd.Q (Kd.int .i64) 3 wc w.heap.size (fun k_ => nb k_ Ao15 t815 co15 ∧ nb k_ Ao18 t818 co18 ∧ nb k_ Ao22 t823 co22 ∧ nb k_ Ao30 t828 co30 ∧ nb k_ Ao45 t836 co45 ∧ nb k_ Ao53 t841 co53 ∧ nb k_ Ao65 t846 co65 ∧ nb k_ Ao77 t851 co77 ∧ nb k_ Ao88 t854 co88) (.slice Ao38 t833.length co38) t833) ∧ Aside0 (Kd.Q (Kd.int .i64) 3 wc w.heap.size (fun k_ => nb k_ Ao15 t815 co15 ∧ nb k_ Ao18 t818 co18 ∧ nb k_ Ao22 t823 co22 ∧ nb k_ Ao30 t828 co30 ∧ nb k_ Ao38 t833 co38 ∧ nb k_ Ao53 t841 co53 ∧ nb k_ Ao65 t846 co65 ∧ nb k_ Ao77 t851 co77 ∧ nb k_ Ao88 t854 co88) (.slice Ao45 t836.length co45) t836) ∧ Aside0 (Kd.Q (Kd.int .i64) 3 wc w.heap.size (fun k_ => nb k_ Ao15 t815 co15 ∧ nb k_ Ao18 t818 co18 ∧ nb k_ Ao22 t823 co22 ∧ nb k_ Ao30 t828 co30 ∧ nb k_ Ao38 t833 co38 ∧ nb k_ Ao45 t836 co45 ∧ nb k_ Ao65 t846 co65 ∧ nb k_ Ao77 t851 co77 ∧ nb k_ Ao88 t854 co88) (.slice Ao53 t841.length co53) t841) ∧ Aside0 (Kd.Q (Kd.int .i64) 3 wc w.heap.size (fun k_ => nb k_ Ao15 t815 co15 ∧ nb k_ Ao18 t818 co18 ∧ nb k_ Ao22 t823 co22 ∧ nb k_ Ao30 t828 co30 ∧ nb k_ Ao38 t833 co38 ∧ nb k_ Ao45 t836 co45 ∧ nb k_ Ao53 t841 co53 ∧ nb k_ Ao77 t851 co77 ∧ nb k_ Ao88 t854 co88) (.slice Ao65 t846.length co65) t846) ∧ Aside0 (Kd.Q (Kd.int .i64) 3 wc w.heap.size (fun k_ => nb k_ Ao15 t815 co15 ∧ nb k_ Ao18 t818 co18 ∧ nb k_ Ao22 t823 co22 ∧ nb k_ Ao30 t828 co30 ∧ nb k_ Ao38 t833 co38 ∧ nb k_ Ao45 t836 co45 ∧ nb k_ Ao53 t841 co53 ∧ nb k_ Ao65 t846 co65 ∧ nb k_ Ao88 t854 co88) (.slice Ao77 t851.length co77) t851) ∧ Aside0 (Kd.Q (Kd.int .i64) 3 wc w.heap.size (fun k_ => nb k_ Ao15 t815 co15 ∧ nb k_ Ao18 t818 co18 ∧ nb k_ Ao22 t823 co22 ∧ nb k_ Ao30 t828 co30 ∧ nb k_ Ao38 t833 co38 ∧ nb k_ Ao45 t836 co45 ∧ nb k_ Ao53 t841 co53 ∧ nb k_ Ao65 t846 co65 ∧ nb k_ Ao77 t851 co77) (.slice Ao88 t854.length co88) t854) ∧ Aside0 (wc.heap[gb821]? = some (.cells #[(.slice Ao15 t815.length co15)] 26 (0, 0))) ∧ Aside0 (wc.heap[gb822]? = some (.cells #[(.slice Ao18 t818.length co18)] 26 (0, 0))) ∧ Aside0 (wc.heap[gb827]? = some (.cells #[(.slice Ao22 t823.length co22)] 26 (0, 0))) ∧ Aside0 (wc.heap[gb832]? = some (.cells #[(.slice Ao30 t828.length co30)] 26 (0, 0))) ∧ Aside0 (wc.heap[gb839]? = some (.cells #[(.slice Ao38 t833.length co38)] 26 (0, 0))) ∧ Aside0 (wc.heap[gb840]? = some (.cells #[(.slice Ao45 t836.length co45)] 26 (0, 0))) ∧ Aside0 (wc.heap[gb845]? = some (.cells #[(.slice Ao53 t841.length co53)] 26 (0, 0))) ∧ Aside0 (wc.heap[gb850]? = some (.cells #[(.slice Ao65 t846.length co65)] 26 (0, 0))) ∧ Aside0 (wc.heap[gb857]? = some (.cells #[(.slice Ao77 t851.length co77)] 26 (0, 0))) ∧ Aside0 (wc.heap[gb858]? = some (.cells #[(.slice Ao88 t854.length co88)] 26 (0, 0))) ∧ Aside0 (Below w.heap.size w wc))
           case first =>
            have H := HC204.out
            clear HC204
            replace H := gi H; obtain ⟨c205b0, H⟩ | ⟨c205b0, H⟩ := H
            ·(first | rw [c205b0] | (simp only [i64_w, i32_w]; rw [c205b0]) | skip)
             have H' := am H
             clear H
             have hnb206 := NB845_821.out
             have hnc206 := NB821_845.out
             have hnb207 := NB845_822.out
             have hnc207 := NB822_845.out
             have hnb208 := NB845_827.out
             have hnc208 := NB827_845.out
             have hnb209 := NB845_832.out
             have hnc209 := NB832_845.out
             have hnb210 := NB845_839.out
             have hnc210 := NB839_845.out
             have hnb211 := NB845_840.out
             have hnc211 := NB840_845.out
             have hnb212 := NB845_850.out
             have hnc212 := NB850_845.out
             have hnb213 := NB845_857.out
             have hnc213 := NB857_845.out
             have hnb214 := NB845_858.out
             have hnc214 := NB858_845.out
             have hcz215_0 := bc BK845 0 (.slice Ao53 t841.length co53)
             have hfz215_0 := blk_frozen BK845.out 0
             go_wp2
             go_meet
             case rel => exact ⟨_, (t844), rr, H', ⟨by have := HJ10.out; have := HK2.out; have := HJ124.out; have := HJ147.out; have := HK5.out; first | omega | exact Nat.le_refl _⟩, ⟨qo HO_822000.out⟩, ⟨qo HO_823000.out⟩, ⟨qo HO_828000.out⟩, ⟨qo HO_833000.out⟩, ⟨qo HO_840000.out⟩, ⟨qo HO_841000.out⟩, ⟨qo HO_846000.out⟩, ⟨qo HO_851000.out⟩, ⟨qo HO_858000.out⟩, ⟨qo HO_859000.out⟩, ⟨bo BK821.out⟩, ⟨bo BK822.out⟩, ⟨bo BK827.out⟩, ⟨bo BK832.out⟩, ⟨bo BK839.out⟩, ⟨bo BK840.out⟩, ⟨bo BK845.out⟩, ⟨bo BK850.out⟩, ⟨bo BK857.out⟩, ⟨bo BK858.out⟩, ⟨bw⟩⟩
            ·(first | rw [c205b0] | (simp only [i64_w, i32_w]; rw [c205b0]) | skip)
             have H' := am H
             clear H
             have hnb216 := NB845_821.out
             have hnc216 := NB821_845.out
             have hnb217 := NB845_822.out
             have hnc217 := NB822_845.out
             have hnb218 := NB845_827.out
             have hnc218 := NB827_845.out
             have hnb219 := NB845_832.out
             have hnc219 := NB832_845.out
             have hnb220 := NB845_839.out
             have hnc220 := NB839_845.out
             have hnb221 := NB845_840.out
             have hnc221 := NB840_845.out
             have hnb222 := NB845_850.out
             have hnc222 := NB850_845.out
             have hnb223 := NB845_857.out
             have hnc223 := NB857_845.out
             have hnb224 := NB845_858.out
             have hnc224 := NB858_845.out
             have hcz225_0 := bc BK845 0 (.slice Ao53 t841.length co53)
             have hfz225_0 := blk_frozen BK845.out 0
             go_wp2
             go_meet
             case rel => exact ⟨_, (false), rr, H', ⟨by have := HJ10.out; have := HK2.out; have := HJ124.out; have := HJ147.out; have := HK5.out; first | omega | exact Nat.le_refl _⟩, ⟨qo HO_822000.out⟩, ⟨qo HO_823000.out⟩, ⟨qo HO_828000.out⟩, ⟨qo HO_833000.out⟩, ⟨qo HO_840000.out⟩, ⟨qo HO_841000.out⟩, ⟨qo HO_846000.out⟩, ⟨qo HO_851000.out⟩, ⟨qo HO_858000.out⟩, ⟨qo HO_859000.out⟩, ⟨bo BK821.out⟩, ⟨bo BK822.out⟩, ⟨bo BK827.out⟩, ⟨bo BK832.out⟩, ⟨bo BK839.out⟩, ⟨bo BK840.out⟩, ⟨bo BK845.out⟩, ⟨bo BK850.out⟩, ⟨bo BK857.out⟩, ⟨bo BK858.out⟩, ⟨bw⟩⟩
           case rest =>
            clear HC204
            try clear c3; try clear c141; try clear c141b0; try clear c141b1; try clear c141b2; try clear c151; try clear c205b0; try clear hcz162_0; try clear hcz171_0; try clear hcz173_0; try clear hcz181_0; try clear hcz215_0; try clear hcz225_0; try clear hfz162_0; try clear hfz171_0; try clear hfz173_0; try clear hfz181_0; try clear hfz215_0; try clear hfz225_0
            obtain ⟨kq, x128_203, rfl, HA, HJ203, HO_822000, HO_823000, HO_828000, HO_833000, HO_840000, HO_841000, HO_846000, HO_851000, HO_858000, HO_859000, BK821, BK822, BK827, BK832, BK839, BK840, BK845, BK850, BK857, BK858, HB⟩ := hcut
            cases kq with
            | zero => exact absurd HA.out (by simp [laws_FnCombined.j5])
            | succ kj203 =>
             have H := HA.out
             clear HA
             simp only [laws_FnCombined.j5] at H
             replace H := gb H; obtain ⟨rfl, H⟩ | ⟨rfl, H⟩ := H
             ·replace H := gd H; obtain ⟨c227b0, H⟩ := H
              replace H := gd H; obtain ⟨c228b0, H⟩ := H
              replace H := ga H; obtain ⟨t871, A229, H⟩ := H
              replace H := gb H; obtain ⟨rfl, H⟩ | ⟨rfl, H⟩ := H
              ·have H' := am H
               clear H
               try go_wp2
               replace HO_822000 := am (Kd.Q_drew HO_822000.out)
               replace HO_823000 := am (Kd.Q_drew HO_823000.out)
               replace HO_828000 := am (Kd.Q_drew HO_828000.out)
               replace HO_833000 := am (Kd.Q_drew HO_833000.out)
               replace HO_840000 := am (Kd.Q_drew HO_840000.out)
               replace HO_841000 := am (Kd.Q_drew HO_841000.out)
               replace HO_846000 := am (Kd.Q_drew HO_846000.out)
               replace HO_851000 := am (Kd.Q_drew HO_851000.out)
               replace HO_858000 := am (Kd.Q_drew HO_858000.out)
               replace HO_859000 := am (Kd.Q_drew HO_859000.out)
               replace BK821 := bd BK821
               replace BK822 := bd BK822
               replace BK827 := bd BK827
               replace BK832 := bd BK832
               replace BK839 := bd BK839
               replace BK840 := bd BK840
               replace BK845 := bd BK845
               replace BK850 := bd BK850
               replace BK857 := bd BK857
               replace BK858 := bd BK858
               replace HB := am (below_drew1 HB.out)
               obtain ⟨⟨ad870, e870, hx870_0⟩, p870, q870⟩ := pq (Kd.at_int (Kd.Q_reads' HO_846000.out).2.2 x18_5)
               cases e870
               refine start_ (n := 20) (S := fun w' => w'.cell? ⟨gb839, 0, none⟩ = some (.slice Ao38 t833.length co38) ∧ w'.cell? ⟨gb845, 0, none⟩ = some (.slice (some ad870) t841.length co53) ∧ w'.cell? (ad870.add (x18_5).toNat) = some (.int .i64 (rd t841 x18_5))) (ds := []) (yz 20 0) (by kernel_rfl) rfl rfl ⟨bc BK839 0 _, bc BK845 0 _, hx870_0⟩ (fun hHeld => ?_); refine with_tabW laws_FnCombined.tab22 laws_FnCombined.bits22 (fun HT_ HW_ => ?_)
               generalize wc.drew = w231 at HO_822000 HO_823000 HO_828000 HO_833000 HO_840000 HO_841000 HO_846000 HO_851000 HO_858000 HO_859000 BK821 BK822 BK827 BK832 BK839 BK840 BK845 BK850 BK857 BK858 HB hx870_0 hHeld ⊢
               refine pa 0 (some 131) (yz 20 1) HT_ ?_
               refine pa 2 (some 133) (yz 20 5) HT_ ?_
               refine pa 4 (some 135) (yz 20 21) HT_ ?_
               refine tk 1 (some 132) (yz 20 23) HT_ HW_ hHeld ?_
               refine tk 3 (some 134) (yz 20 31) HT_ HW_ hHeld ?_
               refine pa 5 (some 136) (yz 20 63) HT_ ?_
               refine tk 6 (some 137) (yz 20 127) HT_ HW_ hHeld ?_
               refine oa 7 (some 138) (yz 20 255) HT_ (fun K hK => ?_)
               refine gm Try.func117 #[.slice Ao38 t833.length co38, .int .i64 (rd t841 x18_5)] ?_
               with_reducible refine (spec_HasNumber.calls kj203 _ _ t833 (rd t841 x18_5) true _ ?side1 ?side2 A229.out).mono ?_
               (case side1 => exact co (Kd.Q_reads' HO_840000.out).2.2)
               (case side2 => exact (Kd.Q_reads' HO_840000.out).2.1)
               rintro e w' ⟨rfl, ⟨nd, rfl⟩⟩
               refine ⟨_, rfl, ?_⟩
               refine hK.out _ _ ⟨bc BK839 0 _, bc BK845 0 _, hHeld.2.2⟩ (fun hHeld => ?_)
               clear hK K
               refine nm (some 138) ?_
               refine pa 8 (some 139) (yz 20 511) HT_ ?_
               refine pa 9 (some 140) (yz 20 1023) HT_ ?_
               refine pu 10 (some 141) (yz 20 2047) HT_ ?_
               refine pu 11 (some 142) (yz 20 4095) HT_ ?_
               refine pu 12 (some 143) (yz 20 8191) HT_ ?_
               refine pu 13 (some 144) (yz 20 16383) HT_ ?_
               refine pu 14 (some 145) (yz 20 32767) HT_ ?_
               refine pu 15 (some 146) (yz 20 65535) HT_ ?_
               refine pu 16 (some 147) (yz 20 131071) HT_ ?_
               refine pu 17 (some 148) (yz 20 262143) HT_ ?_
               refine pu 18 (some 149) (yz 20 524287) HT_ ?_
               refine pa 19 (some 150) (yz 20 1048575) HT_ ?_
               refine done_ (done_of HT_.out (by kernel_rfl)) ?_
               try go_wp2
               go_roundg kj203
               case measure => have := HJ10.out; have := HK2.out; have := HJ124.out; have := HJ147.out; have := HK5.out; have := HJ203.out; omega
               case rel => exact ⟨(wrap64 (x18_5 + 1)), rr, H', ⟨by have := HJ10.out; have := HK2.out; have := HJ124.out; have := HJ147.out; have := HK5.out; have := HJ203.out; omega⟩, ⟨qo HO_822000.out⟩, ⟨qo HO_823000.out⟩, ⟨qo HO_828000.out⟩, ⟨qo HO_833000.out⟩, ⟨qo HO_840000.out⟩, ⟨qo HO_841000.out⟩, ⟨qo HO_846000.out⟩, ⟨qo HO_851000.out⟩, ⟨qo HO_858000.out⟩, ⟨qo HO_859000.out⟩, ⟨bo BK821.out⟩, ⟨bo BK822.out⟩, ⟨bo BK827.out⟩, ⟨bo BK832.out⟩, ⟨bo BK839.out⟩, ⟨bo BK840.out⟩, ⟨bo BK845.out⟩, ⟨bo BK850.out⟩, ⟨bo BK857.out⟩, ⟨bo BK858.out⟩, ⟨bw⟩⟩
              replace H := ga H; obtain ⟨t873, A232, H⟩ := H
              replace H := gb H; obtain ⟨rfl, H⟩ | ⟨rfl, H⟩ := H
              ·have H' := am H
               clear H
               try go_wp2
               replace HO_822000 := am (Kd.Q_drew HO_822000.out)
               replace HO_823000 := am (Kd.Q_drew HO_823000.out)
               replace HO_828000 := am (Kd.Q_drew HO_828000.out)
               replace HO_833000 := am (Kd.Q_drew HO_833000.out)
               replace HO_840000 := am (Kd.Q_drew HO_840000.out)
               replace HO_841000 := am (Kd.Q_drew HO_841000.out)
               replace HO_846000 := am (Kd.Q_drew HO_846000.out)
               replace HO_851000 := am (Kd.Q_drew HO_851000.out)
               replace HO_858000 := am (Kd.Q_drew HO_858000.out)
               replace HO_859000 := am (Kd.Q_drew HO_859000.out)
               replace BK821 := bd BK821
               replace BK822 := bd BK822
               replace BK827 := bd BK827
               replace BK832 := bd BK832
               replace BK839 := bd BK839
               replace BK840 := bd BK840
               replace BK845 := bd BK845
               replace BK850 := bd BK850
               replace BK857 := bd BK857
               replace BK858 := bd BK858
               replace HB := am (below_drew1 HB.out)
               obtain ⟨⟨ad870, e870, hx870_0⟩, p870, q870⟩ := pq (Kd.at_int (Kd.Q_reads' HO_846000.out).2.2 x18_5)
               cases e870
               obtain ⟨⟨ad872, e872, hx872_0⟩, p872, q872⟩ := pq (Kd.at_int (Kd.Q_reads' HO_846000.out).2.2 x18_5)
               obtain rfl : ad870 = ad872 := (by injection e872)
               refine start_ (n := 20) (S := fun w' => w'.cell? ⟨gb839, 0, none⟩ = some (.slice Ao38 t833.length co38) ∧ w'.cell? ⟨gb845, 0, none⟩ = some (.slice (some ad870) t841.length co53) ∧ w'.cell? ⟨gb840, 0, none⟩ = some (.slice Ao45 t836.length co45) ∧ w'.cell? (ad870.add (x18_5).toNat) = some (.int .i64 (rd t841 x18_5)) ∧ w'.cell? (ad870.add (x18_5).toNat) = some (.int .i64 (rd t841 x18_5))) (ds := []) (yz 20 0) (by kernel_rfl) rfl rfl ⟨bc BK839 0 _, bc BK845 0 _, bc BK840 0 _, hx870_0, hx872_0⟩ (fun hHeld => ?_); refine with_tabW laws_FnCombined.tab22 laws_FnCombined.bits22 (fun HT_ HW_ => ?_)
               generalize wc.drew = w234 at HO_822000 HO_823000 HO_828000 HO_833000 HO_840000 HO_841000 HO_846000 HO_851000 HO_858000 HO_859000 BK821 BK822 BK827 BK832 BK839 BK840 BK845 BK850 BK857 BK858 HB hx870_0 hx872_0 hHeld ⊢
               refine pa 0 (some 131) (yz 20 1) HT_ ?_
               refine pa 2 (some 133) (yz 20 5) HT_ ?_
               refine pa 4 (some 135) (yz 20 21) HT_ ?_
               refine tk 1 (some 132) (yz 20 23) HT_ HW_ hHeld ?_
               refine tk 3 (some 134) (yz 20 31) HT_ HW_ hHeld ?_
               refine pa 5 (some 136) (yz 20 63) HT_ ?_
               refine tk 6 (some 137) (yz 20 127) HT_ HW_ hHeld ?_
               refine oa 7 (some 138) (yz 20 255) HT_ (fun K hK => ?_)
               refine gm Try.func117 #[.slice Ao38 t833.length co38, .int .i64 (rd t841 x18_5)] ?_
               with_reducible refine (spec_HasNumber.calls kj203 _ _ t833 (rd t841 x18_5) false _ ?side1 ?side2 A229.out).mono ?_
               (case side1 => exact co (Kd.Q_reads' HO_840000.out).2.2)
               (case side2 => exact (Kd.Q_reads' HO_840000.out).2.1)
               rintro e w' ⟨rfl, ⟨nd, rfl⟩⟩
               refine ⟨_, rfl, ?_⟩
               refine hK.out _ _ ⟨bc BK839 0 _, bc BK845 0 _, bc BK840 0 _, hHeld.2.2.2.1, hHeld.2.2.2.2⟩ (fun hHeld => ?_)
               clear hK K
               refine nm (some 138) ?_
               refine pa 8 (some 139) (yz 20 511) HT_ ?_
               refine pa 9 (some 140) (yz 20 1023) HT_ ?_
               refine pa 10 (some 141) (yz 20 2047) HT_ ?_
               refine pa 12 (some 143) (yz 20 6143) HT_ ?_
               refine pa 14 (some 145) (yz 20 22527) HT_ ?_
               refine tk 11 (some 142) (yz 20 24575) HT_ HW_ hHeld ?_
               refine tk 13 (some 144) (yz 20 32767) HT_ HW_ hHeld ?_
               refine pa 15 (some 146) (yz 20 65535) HT_ ?_
               refine tk 16 (some 147) (yz 20 131071) HT_ HW_ hHeld ?_
               refine oa 17 (some 148) (yz 20 262143) HT_ (fun K hK => ?_)
               refine gm Try.func117 #[.slice Ao45 t836.length co45, .int .i64 (rd t841 x18_5)] ?_
               with_reducible refine (spec_HasNumber.calls kj203 _ _ t836 (rd t841 x18_5) true _ ?side1 ?side2 A232.out).mono ?_
               (case side1 => exact co (Kd.Q_reads' HO_841000.out).2.2)
               (case side2 => exact (Kd.Q_reads' HO_841000.out).2.1)
               rintro e w' ⟨rfl, ⟨nd, rfl⟩⟩
               refine ⟨_, rfl, ?_⟩
               refine hK.out _ _ ⟨bc BK839 0 _, bc BK845 0 _, bc BK840 0 _, hHeld.2.2.2.1, hHeld.2.2.2.2⟩ (fun hHeld => ?_)
               clear hK K
               refine nm (some 148) ?_
               refine pa 18 (some 149) (yz 20 524287) HT_ ?_
               refine pa 19 (some 150) (yz 20 1048575) HT_ ?_
               refine done_ (done_of HT_.out (by kernel_rfl)) ?_
               try go_wp2
               go_roundg kj203
               case measure => have := HJ10.out; have := HK2.out; have := HJ124.out; have := HJ147.out; have := HK5.out; have := HJ203.out; omega
               case rel => exact ⟨(wrap64 (x18_5 + 1)), rr, H', ⟨by have := HJ10.out; have := HK2.out; have := HJ124.out; have := HJ147.out; have := HK5.out; have := HJ203.out; omega⟩, ⟨qo HO_822000.out⟩, ⟨qo HO_823000.out⟩, ⟨qo HO_828000.out⟩, ⟨qo HO_833000.out⟩, ⟨qo HO_840000.out⟩, ⟨qo HO_841000.out⟩, ⟨qo HO_846000.out⟩, ⟨qo HO_851000.out⟩, ⟨qo HO_858000.out⟩, ⟨qo HO_859000.out⟩, ⟨bo BK821.out⟩, ⟨bo BK822.out⟩, ⟨bo BK827.out⟩, ⟨bo BK832.out⟩, ⟨bo BK839.out⟩, ⟨bo BK840.out⟩, ⟨bo BK845.out⟩, ⟨bo BK850.out⟩, ⟨bo BK857.out⟩, ⟨bo BK858.out⟩, ⟨bw⟩⟩
              exact absurd (Option.some.inj H) (by decide)
             by_cases c236 : t844 = true
             ·subst c236
              have H1 : ((impl_IsWithin.f kj203 t833 t841).bind fun t868 => (if t868 = true then ((impl_IsWithin.f kj203 t836 t841).bind fun t869 => (some t869)) else (some false))) = some true := by rw [if_pos rfl] at H; exact H
              clear H
              have H := H1
              clear H1
              replace H := ga H; obtain ⟨t868, A237, H⟩ := H
              replace H := gb H; obtain ⟨rfl, H⟩ | ⟨rfl, H⟩ := H
              ·replace H := ga H; obtain ⟨t869, A239, H⟩ := H
               have HRE_ := Option.some.inj H
               have hnb240 := NB839_821.out
               have hnc240 := NB821_839.out
               have hnb241 := NB839_822.out
               have hnc241 := NB822_839.out
               have hnb242 := NB839_827.out
               have hnc242 := NB827_839.out
               have hnb243 := NB839_832.out
               have hnc243 := NB832_839.out
               have hnb244 := NB839_840.out
               have hnc244 := NB840_839.out
               have hnb245 := NB839_845.out
               have hnc245 := NB845_839.out
               have hnb246 := NB839_850.out
               have hnc246 := NB850_839.out
               have hnb247 := NB839_857.out
               have hnc247 := NB857_839.out
               have hnb248 := NB839_858.out
               have hnc248 := NB858_839.out
               have hcz249_0 := bc BK839 0 (.slice Ao38 t833.length co38)
               have hfz249_0 := blk_frozen BK839.out 0
               have hnb250 := NB845_821.out
               have hnc250 := NB821_845.out
               have hnb251 := NB845_822.out
               have hnc251 := NB822_845.out
               have hnb252 := NB845_827.out
               have hnc252 := NB827_845.out
               have hnb253 := NB845_832.out
               have hnc253 := NB832_845.out
               have hnb254 := NB845_840.out
               have hnc254 := NB840_845.out
               have hnb255 := NB845_850.out
               have hnc255 := NB850_845.out
               have hnb256 := NB845_857.out
               have hnc256 := NB857_845.out
               have hnb257 := NB845_858.out
               have hnc257 := NB858_845.out
               have hcz258_0 := bc BK845 0 (.slice Ao53 t841.length co53)
               have hfz258_0 := blk_frozen BK845.out 0
               go_wp2_with (first | (go_at_call 115; (with_reducible refine (impl_IsWithin.calls kj203 _ _ t833 _ _ t841 true _ ?side1 ?side2 ?side3 ?side4 A237.out).mono ?_); (case side1 => exact co (Kd.Q_reads' HO_840000.out).2.2); (case side2 => exact (Kd.Q_reads' HO_840000.out).2.1); (case side3 => exact co (Kd.Q_reads' HO_846000.out).2.2); (case side4 => exact (Kd.Q_reads' HO_846000.out).2.1); rintro e w259 ⟨rfl, hb⟩; replace HO_822000 := qK HO_822000 hb; replace HO_823000 := qK HO_823000 hb; replace HO_828000 := qK HO_828000 hb; replace HO_833000 := qK HO_833000 hb; replace HO_840000 := qK HO_840000 hb; replace HO_841000 := qK HO_841000 hb; replace HO_846000 := qK HO_846000 hb; replace HO_851000 := qK HO_851000 hb; replace HO_858000 := qK HO_858000 hb; replace HO_859000 := qK HO_859000 hb; replace BK821 := kb BK821 hb; replace BK822 := kb BK822 hb; replace BK827 := kb BK827 hb; replace BK832 := kb BK832 hb; replace BK839 := kb BK839 hb; replace BK840 := kb BK840 hb; replace BK845 := kb BK845 hb; replace BK850 := kb BK850 hb; replace BK857 := kb BK857 hb; replace BK858 := kb BK858 hb; replace HB := am (below_step bw hb); clear hb; have hnb260 := NB840_821.out; have hnc260 := NB821_840.out; have hnb261 := NB840_822.out; have hnc261 := NB822_840.out; have hnb262 := NB840_827.out; have hnc262 := NB827_840.out; have hnb263 := NB840_832.out; have hnc263 := NB832_840.out; have hnb264 := NB840_850.out; have hnc264 := NB850_840.out; have hnb265 := NB840_857.out; have hnc265 := NB857_840.out; have hnb266 := NB840_858.out; have hnc266 := NB858_840.out; have hcz267_0 := bc BK840 0 (.slice Ao45 t836.length co45); have hfz267_0 := blk_frozen BK840.out 0; have hcz268_0 := bc BK845 0 (.slice Ao53 t841.length co53); have hfz268_0 := blk_frozen BK845.out 0) | (go_at_call 115; (with_reducible refine (impl_IsWithin.calls kj203 _ _ t836 _ _ t841 t869 _ ?side1 ?side2 ?side3 ?side4 A239.out).mono ?_); (case side1 => exact co (Kd.Q_reads' HO_841000.out).2.2); (case side2 => exact (Kd.Q_reads' HO_841000.out).2.1); (case side3 => exact co (Kd.Q_reads' HO_846000.out).2.2); (case side4 => exact (Kd.Q_reads' HO_846000.out).2.1); rintro e w269 ⟨rfl, hb⟩; replace HO_822000 := qK HO_822000 hb; replace HO_823000 := qK HO_823000 hb; replace HO_828000 := qK HO_828000 hb; replace HO_833000 := qK HO_833000 hb; replace HO_840000 := qK HO_840000 hb; replace HO_841000 := qK HO_841000 hb; replace HO_846000 := qK HO_846000 hb; replace HO_851000 := qK HO_851000 hb; replace HO_858000 := qK HO_858000 hb; replace HO_859000 := qK HO_859000 hb; replace BK821 := kb BK821 hb; replace BK822 := kb BK822 hb; replace BK827 := kb BK827 hb; replace BK832 := kb BK832 hb; replace BK839 := kb BK839 hb; replace BK840 := kb BK840 hb; replace BK845 := kb BK845 hb; replace BK850 := kb BK850 hb; replace BK857 := kb BK857 hb; replace BK858 := kb BK858 hb; replace HB := am (below_step bw hb); clear hb))
               go_ret
               exact ⟨re, bw⟩
              exact absurd (Option.some.inj H) (by decide)
             replace c236 := Bool.eq_false_iff.mpr c236
             subst c236
             have H1 : (some true) = some true := rfl
             clear H
             have H := H1
             clear H1
             skip
             go_wp2
             go_ret
             exact ⟨re, bw⟩

/-- THE ONE PURE STATEMENT of laws_FnCombined: yours. -/
def laws_FnCombined.Pure : Prop := ∀ (l0 : List Int), l0.length ≤ maxLen → l0.length * 1 ≤ 140737488351232 → (∀ x ∈ l0, (Lit.int .u8 x).wf = true) → ∃ k, laws_FnCombined.f k l0 = some true
end Go.Proofs.Ytkfplkdchkmgbaa.C
