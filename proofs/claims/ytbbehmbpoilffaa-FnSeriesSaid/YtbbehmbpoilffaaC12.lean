/- Contracts of functions of the program: laws_FnSeries. -/
import Derived.Test.YtbbehmbpoilffaaC0
import Derived.Test.YtbbehmbpoilffaaC1
import Derived.Test.YtbbehmbpoilffaaC3
import Derived.Test.YtbbehmbpoilffaaC6
import Derived.Test.YtbbehmbpoilffaaC7
import Derived.Test.YtbbehmbpoilffaaC8
import Derived.Test.YtbbehmbpoilffaaC9
import Derived.Test.YtbbehmbpoilffaaC10
import Derived.Test.YtbbehmbpoilffaaC11
namespace Go.Proofs.Ytbbehmbpoilffaa.C
open Go.RowKit Go.Proofs.YtbbehmbpoilffaaW.PrintWords Go.Proofs.YtbbehmbpoilffaaW.PrintLast Go.Proofs.YtbbehmbpoilffaaW.PrintMore
attribute [local go_sem] max2_int min2_int max_two min_two max_three min_three max_four min_four
set_option linter.unusedVariables false
set_option linter.unusedSimpArgs false

/-! ### laws_FnSeries: function 3 -/
mutual
def laws_FnSeries.j0 : Nat → List Int → List Int → Bool → List Int → List Int → Option (Bool)
 | 0, _, _, _, _, _ => none
 | k + 1, x4, x13, x91, x746000, x771000 => if x91 = true then (some false) else (laws_FnSeries.l0 k x4 x13 0 x746000 x771000)
def laws_FnSeries.l0 : Nat → List Int → List Int → Int → List Int → List Int → Option (Bool)
 | 0, _, _, _, _, _ => none
 | k + 1, x4, x13, x14, x746000, x771000 => if x14 < (x13.length : Int) then (if 0 ≤ x14 then ((impl_EulerAt.f k x771000 x14).bind fun t801 => (if (rd x13 x14) = t801 then (laws_FnSeries.l0 k x4 x13 (wrap64 (x14 + 7)) x746000 x771000) else (some false))) else (none)) else ((spec_IsSemigroup.f k x746000).bind fun t802 => (if t802 = true then ((impl_SeriesFrom.f k x4 60).bind fun t803 => (laws_FnSeries.l1 k x4 t803 0 x746000)) else (some ((x4.length : Int) == 0))))
def laws_FnSeries.l1 : Nat → List Int → List Int → Int → List Int → Option (Bool)
 | 0, _, _, _, _ => none
 | k + 1, x4, x15, x16, x746000 => if x16 < (x15.length : Int) then (if 0 ≤ x16 then (if x16 = 0 then (if (((rd x15 x16) == 1) != true) = true then (some false) else (if (rd x15 x16) = 0 then (laws_FnSeries.l1 k x4 x15 (wrap64 (x16 + 1)) x746000) else (if (rd x15 x16) = 1 then (laws_FnSeries.l1 k x4 x15 (wrap64 (x16 + 1)) x746000) else (some false)))) else ((spec_Contains.f k x746000 x16).bind fun t809 => (if (((rd x15 x16) == 1) != t809) = true then (some false) else (if (rd x15 x16) = 0 then (laws_FnSeries.l1 k x4 x15 (wrap64 (x16 + 1)) x746000) else (if (rd x15 x16) = 1 then (laws_FnSeries.l1 k x4 x15 (wrap64 (x16 + 1)) x746000) else (some false)))))) else (none)) else ((impl_IsPalindrome.f k x4).bind fun t812 => ((spec_IsSymmetric.f k x746000).bind fun t813 => (some (t812 == t813))))
end
def laws_FnSeries.f (k : Nat) (l0 : List Int) : Option (Bool) := (laws_big.f l0).bind fun t741 => (if t741 = true then (some true) else ((spec_DrawNumeratorOf.f k l0).bind fun t742 => ((impl_NumeratorOf.f k t742).bind fun t746 => ((spec_DrawSeriesFrom.f k l0).bind fun bt749 => ((spec_DrawIsPalindrome.f k l0).bind fun t753 => ((spec_DrawMultiplyLists.f k l0).bind fun bt756 => ((spec_DrawEulerAt.f k l0).bind fun bt762 => ((spec_DrawEulerList.f k l0).bind fun t767 => ((impl_EulerList.f k t767).bind fun t771 => ((spec_NumeratorOf.f k t742).bind fun t774 => ((laws_sameInts.f k t746 t774).bind fun t777 => (if t777 = true then ((impl_SeriesFrom.f k bt749.1 bt749.2).bind fun t778 => ((spec_SeriesFrom.f k bt749.1 bt749.2).bind fun t781 => ((laws_sameInts.f k t778 t781).bind fun t784 => (if t784 = true then ((impl_IsPalindrome.f k t753).bind fun t785 => ((spec_IsPalindrome.f k t753).bind fun t786 => (if (t785 != t786) = true then (laws_FnSeries.j0 k t746 t771 true t742 t767) else ((impl_MultiplyLists.f k bt756.1 bt756.2).bind fun t787 => ((spec_MultiplyLists.f k bt756.1 bt756.2).bind fun t790 => ((laws_sameInts.f k t787 t790).bind fun t793 => (if t793 = true then ((impl_EulerAt.f k bt762.1 bt762.2).bind fun t794 => ((spec_EulerAt.f k bt762.1 bt762.2).bind fun t795 => (if t794 = t795 then ((spec_EulerList.f k t767).bind fun t796 => ((laws_sameInts.f k t771 t796).bind fun t799 => (laws_FnSeries.j0 k t746 t771 (!t799) t742 t767))) else (laws_FnSeries.j0 k t746 t771 true t742 t767)))) else (laws_FnSeries.j0 k t746 t771 true t742 t767)))))))) else (laws_FnSeries.j0 k t746 t771 true t742 t767))))) else (laws_FnSeries.j0 k t746 t771 true t742 t767)))))))))))))
def laws_FnSeries.T11 : Bool × List (List Nat × List Nat) := (true, [([], []), ([], []), ([1], [1]), ([0, 2, 2], [0, 2]), ([3], [3]), ([4, 3], [4]), ([5], [5]), ([5], [5]), ([6, 7, 5, 5], [5, 6, 7]), ([5], [5]), ([5], [5]), ([9, 10, 8, 5], [5, 9, 10]), ([8, 11, 11, 5], [5, 8, 11]), ([12, 5], [5, 12]), ([5, 13], [5, 13]), ([14, 12], [14]), ([15], [15]), ([16, 15, 15], [15, 16]), ([15], [15]), ([18, 17, 15], [15, 18]), ([17, 19, 15], [15, 17, 19]), ([15, 20], [15, 20]), ([21, 19], [21]), ([22], [22]), ([22], [22]), ([23, 24, 22, 22], [22, 23, 24]), ([22], [22]), ([22], [22]), ([26, 27, 25, 22], [22, 26, 27]), ([25, 28, 28, 22], [22, 25, 28]), ([29, 22], [22, 29]), ([22, 30], [22, 30]), ([31, 29], [31]), ([32], [32]), ([32], [32]), ([33, 34, 32, 32], [32, 33, 34]), ([32], [32]), ([32], [32]), ([36, 37, 35, 32], [32, 36, 37]), ([35, 38, 32], [32, 35, 38]), ([32, 39], [32, 39]), ([40, 38], [40]), ([41], [41]), ([41], [41]), ([43, 41, 41], [41, 43]), ([42, 44, 44, 41], [41, 42, 44]), ([45, 41], [41, 45]), ([41, 46], [41, 46])])
def laws_FnSeries.B11 : List Nat := [0, 0, 2, 7, 15, 31, 63, 63, 255, 63, 63, 2047, 4095, 8191, 16383, 32767, 65535, 131071, 65535, 524287, 1048575, 2097151, 4194303, 8388607, 8388607, 33554431, 8388607, 8388607, 268435455, 536870911, 1073741823, 2147483647, 4294967295, 8589934591, 8589934591, 34359738367, 8589934591, 8589934591, 274877906943, 549755813887, 1099511627775, 2199023255551, 4398046511103, 4398046511103, 13194139533311, 35184372088831, 70368744177663, 140737488355327]
theorem laws_FnSeries.tab11 : rtab .any (opsOf Try.f3 11) = laws_FnSeries.T11 := by kernel_rfl
theorem laws_FnSeries.bits11 : waitsOk laws_FnSeries.T11.2 laws_FnSeries.B11 = true := by kernel_rfl
def laws_FnSeries.T16 : Bool × List (List Nat × List Nat) := (true, [([], []), ([], []), ([0, 1], [0, 1]), ([2], [2]), ([], []), ([], []), ([4, 5], [4, 5]), ([3, 6], [3, 6])])
def laws_FnSeries.B16 : List Nat := [0, 0, 3, 7, 0, 0, 48, 127]
theorem laws_FnSeries.tab16 : rtab .any (opsOf Try.f3 16) = laws_FnSeries.T16 := by kernel_rfl
theorem laws_FnSeries.bits16 : waitsOk laws_FnSeries.T16.2 laws_FnSeries.B16 = true := by kernel_rfl
def laws_FnSeries.T24 : Bool × List (List Nat × List Nat) := (true, [([], []), ([], []), ([0, 1], [0, 1]), ([2], [2]), ([3], [3]), ([], []), ([5], [5]), ([6], [6]), ([7], [7]), ([7], [7]), ([8, 9, 7, 7], [7, 8, 9]), ([7, 10], [7, 10]), ([4, 11], [4, 11]), ([12, 10], [12]), ([13], [13]), ([13], [13]), ([14, 15, 13], [13, 14, 15]), ([16, 13], [13, 16]), ([17, 13], [13, 17]), ([18, 13, 13], [13, 18]), ([19], [19]), ([19], [19]), ([20, 21, 19], [19, 20, 21]), ([22, 19], [19, 22]), ([23, 19], [19, 23]), ([19, 24, 13], [13, 19, 24]), ([13, 25], [13, 25])])
def laws_FnSeries.B24 : List Nat := [0, 0, 3, 7, 15, 0, 32, 96, 224, 224, 992, 2016, 4095, 8191, 16383, 16383, 65535, 131071, 262143, 524287, 1048575, 1048575, 4194303, 8388607, 16777215, 33554431, 67108863]
theorem laws_FnSeries.tab24 : rtab .any (opsOf Try.f3 24) = laws_FnSeries.T24 := by kernel_rfl
theorem laws_FnSeries.bits24 : waitsOk laws_FnSeries.T24.2 laws_FnSeries.B24 = true := by kernel_rfl
theorem laws_FnSeries.j0_no {k : Nat} : ∀ {a0} {a1} {a3} {a4}, laws_FnSeries.j0 k a0 a1 true a3 a4 ≠ some true := by
 intros
 cases k <;> simp [laws_FnSeries.j0]
set_option maxHeartbeats 8000000 in
set_option maxRecDepth 100000 in
theorem laws_FnSeries.calls (k : Nat) (A0 : Option Addr) (c0 : Nat) (l0 : List Int) (w : World) (hr0 : Kd.C (Kd.int .u8) w A0 l0.length l0) (hc0 : l0.length ≤ c0) (h : laws_FnSeries.f k l0 = some true) :
  Calls Try.prog 3 #[.slice A0 l0.length c0] w fun e w' => e = .returned (.bool true) ∧ Below w.heap.size w w' := by
 have hu26 := Try.underlying26
 have HR0 := am hr0
 have HC0 := am hc0
 clear hr0 hc0
 have HB := am (Below.refl w.heap.size w)
 have H : ((laws_big.f l0).bind fun t741 => (if t741 = true then (some true) else ((spec_DrawNumeratorOf.f k l0).bind fun t742 => ((impl_NumeratorOf.f k t742).bind fun t746 => ((spec_DrawSeriesFrom.f k l0).bind fun bt749 => ((spec_DrawIsPalindrome.f k l0).bind fun t753 => ((spec_DrawMultiplyLists.f k l0).bind fun bt756 => ((spec_DrawEulerAt.f k l0).bind fun bt762 => ((spec_DrawEulerList.f k l0).bind fun t767 => ((impl_EulerList.f k t767).bind fun t771 => ((spec_NumeratorOf.f k t742).bind fun t774 => ((laws_sameInts.f k t746 t774).bind fun t777 => (if t777 = true then ((impl_SeriesFrom.f k bt749.1 bt749.2).bind fun t778 => ((spec_SeriesFrom.f k bt749.1 bt749.2).bind fun t781 => ((laws_sameInts.f k t778 t781).bind fun t784 => (if t784 = true then ((impl_IsPalindrome.f k t753).bind fun t785 => ((spec_IsPalindrome.f k t753).bind fun t786 => (if (t785 != t786) = true then (laws_FnSeries.j0 k t746 t771 true t742 t767) else ((impl_MultiplyLists.f k bt756.1 bt756.2).bind fun t787 => ((spec_MultiplyLists.f k bt756.1 bt756.2).bind fun t790 => ((laws_sameInts.f k t787 t790).bind fun t793 => (if t793 = true then ((impl_EulerAt.f k bt762.1 bt762.2).bind fun t794 => ((spec_EulerAt.f k bt762.1 bt762.2).bind fun t795 => (if t794 = t795 then ((spec_EulerList.f k t767).bind fun t796 => ((laws_sameInts.f k t771 t796).bind fun t799 => (laws_FnSeries.j0 k t746 t771 (!t799) t742 t767))) else (laws_FnSeries.j0 k t746 t771 true t742 t767)))) else (laws_FnSeries.j0 k t746 t771 true t742 t767)))))))) else (laws_FnSeries.j0 k t746 t771 true t742 t767))))) else (laws_FnSeries.j0 k t746 t771 true t742 t767)))))))))))))) = some true := h
 clear h
 replace H := ga H; obtain ⟨t741, A2, H⟩ := H
 by_cases c3 : t741 = true
 ·subst c3
  have H1 : (some true) = some true := rfl
  clear H
  have H := H1
  clear H1
  skip
  go_enter Try.func3, Try.ntmps3
  go_wp2_with (first | ((with_reducible refine gate_callee (f := 6) rfl ?_); refine gl (some 18) Try.func6 #[.slice A0 l0.length c0] ?_; (with_reducible refine (laws_big.calls _ _ l0 true _ ?side1 ?side2 A2.out).mono ?_); (case side1 => exact co HR0.out); (case side2 => exact HC0.out); rintro e w' ⟨rfl, ⟨nd, rfl⟩⟩; refine ⟨_, rfl, ?_⟩))
  go_ret
  exact ⟨re, bw⟩
 replace c3 := Bool.eq_false_iff.mpr c3
 subst c3
 have H1 : ((spec_DrawNumeratorOf.f k l0).bind fun t742 => ((impl_NumeratorOf.f k t742).bind fun t746 => ((spec_DrawSeriesFrom.f k l0).bind fun bt749 => ((spec_DrawIsPalindrome.f k l0).bind fun t753 => ((spec_DrawMultiplyLists.f k l0).bind fun bt756 => ((spec_DrawEulerAt.f k l0).bind fun bt762 => ((spec_DrawEulerList.f k l0).bind fun t767 => ((impl_EulerList.f k t767).bind fun t771 => ((spec_NumeratorOf.f k t742).bind fun t774 => ((laws_sameInts.f k t746 t774).bind fun t777 => (if t777 = true then ((impl_SeriesFrom.f k bt749.1 bt749.2).bind fun t778 => ((spec_SeriesFrom.f k bt749.1 bt749.2).bind fun t781 => ((laws_sameInts.f k t778 t781).bind fun t784 => (if t784 = true then ((impl_IsPalindrome.f k t753).bind fun t785 => ((spec_IsPalindrome.f k t753).bind fun t786 => (if (t785 != t786) = true then (laws_FnSeries.j0 k t746 t771 true t742 t767) else ((impl_MultiplyLists.f k bt756.1 bt756.2).bind fun t787 => ((spec_MultiplyLists.f k bt756.1 bt756.2).bind fun t790 => ((laws_sameInts.f k t787 t790).bind fun t793 => (if t793 = true then ((impl_EulerAt.f k bt762.1 bt762.2).bind fun t794 => ((spec_EulerAt.f k bt762.1 bt762.2).bind fun t795 => (if t794 = t795 then ((spec_EulerList.f k t767).bind fun t796 => ((laws_sameInts.f k t771 t796).bind fun t799 => (laws_FnSeries.j0 k t746 t771 (!t799) t742 t767))) else (laws_FnSeries.j0 k t746 t771 true t742 t767)))) else (laws_FnSeries.j0 k t746 t771 true t742 t767)))))))) else (laws_FnSeries.j0 k t746 t771 true t742 t767))))) else (laws_FnSeries.j0 k t746 t771 true t742 t767)))))))))))) = some true := by rw [if_neg (show ¬ (false = true) by decide)] at H; exact H
 clear H
 have H := H1
 clear H1
 replace H := ga H; obtain ⟨t742, A4, H⟩ := H
 replace H := ga H; obtain ⟨t746, A5, H⟩ := H
 replace H := ga H; obtain ⟨⟨t749, t750⟩, A6, H⟩ := H
 replace H : ((spec_DrawIsPalindrome.f k l0).bind fun t753 => ((spec_DrawMultiplyLists.f k l0).bind fun bt756 => ((spec_DrawEulerAt.f k l0).bind fun bt762 => ((spec_DrawEulerList.f k l0).bind fun t767 => ((impl_EulerList.f k t767).bind fun t771 => ((spec_NumeratorOf.f k t742).bind fun t774 => ((laws_sameInts.f k t746 t774).bind fun t777 => (if t777 = true then ((impl_SeriesFrom.f k t749 t750).bind fun t778 => ((spec_SeriesFrom.f k t749 t750).bind fun t781 => ((laws_sameInts.f k t778 t781).bind fun t784 => (if t784 = true then ((impl_IsPalindrome.f k t753).bind fun t785 => ((spec_IsPalindrome.f k t753).bind fun t786 => (if (t785 != t786) = true then (laws_FnSeries.j0 k t746 t771 true t742 t767) else ((impl_MultiplyLists.f k bt756.1 bt756.2).bind fun t787 => ((spec_MultiplyLists.f k bt756.1 bt756.2).bind fun t790 => ((laws_sameInts.f k t787 t790).bind fun t793 => (if t793 = true then ((impl_EulerAt.f k bt762.1 bt762.2).bind fun t794 => ((spec_EulerAt.f k bt762.1 bt762.2).bind fun t795 => (if t794 = t795 then ((spec_EulerList.f k t767).bind fun t796 => ((laws_sameInts.f k t771 t796).bind fun t799 => (laws_FnSeries.j0 k t746 t771 (!t799) t742 t767))) else (laws_FnSeries.j0 k t746 t771 true t742 t767)))) else (laws_FnSeries.j0 k t746 t771 true t742 t767)))))))) else (laws_FnSeries.j0 k t746 t771 true t742 t767))))) else (laws_FnSeries.j0 k t746 t771 true t742 t767))))))))) = some true := H
 replace H := ga H; obtain ⟨t753, A7, H⟩ := H
 replace H := ga H; obtain ⟨⟨t756, t757⟩, A8, H⟩ := H
 replace H : ((spec_DrawEulerAt.f k l0).bind fun bt762 => ((spec_DrawEulerList.f k l0).bind fun t767 => ((impl_EulerList.f k t767).bind fun t771 => ((spec_NumeratorOf.f k t742).bind fun t774 => ((laws_sameInts.f k t746 t774).bind fun t777 => (if t777 = true then ((impl_SeriesFrom.f k t749 t750).bind fun t778 => ((spec_SeriesFrom.f k t749 t750).bind fun t781 => ((laws_sameInts.f k t778 t781).bind fun t784 => (if t784 = true then ((impl_IsPalindrome.f k t753).bind fun t785 => ((spec_IsPalindrome.f k t753).bind fun t786 => (if (t785 != t786) = true then (laws_FnSeries.j0 k t746 t771 true t742 t767) else ((impl_MultiplyLists.f k t756 t757).bind fun t787 => ((spec_MultiplyLists.f k t756 t757).bind fun t790 => ((laws_sameInts.f k t787 t790).bind fun t793 => (if t793 = true then ((impl_EulerAt.f k bt762.1 bt762.2).bind fun t794 => ((spec_EulerAt.f k bt762.1 bt762.2).bind fun t795 => (if t794 = t795 then ((spec_EulerList.f k t767).bind fun t796 => ((laws_sameInts.f k t771 t796).bind fun t799 => (laws_FnSeries.j0 k t746 t771 (!t799) t742 t767))) else (laws_FnSeries.j0 k t746 t771 true t742 t767)))) else (laws_FnSeries.j0 k t746 t771 true t742 t767)))))))) else (laws_FnSeries.j0 k t746 t771 true t742 t767))))) else (laws_FnSeries.j0 k t746 t771 true t742 t767))))))) = some true := H
 replace H := ga H; obtain ⟨⟨t762, t765⟩, A9, H⟩ := H
 replace H : ((spec_DrawEulerList.f k l0).bind fun t767 => ((impl_EulerList.f k t767).bind fun t771 => ((spec_NumeratorOf.f k t742).bind fun t774 => ((laws_sameInts.f k t746 t774).bind fun t777 => (if t777 = true then ((impl_SeriesFrom.f k t749 t750).bind fun t778 => ((spec_SeriesFrom.f k t749 t750).bind fun t781 => ((laws_sameInts.f k t778 t781).bind fun t784 => (if t784 = true then ((impl_IsPalindrome.f k t753).bind fun t785 => ((spec_IsPalindrome.f k t753).bind fun t786 => (if (t785 != t786) = true then (laws_FnSeries.j0 k t746 t771 true t742 t767) else ((impl_MultiplyLists.f k t756 t757).bind fun t787 => ((spec_MultiplyLists.f k t756 t757).bind fun t790 => ((laws_sameInts.f k t787 t790).bind fun t793 => (if t793 = true then ((impl_EulerAt.f k t762 t765).bind fun t794 => ((spec_EulerAt.f k t762 t765).bind fun t795 => (if t794 = t795 then ((spec_EulerList.f k t767).bind fun t796 => ((laws_sameInts.f k t771 t796).bind fun t799 => (laws_FnSeries.j0 k t746 t771 (!t799) t742 t767))) else (laws_FnSeries.j0 k t746 t771 true t742 t767)))) else (laws_FnSeries.j0 k t746 t771 true t742 t767)))))))) else (laws_FnSeries.j0 k t746 t771 true t742 t767))))) else (laws_FnSeries.j0 k t746 t771 true t742 t767)))))) = some true := H
 replace H := ga H; obtain ⟨t767, A10, H⟩ := H
 replace H := ga H; obtain ⟨t771, A11, H⟩ := H
 have HC12 := am H
 clear H
 go_enter Try.func3, Try.ntmps3
 go_upto_region 11 with (first | ((with_reducible refine gate_callee (f := 6) rfl ?_); refine gl (some 18) Try.func6 #[.slice A0 l0.length c0] ?_; (with_reducible refine (laws_big.calls _ _ l0 false _ ?side1 ?side2 A2.out).mono ?_); (case side1 => exact co HR0.out); (case side2 => exact HC0.out); rintro e w' ⟨rfl, ⟨nd, rfl⟩⟩; refine ⟨_, rfl, ?_⟩) | ((with_reducible refine gate_callee (f := 7) rfl ?_); refine gl (some 20) Try.func7 #[.slice A0 l0.length c0] ?_; (with_reducible refine (spec_DrawNumeratorOf.calls k _ _ l0 t742 _ ?side1 ?side2 A4.out).mono ?_); (case side1 => exact co HR0.out); (case side2 => exact HC0.out); rintro e w13 ⟨v743, rfl, ho0, hb⟩; refine ⟨_, rfl, ?_⟩; have HO744 := am (Kd.Q_lower ho0 (below_size bw)); replace HB := am (below_step bw hb); clear hb ho0) | ((with_reducible refine gate_dst (N := 3) rfl ?_); refine bx 3 #[.slice none 0 0] 26 ?_; intro gb745 hg w14 hbox hb; replace HO744 := qK HO744 hb; have BK745 := am (hbox); have GW745 := am (gs hg : w.heap.size ≤ gb745); have GE745 := GW745; replace HB := am (below_step bw hb); clear hb hbox hg; obtain ⟨Ao15, co15, eo15, _⟩ := Kd.Q_slice HO744.out; subst eo15; have hcz16_0 := bc BK745 0 (.slice none 0 0); have hfz16_0 := blk_frozen BK745.out 0) | ((with_reducible refine gate_callee (f := 8) rfl ?_); refine gl (some 22) Try.func8 #[.agg #[.slice Ao15 t742.length co15]] ?_; (with_reducible refine (impl_NumeratorOf.calls k _ _ t742 t746 _ ?side1 ?side2 A5.out).mono ?_); (case side1 => refine (Kd.Q_reads' (e := 3) (base := w.heap.size) (ok := fun k_ => True) (n := t742.length) (c := co15) ?_).2.2; exact (qF HO744 BK745 (.slice Ao15 t742.length co15))); (case side2 => exact (Kd.Q_reads' HO744.out).2.1); rintro e w17 ⟨v747, rfl, ho0, hb⟩; refine ⟨_, rfl, ?_⟩; have HO748 := am (Kd.R_lower (Kd.R_new' ho0 (Kd.Q_lt (qF HO744 BK745 (.slice Ao15 t742.length co15)))) (below_size bw)); replace HO744 := am (Kd.Q_elder' (qF HO744 BK745 (.slice Ao15 t742.length co15)) (Kd.R_base ho0) hb); replace BK745 := am (blk_below (g := gb745) (o := .cells #[.slice Ao15 t742.length co15] 26 (0, 0)) (by (with_reducible repeat (first | refine blk_drewN ?_ _ | refine blk_drew ?_ | refine blk_alloc ?_ _)); refine blk_put (cs := #[.slice none 0 0]) ?_ 0 _ rfl; (with_reducible repeat (first | refine blk_drewN ?_ _ | refine blk_drew ?_ | refine blk_alloc ?_ _)); exact BK745.out) hb); replace HB := am (below_step bw hb); clear hb ho0) | ((with_reducible refine gate_callee (f := 9) rfl ?_); refine gl (some 25) Try.func9 #[.slice A0 l0.length c0] ?_; (with_reducible refine (spec_DrawSeriesFrom.calls k _ _ l0 t749 t750 _ ?side1 ?side2 A6.out).mono ?_); (case side1 => exact co (Kd.C_below HR0.out HB.out)); (case side2 => exact HC0.out); rintro e w18 ⟨v751, rfl, ho0, hb⟩; refine ⟨_, rfl, ?_⟩; have HO752 := am (Kd.R_lower (Kd.R_new' (Kd.R_new' ho0 (Kd.Q_lt (qo HO744.out))) (Kd.R_lt (ro HO748.out))) (below_size bw)); replace HO744 := am (Kd.Q_elder' (qo HO744.out) (Kd.R_base ho0) hb); replace HO748 := am (Kd.R_elder' (ro HO748.out) (Kd.R_base ho0) hb); replace BK745 := kb BK745 hb; replace HB := am (below_step bw hb); clear hb ho0) | ((with_reducible refine gate_callee (f := 10) rfl ?_); refine gl (some 29) Try.func10 #[.slice A0 l0.length c0] ?_; (with_reducible refine (spec_DrawIsPalindrome.calls k _ _ l0 t753 _ ?side1 ?side2 A7.out).mono ?_); (case side1 => exact co (Kd.C_below HR0.out HB.out)); (case side2 => exact HC0.out); rintro e w19 ⟨v754, rfl, ho0, hb⟩; refine ⟨_, rfl, ?_⟩; have HO755 := am (Kd.R_lower (Kd.R_new' (Kd.R_new' (Kd.R_new' ho0 (Kd.Q_lt (qo HO744.out))) (Kd.R_lt (ro HO748.out))) (Kd.R_lt (ro HO752.out))) (below_size bw)); replace HO744 := am (Kd.Q_elder' (qo HO744.out) (Kd.R_base ho0) hb); replace HO748 := am (Kd.R_elder' (ro HO748.out) (Kd.R_base ho0) hb); replace HO752 := am (Kd.R_elder' (ro HO752.out) (Kd.R_base ho0) hb); replace BK745 := kb BK745 hb; replace HB := am (below_step bw hb); clear hb ho0) | ((with_reducible refine gate_callee (f := 11) rfl ?_); refine gl (some 32) Try.func11 #[.slice A0 l0.length c0] ?_; (with_reducible refine (spec_DrawMultiplyLists.calls k _ _ l0 t756 t757 _ ?side1 ?side2 A8.out).mono ?_); (case side1 => exact co (Kd.C_below HR0.out HB.out)); (case side2 => exact HC0.out); rintro e w20 ⟨v758, v760, rfl, ho0, ho1, hb⟩; refine ⟨_, rfl, ?_⟩; have HO759 := am (Kd.R_lower (Kd.R_new' (Kd.R_new' (Kd.R_new' (Kd.R_new' ho0 (Kd.Q_lt (qo HO744.out))) (Kd.R_lt (ro HO748.out))) (Kd.R_lt (ro HO752.out))) (Kd.R_lt (ro HO755.out))) (below_size bw)); have HO761 := am (Kd.R_lower (Kd.R_new' (Kd.R_new' (Kd.R_new' (Kd.R_new' ho1 (Kd.Q_lt (qo HO744.out))) (Kd.R_lt (ro HO748.out))) (Kd.R_lt (ro HO752.out))) (Kd.R_lt (ro HO755.out))) (below_size bw)); replace HO744 := am (Kd.Q_mono (Kd.Q_told (Kd.Q_told (Kd.Q_old (qo HO744.out) hb) (Kd.R_base ho0)) (Kd.R_base ho1)) (fun _ h_ => h_.1)); replace HO748 := am (Kd.R_mono (Kd.R_told (Kd.R_told (Kd.R_old (ro HO748.out) hb) (Kd.R_base ho0)) (Kd.R_base ho1)) (fun _ h_ => h_.1)); replace HO752 := am (Kd.R_mono (Kd.R_told (Kd.R_told (Kd.R_old (ro HO752.out) hb) (Kd.R_base ho0)) (Kd.R_base ho1)) (fun _ h_ => h_.1)); replace HO755 := am (Kd.R_mono (Kd.R_told (Kd.R_told (Kd.R_old (ro HO755.out) hb) (Kd.R_base ho0)) (Kd.R_base ho1)) (fun _ h_ => h_.1)); replace BK745 := kb BK745 hb; replace HB := am (below_step bw hb); clear hb ho0 ho1) | ((with_reducible refine gate_callee (f := 12) rfl ?_); refine gl (some 37) Try.func12 #[.slice A0 l0.length c0] ?_; (with_reducible refine (spec_DrawEulerAt.calls k _ _ l0 t762 t765 _ ?side1 ?side2 A9.out).mono ?_); (case side1 => exact co (Kd.C_below HR0.out HB.out)); (case side2 => exact HC0.out); rintro e w21 ⟨v763, rfl, ho0, hb⟩; refine ⟨_, rfl, ?_⟩; have HO764 := am (Kd.Q_lower (Kd.Q_new' (Kd.Q_new' (Kd.Q_new' (Kd.Q_new' (Kd.Q_new' (Kd.Q_new' ho0 (Kd.Q_lt (qo HO744.out))) (Kd.R_lt (ro HO748.out))) (Kd.R_lt (ro HO752.out))) (Kd.R_lt (ro HO755.out))) (Kd.R_lt (ro HO759.out))) (Kd.R_lt (ro HO761.out))) (below_size bw)); replace HO744 := am (Kd.Q_elder' (qo HO744.out) (Kd.Q_base ho0) hb); replace HO748 := am (Kd.R_elder' (ro HO748.out) (Kd.Q_base ho0) hb); replace HO752 := am (Kd.R_elder' (ro HO752.out) (Kd.Q_base ho0) hb); replace HO755 := am (Kd.R_elder' (ro HO755.out) (Kd.Q_base ho0) hb); replace HO759 := am (Kd.R_elder' (ro HO759.out) (Kd.Q_base ho0) hb); replace HO761 := am (Kd.R_elder' (ro HO761.out) (Kd.Q_base ho0) hb); replace BK745 := kb BK745 hb; replace HB := am (below_step bw hb); clear hb ho0) | ((with_reducible refine gate_dst (N := 10) rfl ?_); refine bx 10 #[.slice none 0 0] 26 ?_; intro gb766 hg w22 hbox hb; replace HO744 := qK HO744 hb; replace HO748 := rK HO748 hb; replace HO752 := rK HO752 hb; replace HO755 := rK HO755 hb; replace HO759 := rK HO759 hb; replace HO761 := rK HO761 hb; replace HO764 := qK HO764 hb; have BK766 := am (hbox); have GW766 := am (gs hg : w.heap.size ≤ gb766); have GE766 := GW766; replace HB := am (below_step bw hb); have NB745_766 := nl hg BK745; have NB766_745 := ns NB745_766; replace BK745 := kb BK745 hb; clear hb hbox hg; obtain ⟨Ao23, co23, eo23, _⟩ := Kd.Q_slice HO764.out; subst eo23; have hnb24 := NB766_745.out; have hnc24 := NB745_766.out; have hcz25_0 := bc BK766 0 (.slice none 0 0); have hfz25_0 := blk_frozen BK766.out 0) | ((with_reducible refine gate_callee (f := 13) rfl ?_); refine gl (some 41) Try.func13 #[.slice A0 l0.length c0] ?_; (with_reducible refine (spec_DrawEulerList.calls k _ _ l0 t767 _ ?side1 ?side2 A10.out).mono ?_); (case side1 => exact Kd.C_below HR0.out bw); (case side2 => exact HC0.out); rintro e w26 ⟨v768, rfl, ho0, hb⟩; refine ⟨_, rfl, ?_⟩; have HO769 := am (Kd.Q_lower (Kd.Q_new' (Kd.Q_new' (Kd.Q_new' (Kd.Q_new' (Kd.Q_new' (Kd.Q_new' (Kd.Q_new' ho0 (Kd.Q_lt (qF HO744 BK766 (.slice Ao23 t762.length co23)))) (Kd.R_lt (rF HO748 BK766 (.slice Ao23 t762.length co23)))) (Kd.R_lt (rF HO752 BK766 (.slice Ao23 t762.length co23)))) (Kd.R_lt (rF HO755 BK766 (.slice Ao23 t762.length co23)))) (Kd.R_lt (rF HO759 BK766 (.slice Ao23 t762.length co23)))) (Kd.R_lt (rF HO761 BK766 (.slice Ao23 t762.length co23)))) (Kd.Q_lt (qF HO764 BK766 (.slice Ao23 t762.length co23)))) (below_size bw)); replace HO744 := am (Kd.Q_elder' (qF HO744 BK766 (.slice Ao23 t762.length co23)) (Kd.Q_base ho0) hb); replace HO748 := am (Kd.R_elder' (rF HO748 BK766 (.slice Ao23 t762.length co23)) (Kd.Q_base ho0) hb); replace HO752 := am (Kd.R_elder' (rF HO752 BK766 (.slice Ao23 t762.length co23)) (Kd.Q_base ho0) hb); replace HO755 := am (Kd.R_elder' (rF HO755 BK766 (.slice Ao23 t762.length co23)) (Kd.Q_base ho0) hb); replace HO759 := am (Kd.R_elder' (rF HO759 BK766 (.slice Ao23 t762.length co23)) (Kd.Q_base ho0) hb); replace HO761 := am (Kd.R_elder' (rF HO761 BK766 (.slice Ao23 t762.length co23)) (Kd.Q_base ho0) hb); replace HO764 := am (Kd.Q_elder' (qF HO764 BK766 (.slice Ao23 t762.length co23)) (Kd.Q_base ho0) hb); replace BK745 := kb BK745 hb; replace BK766 := am (blk_below (g := gb766) (o := .cells #[.slice Ao23 t762.length co23] 26 (0, 0)) (by (with_reducible repeat (first | refine blk_drewN ?_ _ | refine blk_drew ?_ | refine blk_alloc ?_ _)); refine blk_put (cs := #[.slice none 0 0]) ?_ 0 _ rfl; (with_reducible repeat (first | refine blk_drewN ?_ _ | refine blk_drew ?_ | refine blk_alloc ?_ _)); exact BK766.out) hb); replace HB := am (below_step bw hb); clear hb ho0) | ((with_reducible refine gate_dst (N := 12) rfl ?_); refine bx 12 #[.slice none 0 0] 26 ?_; intro gb770 hg w27 hbox hb; replace HO744 := qK HO744 hb; replace HO748 := rK HO748 hb; replace HO752 := rK HO752 hb; replace HO755 := rK HO755 hb; replace HO759 := rK HO759 hb; replace HO761 := rK HO761 hb; replace HO764 := qK HO764 hb; replace HO769 := qK HO769 hb; have BK770 := am (hbox); have GW770 := am (gs hg : w.heap.size ≤ gb770); have GE770 := GW770; replace HB := am (below_step bw hb); have NB745_770 := nl hg BK745; have NB770_745 := ns NB745_770; replace BK745 := kb BK745 hb; have NB766_770 := nl hg BK766; have NB770_766 := ns NB766_770; replace BK766 := kb BK766 hb; clear hb hbox hg; obtain ⟨Ao28, co28, eo28, _⟩ := Kd.Q_slice HO769.out; subst eo28; have hnb29 := NB770_745.out; have hnc29 := NB745_770.out; have hnb30 := NB770_766.out; have hnc30 := NB766_770.out; have hcz31_0 := bc BK770 0 (.slice none 0 0); have hfz31_0 := blk_frozen BK770.out 0) | ((with_reducible refine gate_callee (f := 14) rfl ?_); refine gl (some 43) Try.func14 #[.agg #[.slice Ao28 t767.length co28]] ?_; (with_reducible refine (impl_EulerList.calls k _ _ t767 t771 _ ?side1 ?side2 A11.out).mono ?_); (case side1 => refine (Kd.Q_reads' (e := 3) (base := w.heap.size) (ok := fun k_ => (((((((True ∧ nb k_ Ao15 t742 co15) ∧ some k_ ≠ (v747 : Value).ownBlock) ∧ some k_ ≠ (v751 : Value).ownBlock) ∧ some k_ ≠ (v754 : Value).ownBlock) ∧ some k_ ≠ (v758 : Value).ownBlock) ∧ some k_ ≠ (v760 : Value).ownBlock) ∧ nb k_ Ao23 t762 co23)) (n := t767.length) (c := co28) ?_).2.2; exact (qF HO769 BK770 (.slice Ao28 t767.length co28))); (case side2 => exact (Kd.Q_reads' HO769.out).2.1); rintro e w32 ⟨v772, rfl, ho0, hb⟩; refine ⟨_, rfl, ?_⟩; have HO773 := am (Kd.Z_lower (Kd.Z_new' (Kd.Z_new' (Kd.Z_new' (Kd.Z_new' (Kd.Z_new' (Kd.Z_new' (Kd.Z_new' (Kd.Z_new' ho0 (Kd.Q_lt (qF HO744 BK770 (.slice Ao28 t767.length co28)))) (Kd.R_lt (rF HO748 BK770 (.slice Ao28 t767.length co28)))) (Kd.R_lt (rF HO752 BK770 (.slice Ao28 t767.length co28)))) (Kd.R_lt (rF HO755 BK770 (.slice Ao28 t767.length co28)))) (Kd.R_lt (rF HO759 BK770 (.slice Ao28 t767.length co28)))) (Kd.R_lt (rF HO761 BK770 (.slice Ao28 t767.length co28)))) (Kd.Q_lt (qF HO764 BK770 (.slice Ao28 t767.length co28)))) (Kd.Q_lt (qF HO769 BK770 (.slice Ao28 t767.length co28)))) (below_size bw)); replace HO744 := am (Kd.Q_elder' (qF HO744 BK770 (.slice Ao28 t767.length co28)) (Kd.Z_base ho0) hb); replace HO748 := am (Kd.R_elder' (rF HO748 BK770 (.slice Ao28 t767.length co28)) (Kd.Z_base ho0) hb); replace HO752 := am (Kd.R_elder' (rF HO752 BK770 (.slice Ao28 t767.length co28)) (Kd.Z_base ho0) hb); replace HO755 := am (Kd.R_elder' (rF HO755 BK770 (.slice Ao28 t767.length co28)) (Kd.Z_base ho0) hb); replace HO759 := am (Kd.R_elder' (rF HO759 BK770 (.slice Ao28 t767.length co28)) (Kd.Z_base ho0) hb); replace HO761 := am (Kd.R_elder' (rF HO761 BK770 (.slice Ao28 t767.length co28)) (Kd.Z_base ho0) hb); replace HO764 := am (Kd.Q_elder' (qF HO764 BK770 (.slice Ao28 t767.length co28)) (Kd.Z_base ho0) hb); replace HO769 := am (Kd.Q_elder' (qF HO769 BK770 (.slice Ao28 t767.length co28)) (Kd.Z_base ho0) hb); replace BK745 := kb BK745 hb; replace BK766 := kb BK766 hb; replace BK770 := am (blk_below (g := gb770) (o := .cells #[.slice Ao28 t767.length co28] 26 (0, 0)) (by (with_reducible repeat (first | refine blk_drewN ?_ _ | refine blk_drew ?_ | refine blk_alloc ?_ _)); refine blk_put (cs := #[.slice none 0 0]) ?_ 0 _ rfl; (with_reducible repeat (first | refine blk_drewN ?_ _ | refine blk_drew ?_ | refine blk_alloc ?_ _)); exact BK770.out) hb); replace HB := am (below_step bw hb); clear hb ho0))
 (try simp only [Act.put, List.setIfInBounds_toArray, List.set_cons_zero, List.set_cons_succ])
 go_cut [91] (fun v91 wc => ∃ (kq : Nat) (x91_11 : Bool), v91 = .bool x91_11 ∧ Aside0 (laws_FnSeries.j0 kq t746 t771 x91_11 t742 t767 = some true) ∧ Aside0 (kq ≤ k) ∧ Aside0 (Kd.R (Kd.int .i64) 3 wc w.heap.size (fun k_ => some k_ ≠ (v772 : Value).ownBlock ∧ nb k_ Ao15 t742 co15 ∧ nb k_ Ao23 t762 co23 ∧ nb k_ Ao28 t767 co28) v747 t746) ∧ Aside0 (Kd.Z (Kd.int .i64) 3 wc w.heap.size (fun k_ => some k_ ≠ (v747 : Value).ownBlock ∧ nb k_ Ao15 t742 co15 ∧ nb k_ Ao23 t762 co23 ∧ nb k_ Ao28 t767 co28) v772 t771) ∧ Aside0 (Kd.Q (Kd.int .i64) 3 wc w.heap.size (fun k_ => some k_ ≠ (v747 : Value).ownBlock ∧ some k_ ≠ (v772 : Value).ownBlock ∧ nb k_ Ao23 t762 co23 ∧ nb k_ Ao28 t767 co28) (.slice Ao15 t742.length co15) t742) ∧ Aside0 (Kd.Q (Kd.int .i64) 3 wc w.heap.size (fun k_ => some k_ ≠ (v747 : Value).ownBlock ∧ some k_ ≠ (v772 : Value).ownBlock ∧ nb k_ Ao15 t742 co15 ∧ nb k_ Ao28 t767 co28) (.slice Ao23 t762.length co23) t762) ∧ Aside0 (Kd.Q (Kd.int .i64) 3 wc w.heap.size (fun k_ => some k_ ≠ (v747 : Value).ownBlock ∧ some k_ ≠ (v772 : Value).ownBlock ∧ nb k_ Ao15 t742 co15 ∧ nb k_ Ao23 t762 co23) (.slice Ao28 t767.length co28) t767) ∧ Aside0 (wc.heap[gb745]? = some (.cells #[(.slice Ao15 t742.length co15)] 26 (0, 0))) ∧ Aside0 (wc.heap[gb766]? = some (.cells #[(.slice Ao23 t762.length co23)] 26 (0, 0))) ∧ Aside0 (wc.heap[gb770]? = some (.cells #[(.slice Ao28 t767.length co28)] 26 (0, 0))) ∧ Aside0 (Below w.heap.size w wc))
 case first =>
  have H := HC12.out
  clear HC12
  replace H := ga H; obtain ⟨t774, A33, H⟩ := H
  replace H := ga H; obtain ⟨t777, A34, H⟩ := H
  by_cases c35 : t777 = true
  ·subst c35
   have H1 : ((impl_SeriesFrom.f k t749 t750).bind fun t778 => ((spec_SeriesFrom.f k t749 t750).bind fun t781 => ((laws_sameInts.f k t778 t781).bind fun t784 => (if t784 = true then ((impl_IsPalindrome.f k t753).bind fun t785 => ((spec_IsPalindrome.f k t753).bind fun t786 => (if (t785 != t786) = true then (laws_FnSeries.j0 k t746 t771 true t742 t767) else ((impl_MultiplyLists.f k t756 t757).bind fun t787 => ((spec_MultiplyLists.f k t756 t757).bind fun t790 => ((laws_sameInts.f k t787 t790).bind fun t793 => (if t793 = true then ((impl_EulerAt.f k t762 t765).bind fun t794 => ((spec_EulerAt.f k t762 t765).bind fun t795 => (if t794 = t795 then ((spec_EulerList.f k t767).bind fun t796 => ((laws_sameInts.f k t771 t796).bind fun t799 => (laws_FnSeries.j0 k t746 t771 (!t799) t742 t767))) else (laws_FnSeries.j0 k t746 t771 true t742 t767)))) else (laws_FnSeries.j0 k t746 t771 true t742 t767)))))))) else (laws_FnSeries.j0 k t746 t771 true t742 t767))))) = some true := by rw [if_pos rfl] at H; exact H
   clear H
   have H := H1
   clear H1
   replace H := ga H; obtain ⟨t778, A36, H⟩ := H
   replace H := ga H; obtain ⟨t781, A37, H⟩ := H
   replace H := ga H; obtain ⟨t784, A38, H⟩ := H
   by_cases c39 : t784 = true
   ·subst c39
    have H1 : ((impl_IsPalindrome.f k t753).bind fun t785 => ((spec_IsPalindrome.f k t753).bind fun t786 => (if (t785 != t786) = true then (laws_FnSeries.j0 k t746 t771 true t742 t767) else ((impl_MultiplyLists.f k t756 t757).bind fun t787 => ((spec_MultiplyLists.f k t756 t757).bind fun t790 => ((laws_sameInts.f k t787 t790).bind fun t793 => (if t793 = true then ((impl_EulerAt.f k t762 t765).bind fun t794 => ((spec_EulerAt.f k t762 t765).bind fun t795 => (if t794 = t795 then ((spec_EulerList.f k t767).bind fun t796 => ((laws_sameInts.f k t771 t796).bind fun t799 => (laws_FnSeries.j0 k t746 t771 (!t799) t742 t767))) else (laws_FnSeries.j0 k t746 t771 true t742 t767)))) else (laws_FnSeries.j0 k t746 t771 true t742 t767)))))))) = some true := by rw [if_pos rfl] at H; exact H
    clear H
    have H := H1
    clear H1
    replace H := ga H; obtain ⟨t785, A40, H⟩ := H
    replace H := ga H; obtain ⟨t786, A41, H⟩ := H
    by_cases c42 : (t785 != t786) = true
    ·rw [if_pos c42] at H
     exact absurd H (laws_FnSeries.j0_no)
    rw [if_neg c42] at H
    have c42b0 : (t785 != t786) = false := by simpa using c42
    (try (have c42b1 : decide (t785 = t786) = true := by simpa using c42))
    (try (have c42b2 : (t785 == t786) = true := by simpa using c42))
    clear c42
    (first | rw [c42b0] | (simp only [i64_w, i32_w]; rw [c42b0]) | skip)
    replace H := ga H; obtain ⟨t787, A53, H⟩ := H
    replace H := ga H; obtain ⟨t790, A54, H⟩ := H
    replace H := ga H; obtain ⟨t793, A55, H⟩ := H
    by_cases c56 : t793 = true
    ·subst c56
     have H1 : ((impl_EulerAt.f k t762 t765).bind fun t794 => ((spec_EulerAt.f k t762 t765).bind fun t795 => (if t794 = t795 then ((spec_EulerList.f k t767).bind fun t796 => ((laws_sameInts.f k t771 t796).bind fun t799 => (laws_FnSeries.j0 k t746 t771 (!t799) t742 t767))) else (laws_FnSeries.j0 k t746 t771 true t742 t767)))) = some true := by rw [if_pos rfl] at H; exact H
     clear H
     have H := H1
     clear H1
     replace H := ga H; obtain ⟨t794, A57, H⟩ := H
     replace H := ga H; obtain ⟨t795, A58, H⟩ := H
     by_cases c59 : t794 = t795
     ·rw [if_pos c59] at H
      have c59b0 : (t794 == t795) = true := beq_iff_eq.mpr c59
      have c59b1 : (t794 != t795) = false := bne_eq_false_iff_eq.mpr c59
      clear c59
      replace H := ga H; obtain ⟨t796, A60, H⟩ := H
      replace H := ga H; obtain ⟨t799, A61, H⟩ := H
      have H' := am H
      clear H
      try go_wp2
      replace HO744 := am (Kd.Q_drew HO744.out)
      replace HO748 := am (Kd.R_drew HO748.out)
      replace HO752 := am (Kd.R_drew HO752.out)
      replace HO755 := am (Kd.R_drew HO755.out)
      replace HO759 := am (Kd.R_drew HO759.out)
      replace HO761 := am (Kd.R_drew HO761.out)
      replace HO764 := am (Kd.Q_drew HO764.out)
      replace HO769 := am (Kd.Q_drew HO769.out)
      replace HO773 := am (Kd.Z_drew HO773.out)
      replace BK745 := bd BK745
      replace BK766 := bd BK766
      replace BK770 := bd BK770
      replace HB := am (below_drew1 HB.out)
      refine start_ (n := 48) (S := fun w' => w'.cell? ⟨gb745, 0, none⟩ = some (.slice Ao15 t742.length co15) ∧ w'.cell? ⟨gb766, 0, none⟩ = some (.slice Ao23 t762.length co23) ∧ w'.cell? ⟨gb770, 0, none⟩ = some (.slice Ao28 t767.length co28)) (ds := []) (yz 48 0) (by kernel_rfl) rfl rfl ⟨bc BK745 0 _, bc BK766 0 _, bc BK770 0 _⟩ (fun hHeld => ?_); refine with_tabW laws_FnSeries.tab11 laws_FnSeries.bits11 (fun HT_ HW_ => ?_)
      generalize w32.drew = w62 at HO744 HO748 HO752 HO755 HO759 HO761 HO764 HO769 HO773 BK745 BK766 BK770 HB hHeld ⊢
      refine pa 0 (some 44) (yz 48 1) HT_ ?_
      refine tk 1 (some 45) (yz 48 3) HT_ HW_ hHeld ?_
      refine oa 2 (some 46) (yz 48 7) HT_ (fun K hK => ?_)
      refine gm Try.func16 #[.agg #[.slice Ao15 t742.length co15]] ?_
      with_reducible refine (spec_NumeratorOf.calls k _ _ t742 t774 _ ?side1 ?side2 A33.out).mono ?_
      (case side1 => exact co (Kd.Q_reads' HO744.out).2.2)
      (case side2 => exact (Kd.Q_reads' HO744.out).2.1)
      rintro e w63 ⟨v775, rfl, ho0, hb⟩
      refine ⟨_, rfl, ?_⟩
      have HO776 := am (Kd.R_lower (Kd.R_new' (Kd.R_new' (Kd.R_new' (Kd.R_new' (Kd.R_new' (Kd.R_new' (Kd.R_new' (Kd.R_new' (Kd.R_new' ho0 (Kd.Q_lt (qo HO744.out))) (Kd.R_lt (ro HO748.out))) (Kd.R_lt (ro HO752.out))) (Kd.R_lt (ro HO755.out))) (Kd.R_lt (ro HO759.out))) (Kd.R_lt (ro HO761.out))) (Kd.Q_lt (qo HO764.out))) (Kd.Q_lt (qo HO769.out))) (Kd.Z_lt (by (with_reducible repeat (first | apply Kd.Z_alloc | apply Kd.Z_drewN | apply Kd.Z_drew)); exact HO773.out))) (below_size bw))
      replace HO744 := am (Kd.Q_elder' (qo HO744.out) (Kd.R_base ho0) hb)
      replace HO748 := am (Kd.R_elder' (ro HO748.out) (Kd.R_base ho0) hb)
      replace HO752 := am (Kd.R_elder' (ro HO752.out) (Kd.R_base ho0) hb)
      replace HO755 := am (Kd.R_elder' (ro HO755.out) (Kd.R_base ho0) hb)
      replace HO759 := am (Kd.R_elder' (ro HO759.out) (Kd.R_base ho0) hb)
      replace HO761 := am (Kd.R_elder' (ro HO761.out) (Kd.R_base ho0) hb)
      replace HO764 := am (Kd.Q_elder' (qo HO764.out) (Kd.R_base ho0) hb)
      replace HO769 := am (Kd.Q_elder' (qo HO769.out) (Kd.R_base ho0) hb)
      replace HO773 := am (Kd.Z_elder' (by (with_reducible repeat (first | apply Kd.Z_alloc | apply Kd.Z_drewN | apply Kd.Z_drew)); exact HO773.out) (Kd.R_base ho0) hb)
      replace BK745 := kb BK745 hb
      replace BK766 := kb BK766 hb
      replace BK770 := kb BK770 hb
      replace HB := am (below_step bw hb)
      clear hb ho0
      obtain ⟨Ao64, co64, eo64⟩ := Kd.R_slice HO748.out
      (first | subst eo64 | (injection eo64 with f1_ f2_ f3_; have f4_ := f1_.symm; have f5_ := f3_.symm; clear f1_ f2_ f3_; subst f4_; subst f5_))
      obtain ⟨Ao65, co65, eo65⟩ := Kd.R_slice HO776.out
      (first | subst eo65 | (injection eo65 with f1_ f2_ f3_; have f4_ := f1_.symm; have f5_ := f3_.symm; clear f1_ f2_ f3_; subst f4_; subst f5_))
      refine hK.out _ _ ⟨bc BK745 0 _, bc BK766 0 _, bc BK770 0 _⟩ (fun hHeld => ?_)
      clear hK K
      refine nm (some 46) ?_
      refine oa 3 (some 47) (yz 48 15) HT_ (fun K hK => ?_)
      refine gm Try.func15 #[.slice Ao64 t746.length co64, .slice Ao65 t774.length co65] ?_
      with_reducible refine (laws_sameInts.calls k _ _ t746 _ _ t774 true _ ?side1 ?side2 ?side3 ?side4 A34.out).mono ?_
      (case side1 => exact co (Kd.R_reads' HO748.out).2.2)
      (case side2 => exact (Kd.R_reads' HO748.out).2.1)
      (case side3 => exact co (Kd.R_reads' HO776.out).2.2)
      (case side4 => exact (Kd.R_reads' HO776.out).2.1)
      rintro e w' ⟨rfl, ⟨nd, rfl⟩⟩
      refine ⟨_, rfl, ?_⟩
      obtain ⟨Ao66, co66, eo66⟩ := Kd.R_slice HO752.out
      (first | subst eo66 | (injection eo66 with f1_ f2_ f3_; have f4_ := f1_.symm; have f5_ := f3_.symm; clear f1_ f2_ f3_; subst f4_; subst f5_))
      refine hK.out _ _ ⟨bc BK745 0 _, bc BK766 0 _, bc BK770 0 _⟩ (fun hHeld => ?_)
      clear hK K
      refine nm (some 47) ?_
      refine pa 4 (some 48) (yz 48 31) HT_ ?_
      refine pa 5 (some 49) (yz 48 63) HT_ ?_
      refine pa 6 (some 50) (yz 48 127) HT_ ?_
      refine pa 7 (some 51) (yz 48 255) HT_ ?_
      refine pa 9 (some 53) (yz 48 767) HT_ ?_
      refine pa 10 (some 54) (yz 48 1791) HT_ ?_
      refine oa 8 (some 52) (yz 48 2047) HT_ (fun K hK => ?_)
      refine gm Try.func17 #[.slice Ao66 t749.length co66, .int .i64 t750] ?_
      with_reducible refine (impl_SeriesFrom.calls k _ _ t749 t750 t778 _ ?side1 ?side2 A36.out).mono ?_
      (case side1 => exact co (Kd.R_reads' HO752.out).2.2)
      (case side2 => exact (Kd.R_reads' HO752.out).2.1)
      rintro e w67 ⟨v779, rfl, ho0, hb⟩
      refine ⟨_, rfl, ?_⟩
      have HO780 := am (Kd.R_lower (Kd.R_new' (Kd.R_new' (Kd.R_new' (Kd.R_new' (Kd.R_new' (Kd.R_new' (Kd.R_new' (Kd.R_new' (Kd.R_new' (Kd.R_new' ho0 (Kd.Q_lt (qo HO744.out))) (Kd.R_lt (ro HO748.out))) (Kd.R_lt (ro HO752.out))) (Kd.R_lt (ro HO755.out))) (Kd.R_lt (ro HO759.out))) (Kd.R_lt (ro HO761.out))) (Kd.Q_lt (qo HO764.out))) (Kd.Q_lt (qo HO769.out))) (Kd.Z_lt (by (with_reducible repeat (first | apply Kd.Z_alloc | apply Kd.Z_drewN | apply Kd.Z_drew)); exact HO773.out))) (Kd.R_lt (ro HO776.out))) (below_size bw))
      replace HO744 := am (Kd.Q_elder' (qo HO744.out) (Kd.R_base ho0) hb)
      replace HO748 := am (Kd.R_elder' (ro HO748.out) (Kd.R_base ho0) hb)
      replace HO752 := am (Kd.R_elder' (ro HO752.out) (Kd.R_base ho0) hb)
      replace HO755 := am (Kd.R_elder' (ro HO755.out) (Kd.R_base ho0) hb)
      replace HO759 := am (Kd.R_elder' (ro HO759.out) (Kd.R_base ho0) hb)
      replace HO761 := am (Kd.R_elder' (ro HO761.out) (Kd.R_base ho0) hb)
      replace HO764 := am (Kd.Q_elder' (qo HO764.out) (Kd.R_base ho0) hb)
      replace HO769 := am (Kd.Q_elder' (qo HO769.out) (Kd.R_base ho0) hb)
      replace HO773 := am (Kd.Z_elder' (by (with_reducible repeat (first | apply Kd.Z_alloc | apply Kd.Z_drewN | apply Kd.Z_drew)); exact HO773.out) (Kd.R_base ho0) hb)
      replace HO776 := am (Kd.R_elder' (ro HO776.out) (Kd.R_base ho0) hb)
      replace BK745 := kb BK745 hb
      replace BK766 := kb BK766 hb
      replace BK770 := kb BK770 hb
      replace HB := am (below_step bw hb)
      clear hb ho0
      refine hK.out _ _ ⟨bc BK745 0 _, bc BK766 0 _, bc BK770 0 _⟩ (fun hHeld => ?_)
      clear hK K
      refine nm (some 52) ?_
      refine oa 11 (some 55) (yz 48 4095) HT_ (fun K hK => ?_)
      refine gm Try.func18 #[.slice Ao66 t749.length co66, .int .i64 t750] ?_
      with_reducible refine (spec_SeriesFrom.calls k _ _ t749 t750 t781 _ ?side1 ?side2 A37.out).mono ?_
      (case side1 => exact co (Kd.R_reads' HO752.out).2.2)
      (case side2 => exact (Kd.R_reads' HO752.out).2.1)
      rintro e w68 ⟨v782, rfl, ho0, hb⟩
      refine ⟨_, rfl, ?_⟩
      have HO783 := am (Kd.R_lower (Kd.R_new' (Kd.R_new' (Kd.R_new' (Kd.R_new' (Kd.R_new' (Kd.R_new' (Kd.R_new' (Kd.R_new' (Kd.R_new' (Kd.R_new' (Kd.R_new' ho0 (Kd.Q_lt (qo HO744.out))) (Kd.R_lt (ro HO748.out))) (Kd.R_lt (ro HO752.out))) (Kd.R_lt (ro HO755.out))) (Kd.R_lt (ro HO759.out))) (Kd.R_lt (ro HO761.out))) (Kd.Q_lt (qo HO764.out))) (Kd.Q_lt (qo HO769.out))) (Kd.Z_lt (by (with_reducible repeat (first | apply Kd.Z_alloc | apply Kd.Z_drewN | apply Kd.Z_drew)); exact HO773.out))) (Kd.R_lt (ro HO776.out))) (Kd.R_lt (ro HO780.out))) (below_size bw))
      replace HO744 := am (Kd.Q_elder' (qo HO744.out) (Kd.R_base ho0) hb)
      replace HO748 := am (Kd.R_elder' (ro HO748.out) (Kd.R_base ho0) hb)
      replace HO752 := am (Kd.R_elder' (ro HO752.out) (Kd.R_base ho0) hb)
      replace HO755 := am (Kd.R_elder' (ro HO755.out) (Kd.R_base ho0) hb)
      replace HO759 := am (Kd.R_elder' (ro HO759.out) (Kd.R_base ho0) hb)
      replace HO761 := am (Kd.R_elder' (ro HO761.out) (Kd.R_base ho0) hb)
      replace HO764 := am (Kd.Q_elder' (qo HO764.out) (Kd.R_base ho0) hb)
      replace HO769 := am (Kd.Q_elder' (qo HO769.out) (Kd.R_base ho0) hb)
      replace HO773 := am (Kd.Z_elder' (by (with_reducible repeat (first | apply Kd.Z_alloc | apply Kd.Z_drewN | apply Kd.Z_drew)); exact HO773.out) (Kd.R_base ho0) hb)
      replace HO776 := am (Kd.R_elder' (ro HO776.out) (Kd.R_base ho0) hb)
      replace HO780 := am (Kd.R_elder' (ro HO780.out) (Kd.R_base ho0) hb)
      replace BK745 := kb BK745 hb
      replace BK766 := kb BK766 hb
      replace BK770 := kb BK770 hb
      replace HB := am (below_step bw hb)
      clear hb ho0
      obtain ⟨Ao69, co69, eo69⟩ := Kd.R_slice HO780.out
      (first | subst eo69 | (injection eo69 with f1_ f2_ f3_; have f4_ := f1_.symm; have f5_ := f3_.symm; clear f1_ f2_ f3_; subst f4_; subst f5_))
      obtain ⟨Ao70, co70, eo70⟩ := Kd.R_slice HO783.out
      (first | subst eo70 | (injection eo70 with f1_ f2_ f3_; have f4_ := f1_.symm; have f5_ := f3_.symm; clear f1_ f2_ f3_; subst f4_; subst f5_))
      refine hK.out _ _ ⟨bc BK745 0 _, bc BK766 0 _, bc BK770 0 _⟩ (fun hHeld => ?_)
      clear hK K
      refine nm (some 55) ?_
      refine oa 12 (some 56) (yz 48 8191) HT_ (fun K hK => ?_)
      refine gm Try.func15 #[.slice Ao69 t778.length co69, .slice Ao70 t781.length co70] ?_
      with_reducible refine (laws_sameInts.calls k _ _ t778 _ _ t781 true _ ?side1 ?side2 ?side3 ?side4 A38.out).mono ?_
      (case side1 => exact co (Kd.R_reads' HO780.out).2.2)
      (case side2 => exact (Kd.R_reads' HO780.out).2.1)
      (case side3 => exact co (Kd.R_reads' HO783.out).2.2)
      (case side4 => exact (Kd.R_reads' HO783.out).2.1)
      rintro e w' ⟨rfl, ⟨nd, rfl⟩⟩
      refine ⟨_, rfl, ?_⟩
      obtain ⟨Ao71, co71, eo71⟩ := Kd.R_slice HO755.out
      (first | subst eo71 | (injection eo71 with f1_ f2_ f3_; have f4_ := f1_.symm; have f5_ := f3_.symm; clear f1_ f2_ f3_; subst f4_; subst f5_))
      refine hK.out _ _ ⟨bc BK745 0 _, bc BK766 0 _, bc BK770 0 _⟩ (fun hHeld => ?_)
      clear hK K
      refine nm (some 56) ?_
      refine pa 13 (some 57) (yz 48 16383) HT_ ?_
      refine pa 14 (some 58) (yz 48 32767) HT_ ?_
      refine pa 15 (some 59) (yz 48 65535) HT_ ?_
      refine pa 16 (some 60) (yz 48 131071) HT_ ?_
      refine pa 18 (some 62) (yz 48 393215) HT_ ?_
      refine oa 17 (some 61) (yz 48 524287) HT_ (fun K hK => ?_)
      refine gm Try.func19 #[.slice Ao71 t753.length co71] ?_
      with_reducible refine (impl_IsPalindrome.calls k _ _ t753 t785 _ ?side1 ?side2 A40.out).mono ?_
      (case side1 => exact co (Kd.R_reads' HO755.out).2.2)
      (case side2 => exact (Kd.R_reads' HO755.out).2.1)
      rintro e w' ⟨rfl, ⟨nd, rfl⟩⟩
      refine ⟨_, rfl, ?_⟩
      refine hK.out _ _ ⟨bc BK745 0 _, bc BK766 0 _, bc BK770 0 _⟩ (fun hHeld => ?_)
      clear hK K
      refine nm (some 61) ?_
      refine oa 19 (some 63) (yz 48 1048575) HT_ (fun K hK => ?_)
      refine gm Try.func20 #[.slice Ao71 t753.length co71] ?_
      with_reducible refine (spec_IsPalindrome.calls k _ _ t753 t786 _ ?side1 ?side2 A41.out).mono ?_
      (case side1 => exact co (Kd.R_reads' HO755.out).2.2)
      (case side2 => exact (Kd.R_reads' HO755.out).2.1)
      rintro e w' ⟨rfl, ⟨nd, rfl⟩⟩
      refine ⟨_, rfl, ?_⟩
      obtain ⟨Ao72, co72, eo72⟩ := Kd.R_slice HO759.out
      (first | subst eo72 | (injection eo72 with f1_ f2_ f3_; have f4_ := f1_.symm; have f5_ := f3_.symm; clear f1_ f2_ f3_; subst f4_; subst f5_))
      obtain ⟨Ao73, co73, eo73⟩ := Kd.R_slice HO761.out
      (first | subst eo73 | (injection eo73 with f1_ f2_ f3_; have f4_ := f1_.symm; have f5_ := f3_.symm; clear f1_ f2_ f3_; subst f4_; subst f5_))
      refine hK.out _ _ ⟨bc BK745 0 _, bc BK766 0 _, bc BK770 0 _⟩ (fun hHeld => ?_)
      clear hK K
      refine nm (some 63) ?_
      refine pa 20 (some 64) (yz 48 2097151) HT_ ?_
      refine pa 21 (some 65) (yz 48 4194303) HT_ ?_
      refine pa 22 (some 66) (yz 48 8388607) HT_ ?_
      refine pa 23 (some 67) (yz 48 16777215) HT_ ?_
      refine pa 24 (some 68) (yz 48 33554431) HT_ ?_
      refine pa 26 (some 70) (yz 48 100663295) HT_ ?_
      refine pa 27 (some 71) (yz 48 234881023) HT_ ?_
      refine oa 25 (some 69) (yz 48 268435455) HT_ (fun K hK => ?_)
      refine gm Try.func21 #[.slice Ao72 t756.length co72, .slice Ao73 t757.length co73] ?_
      with_reducible refine (impl_MultiplyLists.calls k _ _ t756 _ _ t757 t787 _ ?side1 ?side2 ?side3 ?side4 A53.out).mono ?_
      (case side1 => exact co (Kd.R_reads' HO759.out).2.2)
      (case side2 => exact (Kd.R_reads' HO759.out).2.1)
      (case side3 => exact co (Kd.R_reads' HO761.out).2.2)
      (case side4 => exact (Kd.R_reads' HO761.out).2.1)
      rintro e w74 ⟨v788, rfl, ho0, hb⟩
      refine ⟨_, rfl, ?_⟩
      have HO789 := am (Kd.R_lower (Kd.R_new' (Kd.R_new' (Kd.R_new' (Kd.R_new' (Kd.R_new' (Kd.R_new' (Kd.R_new' (Kd.R_new' (Kd.R_new' (Kd.R_new' (Kd.R_new' (Kd.R_new' ho0 (Kd.Q_lt (qo HO744.out))) (Kd.R_lt (ro HO748.out))) (Kd.R_lt (ro HO752.out))) (Kd.R_lt (ro HO755.out))) (Kd.R_lt (ro HO759.out))) (Kd.R_lt (ro HO761.out))) (Kd.Q_lt (qo HO764.out))) (Kd.Q_lt (qo HO769.out))) (Kd.Z_lt (by (with_reducible repeat (first | apply Kd.Z_alloc | apply Kd.Z_drewN | apply Kd.Z_drew)); exact HO773.out))) (Kd.R_lt (ro HO776.out))) (Kd.R_lt (ro HO780.out))) (Kd.R_lt (ro HO783.out))) (below_size bw))
      replace HO744 := am (Kd.Q_elder' (qo HO744.out) (Kd.R_base ho0) hb)
      replace HO748 := am (Kd.R_elder' (ro HO748.out) (Kd.R_base ho0) hb)
      replace HO752 := am (Kd.R_elder' (ro HO752.out) (Kd.R_base ho0) hb)
      replace HO755 := am (Kd.R_elder' (ro HO755.out) (Kd.R_base ho0) hb)
      replace HO759 := am (Kd.R_elder' (ro HO759.out) (Kd.R_base ho0) hb)
      replace HO761 := am (Kd.R_elder' (ro HO761.out) (Kd.R_base ho0) hb)
      replace HO764 := am (Kd.Q_elder' (qo HO764.out) (Kd.R_base ho0) hb)
      replace HO769 := am (Kd.Q_elder' (qo HO769.out) (Kd.R_base ho0) hb)
      replace HO773 := am (Kd.Z_elder' (by (with_reducible repeat (first | apply Kd.Z_alloc | apply Kd.Z_drewN | apply Kd.Z_drew)); exact HO773.out) (Kd.R_base ho0) hb)
      replace HO776 := am (Kd.R_elder' (ro HO776.out) (Kd.R_base ho0) hb)
      replace HO780 := am (Kd.R_elder' (ro HO780.out) (Kd.R_base ho0) hb)
      replace HO783 := am (Kd.R_elder' (ro HO783.out) (Kd.R_base ho0) hb)
      replace BK745 := kb BK745 hb
      replace BK766 := kb BK766 hb
      replace BK770 := kb BK770 hb
      replace HB := am (below_step bw hb)
      clear hb ho0
      refine hK.out _ _ ⟨bc BK745 0 _, bc BK766 0 _, bc BK770 0 _⟩ (fun hHeld => ?_)
      clear hK K
      refine nm (some 69) ?_
      refine oa 28 (some 72) (yz 48 536870911) HT_ (fun K hK => ?_)
      refine gm Try.func22 #[.slice Ao72 t756.length co72, .slice Ao73 t757.length co73] ?_
      with_reducible refine (spec_MultiplyLists.calls k _ _ t756 _ _ t757 t790 _ ?side1 ?side2 ?side3 ?side4 A54.out).mono ?_
      (case side1 => exact co (Kd.R_reads' HO759.out).2.2)
      (case side2 => exact (Kd.R_reads' HO759.out).2.1)
      (case side3 => exact co (Kd.R_reads' HO761.out).2.2)
      (case side4 => exact (Kd.R_reads' HO761.out).2.1)
      rintro e w75 ⟨v791, rfl, ho0, hb⟩
      refine ⟨_, rfl, ?_⟩
      have HO792 := am (Kd.R_lower (Kd.R_new' (Kd.R_new' (Kd.R_new' (Kd.R_new' (Kd.R_new' (Kd.R_new' (Kd.R_new' (Kd.R_new' (Kd.R_new' (Kd.R_new' (Kd.R_new' (Kd.R_new' (Kd.R_new' ho0 (Kd.Q_lt (qo HO744.out))) (Kd.R_lt (ro HO748.out))) (Kd.R_lt (ro HO752.out))) (Kd.R_lt (ro HO755.out))) (Kd.R_lt (ro HO759.out))) (Kd.R_lt (ro HO761.out))) (Kd.Q_lt (qo HO764.out))) (Kd.Q_lt (qo HO769.out))) (Kd.Z_lt (by (with_reducible repeat (first | apply Kd.Z_alloc | apply Kd.Z_drewN | apply Kd.Z_drew)); exact HO773.out))) (Kd.R_lt (ro HO776.out))) (Kd.R_lt (ro HO780.out))) (Kd.R_lt (ro HO783.out))) (Kd.R_lt (ro HO789.out))) (below_size bw))
      replace HO744 := am (Kd.Q_elder' (qo HO744.out) (Kd.R_base ho0) hb)
      replace HO748 := am (Kd.R_elder' (ro HO748.out) (Kd.R_base ho0) hb)
      replace HO752 := am (Kd.R_elder' (ro HO752.out) (Kd.R_base ho0) hb)
      replace HO755 := am (Kd.R_elder' (ro HO755.out) (Kd.R_base ho0) hb)
      replace HO759 := am (Kd.R_elder' (ro HO759.out) (Kd.R_base ho0) hb)
      replace HO761 := am (Kd.R_elder' (ro HO761.out) (Kd.R_base ho0) hb)
      replace HO764 := am (Kd.Q_elder' (qo HO764.out) (Kd.R_base ho0) hb)
      replace HO769 := am (Kd.Q_elder' (qo HO769.out) (Kd.R_base ho0) hb)
      replace HO773 := am (Kd.Z_elder' (by (with_reducible repeat (first | apply Kd.Z_alloc | apply Kd.Z_drewN | apply Kd.Z_drew)); exact HO773.out) (Kd.R_base ho0) hb)
      replace HO776 := am (Kd.R_elder' (ro HO776.out) (Kd.R_base ho0) hb)
      replace HO780 := am (Kd.R_elder' (ro HO780.out) (Kd.R_base ho0) hb)
      replace HO783 := am (Kd.R_elder' (ro HO783.out) (Kd.R_base ho0) hb)
      replace HO789 := am (Kd.R_elder' (ro HO789.out) (Kd.R_base ho0) hb)
      replace BK745 := kb BK745 hb
      replace BK766 := kb BK766 hb
      replace BK770 := kb BK770 hb
      replace HB := am (below_step bw hb)
      clear hb ho0
      obtain ⟨Ao76, co76, eo76⟩ := Kd.R_slice HO789.out
      (first | subst eo76 | (injection eo76 with f1_ f2_ f3_; have f4_ := f1_.symm; have f5_ := f3_.symm; clear f1_ f2_ f3_; subst f4_; subst f5_))
      obtain ⟨Ao77, co77, eo77⟩ := Kd.R_slice HO792.out
      (first | subst eo77 | (injection eo77 with f1_ f2_ f3_; have f4_ := f1_.symm; have f5_ := f3_.symm; clear f1_ f2_ f3_; subst f4_; subst f5_))
      refine hK.out _ _ ⟨bc BK745 0 _, bc BK766 0 _, bc BK770 0 _⟩ (fun hHeld => ?_)
      clear hK K
      refine nm (some 72) ?_
      refine oa 29 (some 73) (yz 48 1073741823) HT_ (fun K hK => ?_)
      refine gm Try.func15 #[.slice Ao76 t787.length co76, .slice Ao77 t790.length co77] ?_
      with_reducible refine (laws_sameInts.calls k _ _ t787 _ _ t790 true _ ?side1 ?side2 ?side3 ?side4 A55.out).mono ?_
      (case side1 => exact co (Kd.R_reads' HO789.out).2.2)
      (case side2 => exact (Kd.R_reads' HO789.out).2.1)
      (case side3 => exact co (Kd.R_reads' HO792.out).2.2)
      (case side4 => exact (Kd.R_reads' HO792.out).2.1)
      rintro e w' ⟨rfl, ⟨nd, rfl⟩⟩
      refine ⟨_, rfl, ?_⟩
      refine hK.out _ _ ⟨bc BK745 0 _, bc BK766 0 _, bc BK770 0 _⟩ (fun hHeld => ?_)
      clear hK K
      refine nm (some 73) ?_
      refine pa 30 (some 74) (yz 48 2147483647) HT_ ?_
      refine pa 31 (some 75) (yz 48 4294967295) HT_ ?_
      refine pa 32 (some 76) (yz 48 8589934591) HT_ ?_
      refine pa 34 (some 78) (yz 48 25769803775) HT_ ?_
      refine pa 37 (some 81) (yz 48 163208757247) HT_ ?_
      refine tk 33 (some 77) (yz 48 171798691839) HT_ HW_ hHeld ?_
      refine tk 36 (some 80) (yz 48 240518168575) HT_ HW_ hHeld ?_
      refine oa 35 (some 79) (yz 48 274877906943) HT_ (fun K hK => ?_)
      refine gm Try.func23 #[.agg #[.slice Ao23 t762.length co23], .int .i64 t765] ?_
      with_reducible refine (impl_EulerAt.calls k _ _ t762 t765 t794 _ ?side1 ?side2 A57.out).mono ?_
      (case side1 => exact co (Kd.Q_reads' HO764.out).2.2)
      (case side2 => exact (Kd.Q_reads' HO764.out).2.1)
      rintro e w78 ⟨rfl, hb⟩
      refine ⟨_, rfl, ?_⟩
      replace HO744 := qK HO744 hb
      replace HO748 := rK HO748 hb
      replace HO752 := rK HO752 hb
      replace HO755 := rK HO755 hb
      replace HO759 := rK HO759 hb
      replace HO761 := rK HO761 hb
      replace HO764 := qK HO764 hb
      replace HO769 := qK HO769 hb
      replace HO773 := am (Kd.Z_below (by (with_reducible repeat (first | apply Kd.Z_alloc | apply Kd.Z_drewN | apply Kd.Z_drew)); exact HO773.out) hb)
      replace HO776 := rK HO776 hb
      replace HO780 := rK HO780 hb
      replace HO783 := rK HO783 hb
      replace HO789 := rK HO789 hb
      replace HO792 := rK HO792 hb
      replace BK745 := kb BK745 hb
      replace BK766 := kb BK766 hb
      replace BK770 := kb BK770 hb
      replace HB := am (below_step bw hb)
      clear hb
      refine hK.out _ _ ⟨bc BK745 0 _, bc BK766 0 _, bc BK770 0 _⟩ (fun hHeld => ?_)
      clear hK K
      refine nm (some 79) ?_
      refine oa 38 (some 82) (yz 48 549755813887) HT_ (fun K hK => ?_)
      refine gm Try.func24 #[.agg #[.slice Ao23 t762.length co23], .int .i64 t765] ?_
      with_reducible refine (spec_EulerAt.calls k _ _ t762 t765 t795 _ ?side1 ?side2 A58.out).mono ?_
      (case side1 => exact co (Kd.Q_reads' HO764.out).2.2)
      (case side2 => exact (Kd.Q_reads' HO764.out).2.1)
      rintro e w79 ⟨rfl, hb⟩
      refine ⟨_, rfl, ?_⟩
      replace HO744 := qK HO744 hb
      replace HO748 := rK HO748 hb
      replace HO752 := rK HO752 hb
      replace HO755 := rK HO755 hb
      replace HO759 := rK HO759 hb
      replace HO761 := rK HO761 hb
      replace HO764 := qK HO764 hb
      replace HO769 := qK HO769 hb
      replace HO773 := am (Kd.Z_below (by (with_reducible repeat (first | apply Kd.Z_alloc | apply Kd.Z_drewN | apply Kd.Z_drew)); exact HO773.out) hb)
      replace HO776 := rK HO776 hb
      replace HO780 := rK HO780 hb
      replace HO783 := rK HO783 hb
      replace HO789 := rK HO789 hb
      replace HO792 := rK HO792 hb
      replace BK745 := kb BK745 hb
      replace BK766 := kb BK766 hb
      replace BK770 := kb BK770 hb
      replace HB := am (below_step bw hb)
      clear hb
      refine hK.out _ _ ⟨bc BK745 0 _, bc BK766 0 _, bc BK770 0 _⟩ (fun hHeld => ?_)
      clear hK K
      refine nm (some 82) ?_
      refine pa 39 (some 83) (yz 48 1099511627775) HT_ ?_
      refine pa 40 (some 84) (yz 48 2199023255551) HT_ ?_
      refine pa 41 (some 85) (yz 48 4398046511103) HT_ ?_
      refine pa 42 (some 86) (yz 48 8796093022207) HT_ ?_
      refine tk 43 (some 87) (yz 48 17592186044415) HT_ HW_ hHeld ?_
      refine oa 44 (some 88) (yz 48 35184372088831) HT_ (fun K hK => ?_)
      refine gm Try.func25 #[.agg #[.slice Ao28 t767.length co28]] ?_
      with_reducible refine (spec_EulerList.calls k _ _ t767 t796 _ ?side1 ?side2 A60.out).mono ?_
      (case side1 => exact co (Kd.Q_reads' HO769.out).2.2)
      (case side2 => exact (Kd.Q_reads' HO769.out).2.1)
      rintro e w80 ⟨v797, rfl, ho0, hb⟩
      refine ⟨_, rfl, ?_⟩
      have HO798 := am (Kd.R_lower (Kd.R_new' (Kd.R_new' (Kd.R_new' (Kd.R_new' (Kd.R_new' (Kd.R_new' (Kd.R_new' (Kd.R_new' (Kd.R_new' (Kd.R_new' (Kd.R_new' (Kd.R_new' (Kd.R_new' (Kd.R_new' ho0 (Kd.Q_lt (qo HO744.out))) (Kd.R_lt (ro HO748.out))) (Kd.R_lt (ro HO752.out))) (Kd.R_lt (ro HO755.out))) (Kd.R_lt (ro HO759.out))) (Kd.R_lt (ro HO761.out))) (Kd.Q_lt (qo HO764.out))) (Kd.Q_lt (qo HO769.out))) (Kd.Z_lt (by (with_reducible repeat (first | apply Kd.Z_alloc | apply Kd.Z_drewN | apply Kd.Z_drew)); exact HO773.out))) (Kd.R_lt (ro HO776.out))) (Kd.R_lt (ro HO780.out))) (Kd.R_lt (ro HO783.out))) (Kd.R_lt (ro HO789.out))) (Kd.R_lt (ro HO792.out))) (below_size bw))
      replace HO744 := am (Kd.Q_elder' (qo HO744.out) (Kd.R_base ho0) hb)
      replace HO748 := am (Kd.R_elder' (ro HO748.out) (Kd.R_base ho0) hb)
      replace HO752 := am (Kd.R_elder' (ro HO752.out) (Kd.R_base ho0) hb)
      replace HO755 := am (Kd.R_elder' (ro HO755.out) (Kd.R_base ho0) hb)
      replace HO759 := am (Kd.R_elder' (ro HO759.out) (Kd.R_base ho0) hb)
      replace HO761 := am (Kd.R_elder' (ro HO761.out) (Kd.R_base ho0) hb)
      replace HO764 := am (Kd.Q_elder' (qo HO764.out) (Kd.R_base ho0) hb)
      replace HO769 := am (Kd.Q_elder' (qo HO769.out) (Kd.R_base ho0) hb)
      replace HO773 := am (Kd.Z_elder' (by (with_reducible repeat (first | apply Kd.Z_alloc | apply Kd.Z_drewN | apply Kd.Z_drew)); exact HO773.out) (Kd.R_base ho0) hb)
      replace HO776 := am (Kd.R_elder' (ro HO776.out) (Kd.R_base ho0) hb)
      replace HO780 := am (Kd.R_elder' (ro HO780.out) (Kd.R_base ho0) hb)
      replace HO783 := am (Kd.R_elder' (ro HO783.out) (Kd.R_base ho0) hb)
      replace HO789 := am (Kd.R_elder' (ro HO789.out) (Kd.R_base ho0) hb)
      replace HO792 := am (Kd.R_elder' (ro HO792.out) (Kd.R_base ho0) hb)
      replace BK745 := kb BK745 hb
      replace BK766 := kb BK766 hb
      replace BK770 := kb BK770 hb
      replace HB := am (below_step bw hb)
      clear hb ho0
      obtain ⟨Ao81, co81, eo81⟩ := Kd.Z_slice HO773.out
      (first | subst eo81 | (injection eo81 with f1_ f2_ f3_; have f4_ := f1_.symm; have f5_ := f3_.symm; clear f1_ f2_ f3_; subst f4_; subst f5_))
      obtain ⟨Ao82, co82, eo82⟩ := Kd.R_slice HO798.out
      (first | subst eo82 | (injection eo82 with f1_ f2_ f3_; have f4_ := f1_.symm; have f5_ := f3_.symm; clear f1_ f2_ f3_; subst f4_; subst f5_))
      refine hK.out _ _ ⟨bc BK745 0 _, bc BK766 0 _, bc BK770 0 _⟩ (fun hHeld => ?_)
      clear hK K
      refine nm (some 88) ?_
      refine oa 45 (some 89) (yz 48 70368744177663) HT_ (fun K hK => ?_)
      refine gm Try.func15 #[.slice Ao81 t771.length co81, .slice Ao82 t796.length co82] ?_
      with_reducible refine (laws_sameInts.calls k _ _ t771 _ _ t796 t799 _ ?side1 ?side2 ?side3 ?side4 A61.out).mono ?_
      (case side1 => exact co (Kd.Z_reads' HO773.out).2.2)
      (case side2 => exact (Kd.Z_reads' HO773.out).2.1)
      (case side3 => exact co (Kd.R_reads' HO798.out).2.2)
      (case side4 => exact (Kd.R_reads' HO798.out).2.1)
      rintro e w' ⟨rfl, ⟨nd, rfl⟩⟩
      refine ⟨_, rfl, ?_⟩
      refine hK.out _ _ ⟨bc BK745 0 _, bc BK766 0 _, bc BK770 0 _⟩ (fun hHeld => ?_)
      clear hK K
      refine nm (some 89) ?_
      refine pa 46 (some 90) (yz 48 140737488355327) HT_ ?_
      refine pa 47 (some 91) (yz 48 281474976710655) HT_ ?_
      refine done_ (done_of HT_.out (by kernel_rfl)) ?_
      try go_wp2
      go_meet
      case rel => exact ⟨_, (!t799), rr, H', ⟨om⟩, ⟨by (with_reducible repeat (first | apply Kd.R_alloc | apply Kd.R_drewN | apply Kd.R_drew)); exact Kd.R_mono HO748.out (fun _ hk => ⟨hk.1.1.1.1.1.1.2, ⟨hk.1.1.1.1.1.1.1.1.1.1.1.1.1.2, ⟨hk.1.1.1.1.1.1.1.1.2, hk.1.1.1.1.1.1.1.2⟩⟩⟩)⟩, ⟨by (with_reducible repeat (first | apply Kd.Z_alloc | apply Kd.Z_drewN | apply Kd.Z_drew)); exact Kd.Z_mono HO773.out (fun _ hk => ⟨hk.1.1.1.1.1.1.1.1.1.1.1.1.2, ⟨hk.1.1.1.1.1.1.1.1.1.1.1.1.1.2, ⟨hk.1.1.1.1.1.1.1.2, hk.1.1.1.1.1.1.2⟩⟩⟩)⟩, ⟨by (with_reducible repeat (first | apply Kd.Q_alloc | apply Kd.Q_drewN | apply Kd.Q_drew)); exact Kd.Q_mono HO744.out (fun _ hk => ⟨hk.1.1.1.1.1.1.1.1.1.1.1.1.1.2, ⟨hk.1.1.1.1.1.1.2, ⟨hk.1.1.1.1.1.1.1.1.2, hk.1.1.1.1.1.1.1.2⟩⟩⟩)⟩, ⟨by (with_reducible repeat (first | apply Kd.Q_alloc | apply Kd.Q_drewN | apply Kd.Q_drew)); exact Kd.Q_mono HO764.out (fun _ hk => ⟨hk.1.1.1.1.1.1.1.1.1.1.1.1.2, ⟨hk.1.1.1.1.1.1.2, ⟨hk.1.1.1.1.1.1.1.1.1.1.1.1.1.2, hk.1.1.1.1.1.1.1.2⟩⟩⟩)⟩, ⟨by (with_reducible repeat (first | apply Kd.Q_alloc | apply Kd.Q_drewN | apply Kd.Q_drew)); exact Kd.Q_mono HO769.out (fun _ hk => ⟨hk.1.1.1.1.1.1.1.1.1.1.1.1.2, ⟨hk.1.1.1.1.1.1.2, ⟨hk.1.1.1.1.1.1.1.1.1.1.1.1.1.2, hk.1.1.1.1.1.1.1.2⟩⟩⟩)⟩, ⟨bo BK745.out⟩, ⟨bo BK766.out⟩, ⟨bo BK770.out⟩, ⟨bw⟩⟩
     rw [if_neg c59] at H
     exact absurd H (laws_FnSeries.j0_no)
    replace c56 := Bool.eq_false_iff.mpr c56
    subst c56
    exact absurd H (laws_FnSeries.j0_no)
   replace c39 := Bool.eq_false_iff.mpr c39
   subst c39
   exact absurd H (laws_FnSeries.j0_no)
  replace c35 := Bool.eq_false_iff.mpr c35
  subst c35
  exact absurd H (laws_FnSeries.j0_no)
 case rest =>
  clear HC12
  try clear c3; try clear c35
  obtain ⟨kq, x91_11, rfl, HA, HJ11, HO_4, HO_13, HO_746000, HO_767000, HO_771000, BK745, BK766, BK770, HB⟩ := hcut
  cases kq with
  | zero => exact absurd HA.out (by simp [laws_FnSeries.j0])
  | succ kj11 =>
   have H := HA.out
   clear HA
   simp only [laws_FnSeries.j0] at H
   replace H := gb H; obtain ⟨rfl, H⟩ | ⟨rfl, H⟩ := H
   ·exact absurd (Option.some.inj H) (by decide)
   have H' := am H
   clear H
   go_wp2
   go_loopg [14] kj11 (fun kq v14 w' => ∃ (x14_2 : Int), v14 = .int .i64 x14_2 ∧ Aside0 (laws_FnSeries.l0 kq t746 t771 x14_2 t742 t767 = some true) ∧ Aside0 (kq ≤ kj11) ∧ Aside0 (Kd.R (Kd.int .i64) 3 w' w.heap.size (fun k_ => some k_ ≠ (v772 : Value).ownBlock ∧ nb k_ Ao15 t742 co15 ∧ nb k_ Ao23 t762 co23 ∧ nb k_ Ao28 t767 co28) v747 t746) ∧ Aside0 (Kd.Z (Kd.int .i64) 3 w' w.heap.size (fun k_ => some k_ ≠ (v747 : Value).ownBlock ∧ nb k_ Ao15 t742 co15 ∧ nb k_ Ao23 t762 co23 ∧ nb k_ Ao28 t767 co28) v772 t771) ∧ Aside0 (Kd.Q (Kd.int .i64) 3 w' w.heap.size (fun k_ => some k_ ≠ (v747 : Value).ownBlock ∧ some k_ ≠ (v772 : Value).ownBlock ∧ nb k_ Ao23 t762 co23 ∧ nb k_ Ao28 t767 co28) (.slice Ao15 t742.length co15) t742) ∧ Aside0 (Kd.Q (Kd.int .i64) 3 w' w.heap.size (fun k_ => some k_ ≠ (v747 : Value).ownBlock ∧ some k_ ≠ (v772 : Value).ownBlock ∧ nb k_ Ao15 t742 co15 ∧ nb k_ Ao28 t767 co28) (.slice Ao23 t762.length co23) t762) ∧ Aside0 (Kd.Q (Kd.int .i64) 3 w' w.heap.size (fun k_ => some k_ ≠ (v747 : Value).ownBlock ∧ some k_ ≠ (v772 : Value).ownBlock ∧ nb k_ Ao15 t742 co15 ∧ nb k_ Ao23 t762 co23) (.slice Ao28 t767.length co28) t767) ∧ Aside0 (w'.heap[gb745]? = some (.cells #[(.slice Ao15 t742.length co15)] 26 (0, 0))) ∧ Aside0 (w'.heap[gb766]? = some (.cells #[(.slice Ao23 t762.length co23)] 26 (0, 0))) ∧ Aside0 (w'.heap[gb770]? = some (.cells #[(.slice Ao28 t767.length co28)] 26 (0, 0))) ∧ Aside0 (Below w.heap.size w w'))
   case atStart => exact ⟨(0), rr, H', ⟨Nat.le_refl _⟩, ⟨ro HO_4.out⟩, ⟨by (with_reducible repeat (first | apply Kd.Z_alloc | apply Kd.Z_drewN | apply Kd.Z_drew)); exact HO_13.out⟩, ⟨qo HO_746000.out⟩, ⟨qo HO_767000.out⟩, ⟨qo HO_771000.out⟩, ⟨bo BK745.out⟩, ⟨bo BK766.out⟩, ⟨bo BK770.out⟩, ⟨bw⟩⟩
   case round =>
    clear H'
    try clear c3; try clear c35
    obtain ⟨x14_2, rfl, HA, HK2, HO_4, HO_13, HO_746000, HO_767000, HO_771000, BK745, BK766, BK770, HB⟩ := hrel
    cases gk with
    | zero => exact absurd HA.out (by simp [laws_FnSeries.l0])
    | succ k2 =>
     have H := HA.out
     clear HA
     simp only [laws_FnSeries.l0] at H
     replace H := gi H; obtain ⟨c131b0, H⟩ | ⟨c131b0, H⟩ := H
     ·replace H := gd H; obtain ⟨c132b0, H⟩ := H
      replace H := ga H; obtain ⟨t801, A133, H⟩ := H
      by_cases c134 : (rd t771 x14_2) = t801
      ·rw [if_pos c134] at H
       have c134b0 : ((rd t771 x14_2) == t801) = true := beq_iff_eq.mpr c134
       have c134b1 : ((rd t771 x14_2) != t801) = false := bne_eq_false_iff_eq.mpr c134
       clear c134
       have H' := am H
       clear H
       obtain ⟨Ao135, co135, eo135⟩ := Kd.Z_slice HO_13.out
       subst eo135
       try go_wp2
       replace HO_4 := am (Kd.R_drew HO_4.out)
       replace HO_13 := am (Kd.Z_drew HO_13.out)
       replace HO_746000 := am (Kd.Q_drew HO_746000.out)
       replace HO_767000 := am (Kd.Q_drew HO_767000.out)
       replace HO_771000 := am (Kd.Q_drew HO_771000.out)
       replace BK745 := bd BK745
       replace BK766 := bd BK766
       replace BK770 := bd BK770
       replace HB := am (below_drew1 HB.out)
       obtain ⟨⟨ad800, e800, hx800_0⟩, p800, q800⟩ := pq (Kd.at_int (Kd.Z_reads' HO_13.out).2.2 x14_2)
       cases e800
       refine start_ (n := 8) (S := fun w' => w'.cell? ⟨gb770, 0, none⟩ = some (.slice Ao28 t767.length co28) ∧ w'.cell? (ad800.add (x14_2).toNat) = some (.int .i64 (rd t771 x14_2))) (ds := []) (yz 8 0) (by kernel_rfl) rfl rfl ⟨bc BK770 0 _, hx800_0⟩ (fun hHeld => ?_); refine with_tabW laws_FnSeries.tab16 laws_FnSeries.bits16 (fun HT_ HW_ => ?_)
       generalize wr.drew = w136 at HO_4 HO_13 HO_746000 HO_767000 HO_771000 BK745 BK766 BK770 HB hx800_0 hHeld ⊢
       refine pa 0 (some 98) (yz 8 1) HT_ ?_
       refine pa 1 (some 99) (yz 8 3) HT_ ?_
       refine pa 2 (some 100) (yz 8 7) HT_ ?_
       refine pa 5 (some 103) (yz 8 39) HT_ ?_
       refine tk 3 (some 101) (yz 8 47) HT_ HW_ hHeld ?_
       refine tk 4 (some 102) (yz 8 63) HT_ HW_ hHeld ?_
       refine oa 6 (some 104) (yz 8 127) HT_ (fun K hK => ?_)
       refine gm Try.func23 #[.agg #[.slice Ao28 t767.length co28], .int .i64 x14_2] ?_
       with_reducible refine (impl_EulerAt.calls k2 _ _ t767 x14_2 t801 _ ?side1 ?side2 A133.out).mono ?_
       (case side1 => exact co (Kd.Q_reads' HO_771000.out).2.2)
       (case side2 => exact (Kd.Q_reads' HO_771000.out).2.1)
       rintro e w137 ⟨rfl, hb⟩
       have HS1_ := (hb.cell (World.block_lt_of_cell? _ _ (hHeld.2))).trans (hHeld.2)
       refine ⟨_, rfl, ?_⟩
       replace HO_4 := rK HO_4 hb
       replace HO_13 := am (Kd.Z_below (by (with_reducible repeat (first | apply Kd.Z_alloc | apply Kd.Z_drewN | apply Kd.Z_drew)); exact HO_13.out) hb)
       replace HO_746000 := qK HO_746000 hb
       replace HO_767000 := qK HO_767000 hb
       replace HO_771000 := qK HO_771000 hb
       replace BK745 := kb BK745 hb
       replace BK766 := kb BK766 hb
       replace BK770 := kb BK770 hb
       replace HB := am (below_step bw hb)
       clear hb
       refine hK.out _ _ ⟨bc BK770 0 _, HS1_⟩ (fun hHeld => ?_)
       clear hK K
       refine nm (some 104) ?_
       refine pa 7 (some 105) (yz 8 255) HT_ ?_
       refine done_ (done_of HT_.out (by kernel_rfl)) ?_
       try go_wp2
       go_roundg k2
       case measure => have := HJ11.out; have := HK2.out; omega
       case rel => exact ⟨(wrap64 (x14_2 + 7)), rr, H', ⟨by have := HJ11.out; have := HK2.out; omega⟩, ⟨ro HO_4.out⟩, ⟨by (with_reducible repeat (first | apply Kd.Z_alloc | apply Kd.Z_drewN | apply Kd.Z_drew)); exact HO_13.out⟩, ⟨qo HO_746000.out⟩, ⟨qo HO_767000.out⟩, ⟨qo HO_771000.out⟩, ⟨bo BK745.out⟩, ⟨bo BK766.out⟩, ⟨bo BK770.out⟩, ⟨bw⟩⟩
      rw [if_neg c134] at H
      have c134b0 : ((rd t771 x14_2) == t801) = false := beq_eq_false_iff_ne.mpr c134
      have c134b1 : ((rd t771 x14_2) != t801) = true := bne_iff_ne.mpr c134
      exact absurd (Option.some.inj H) (by decide)
     replace H := ga H; obtain ⟨t802, A141, H⟩ := H
     replace H := gb H; obtain ⟨rfl, H⟩ | ⟨rfl, H⟩ := H
     ·replace H := ga H; obtain ⟨t803, A143, H⟩ := H
      have H' := am H
      clear H
      obtain ⟨Ao144, co144, eo144⟩ := Kd.Z_slice HO_13.out
      subst eo144
      have hnb145 := NB745_766.out
      have hnc145 := NB766_745.out
      have hnb146 := NB745_770.out
      have hnc146 := NB770_745.out
      have hcz147_0 := bc BK745 0 (.slice Ao15 t742.length co15)
      have hfz147_0 := blk_frozen BK745.out 0
      go_wp2_with (first | ((with_reducible refine gate_callee (f := 26) rfl ?_); refine gl (some 107) Try.func26 #[.agg #[.slice Ao15 t742.length co15]] ?_; (with_reducible refine (spec_IsSemigroup.calls k2 _ _ t742 true _ ?side1 ?side2 A141.out).mono ?_); (case side1 => exact co (Kd.Q_reads' HO_746000.out).2.2); (case side2 => exact (Kd.Q_reads' HO_746000.out).2.1); rintro e w148 ⟨rfl, hb⟩; refine ⟨_, rfl, ?_⟩; replace HO_4 := rK HO_4 hb; replace HO_13 := am (Kd.Z_below (by (with_reducible repeat (first | apply Kd.Z_alloc | apply Kd.Z_drewN | apply Kd.Z_drew)); exact HO_13.out) hb); replace HO_746000 := qK HO_746000 hb; replace HO_767000 := qK HO_767000 hb; replace HO_771000 := qK HO_771000 hb; replace BK745 := kb BK745 hb; replace BK766 := kb BK766 hb; replace BK770 := kb BK770 hb; replace HB := am (below_step bw hb); clear hb; obtain ⟨Ao149, co149, eo149⟩ := Kd.R_slice HO_4.out; subst eo149) | ((with_reducible refine gate_callee (f := 17) rfl ?_); refine gl (some 113) Try.func17 #[.slice Ao149 t746.length co149, .int .i64 60] ?_; (with_reducible refine (impl_SeriesFrom.calls k2 _ _ t746 60 t803 _ ?side1 ?side2 A143.out).mono ?_); (case side1 => exact co (Kd.R_reads' HO_4.out).2.2); (case side2 => exact (Kd.R_reads' HO_4.out).2.1); rintro e w150 ⟨v804, rfl, ho0, hb⟩; refine ⟨_, rfl, ?_⟩; have HO805 := am (Kd.R_lower (Kd.R_new' (Kd.R_new' (Kd.R_new' (Kd.R_new' (Kd.R_new' ho0 (Kd.R_lt (ro HO_4.out))) (Kd.Z_lt (by (with_reducible repeat (first | apply Kd.Z_alloc | apply Kd.Z_drewN | apply Kd.Z_drew)); exact HO_13.out))) (Kd.Q_lt (qo HO_746000.out))) (Kd.Q_lt (qo HO_767000.out))) (Kd.Q_lt (qo HO_771000.out))) (below_size bw)); replace HO_4 := am (Kd.R_elder' (ro HO_4.out) (Kd.R_base ho0) hb); replace HO_13 := am (Kd.Z_elder' (by (with_reducible repeat (first | apply Kd.Z_alloc | apply Kd.Z_drewN | apply Kd.Z_drew)); exact HO_13.out) (Kd.R_base ho0) hb); replace HO_746000 := am (Kd.Q_elder' (qo HO_746000.out) (Kd.R_base ho0) hb); replace HO_767000 := am (Kd.Q_elder' (qo HO_767000.out) (Kd.R_base ho0) hb); replace HO_771000 := am (Kd.Q_elder' (qo HO_771000.out) (Kd.R_base ho0) hb); replace BK745 := kb BK745 hb; replace BK766 := kb BK766 hb; replace BK770 := kb BK770 hb; replace HB := am (below_step bw hb); clear hb ho0))
      go_loopg [16] k2 (fun kq v16 w' => ∃ (x16_3 : Int), v16 = .int .i64 x16_3 ∧ Aside0 (laws_FnSeries.l1 kq t746 t803 x16_3 t742 = some true) ∧ Aside0 (kq ≤ k2) ∧ Aside0 (Kd.R (Kd.int .i64) 3 w' w.heap.size (fun k_ => some k_ ≠ (v804 : Value).ownBlock ∧ nb k_ Ao15 t742 co15 ∧ nb k_ Ao23 t762 co23 ∧ nb k_ Ao28 t767 co28) (.slice Ao149 t746.length co149) t746) ∧ Aside0 (Kd.R (Kd.int .i64) 3 w' w.heap.size (fun k_ => nb k_ Ao149 t746 co149 ∧ nb k_ Ao15 t742 co15 ∧ nb k_ Ao23 t762 co23 ∧ nb k_ Ao28 t767 co28) v804 t803) ∧ Aside0 (Kd.Q (Kd.int .i64) 3 w' w.heap.size (fun k_ => nb k_ Ao149 t746 co149 ∧ some k_ ≠ (v804 : Value).ownBlock ∧ nb k_ Ao23 t762 co23 ∧ nb k_ Ao28 t767 co28) (.slice Ao15 t742.length co15) t742) ∧ Aside0 (Kd.Q (Kd.int .i64) 3 w' w.heap.size (fun k_ => nb k_ Ao149 t746 co149 ∧ some k_ ≠ (v804 : Value).ownBlock ∧ nb k_ Ao15 t742 co15 ∧ nb k_ Ao28 t767 co28) (.slice Ao23 t762.length co23) t762) ∧ Aside0 (Kd.Q (Kd.int .i64) 3 w' w.heap.size (fun k_ => nb k_ Ao149 t746 co149 ∧ some k_ ≠ (v804 : Value).ownBlock ∧ nb k_ Ao15 t742 co15 ∧ nb k_ Ao23 t762 co23) (.slice Ao28 t767.length co28) t767) ∧ Aside0 (w'.heap[gb745]? = some (.cells #[(.slice Ao15 t742.length co15)] 26 (0, 0))) ∧ Aside0 (w'.heap[gb766]? = some (.cells #[(.slice Ao23 t762.length co23)] 26 (0, 0))) ∧ Aside0 (w'.heap[gb770]? = some (.cells #[(.slice Ao28 t767.length co28)] 26 (0, 0))) ∧ Aside0 (Below w.heap.size w w'))
      case atStart => exact ⟨(0), rr, H', ⟨Nat.le_refl _⟩, ⟨by (with_reducible repeat (first | apply Kd.R_alloc | apply Kd.R_drewN | apply Kd.R_drew)); exact Kd.R_mono HO_4.out (fun _ hk => ⟨hk.2, ⟨hk.1.2.1, ⟨hk.1.2.2.1, hk.1.2.2.2⟩⟩⟩)⟩, ⟨by (with_reducible repeat (first | apply Kd.R_alloc | apply Kd.R_drewN | apply Kd.R_drew)); exact Kd.R_mono HO805.out (fun _ hk => ⟨hk.1.1.1.1.2, ⟨hk.1.1.2, ⟨hk.1.2, hk.2⟩⟩⟩)⟩, ⟨by (with_reducible repeat (first | apply Kd.Q_alloc | apply Kd.Q_drewN | apply Kd.Q_drew)); exact Kd.Q_mono HO_746000.out (fun _ hk => ⟨hk.1.1, ⟨hk.2, ⟨hk.1.2.2.1, hk.1.2.2.2⟩⟩⟩)⟩, ⟨by (with_reducible repeat (first | apply Kd.Q_alloc | apply Kd.Q_drewN | apply Kd.Q_drew)); exact Kd.Q_mono HO_767000.out (fun _ hk => ⟨hk.1.1, ⟨hk.2, ⟨hk.1.2.2.1, hk.1.2.2.2⟩⟩⟩)⟩, ⟨by (with_reducible repeat (first | apply Kd.Q_alloc | apply Kd.Q_drewN | apply Kd.Q_drew)); exact Kd.Q_mono HO_771000.out (fun _ hk => ⟨hk.1.1, ⟨hk.2, ⟨hk.1.2.2.1, hk.1.2.2.2⟩⟩⟩)⟩, ⟨bo BK745.out⟩, ⟨bo BK766.out⟩, ⟨bo BK770.out⟩, ⟨bw⟩⟩
      case round =>
       clear H'
       try clear c3; try clear c35; try clear c131b0; try clear c132b0; try clear c134; try clear c134b0; try clear c134b1; try clear hcz147_0; try clear hfz147_0; try clear hx800_0; try clear p800; try clear q800
       obtain ⟨x16_3, rfl, HA, HK3, HO_4, HO_15, HO_746000, HO_767000, HO_771000, BK745, BK766, BK770, HB⟩ := hrel
       cases gk with
       | zero => exact absurd HA.out (by simp [laws_FnSeries.l1])
       | succ k3 =>
        have H := HA.out
        clear HA
        simp only [laws_FnSeries.l1] at H
        replace H := gi H; obtain ⟨c151b0, H⟩ | ⟨c151b0, H⟩ := H
        ·replace H := gd H; obtain ⟨c152b0, H⟩ := H
         by_cases c153 : x16_3 = 0
         ·rw [if_pos c153] at H
          have c153b0 : (x16_3 == 0) = true := beq_iff_eq.mpr c153
          have c153b1 : (x16_3 != 0) = false := bne_eq_false_iff_eq.mpr c153
          clear c153
          by_cases c154 : (((rd t803 x16_3) == 1) != true) = true
          ·rw [if_pos c154] at H
           have c154b0 : (((rd t803 x16_3) == 1) != true) = true := c154
           (try (have c154b1 : decide (((rd t803 x16_3) == 1) = true) = false := by simpa using c154))
           (try (have c154b2 : (((rd t803 x16_3) == 1) == true) = false := by simpa using c154))
           (try (have c154b3 : ¬ (((rd t803 x16_3) == 1) = true) := by simpa using c154))
           clear c154
           exact absurd (Option.some.inj H) (by decide)
          rw [if_neg c154] at H
          have c154b0 : (((rd t803 x16_3) == 1) != true) = false := by simpa using c154
          (try (have c154b1 : decide (((rd t803 x16_3) == 1) = true) = true := by simpa using c154))
          (try (have c154b2 : (((rd t803 x16_3) == 1) == true) = true := by simpa using c154))
          clear c154
          by_cases c157 : (rd t803 x16_3) = 0
          ·rw [if_pos c157] at H
           have c157b0 : ((rd t803 x16_3) == 0) = true := beq_iff_eq.mpr c157
           have c157b1 : ((rd t803 x16_3) != 0) = false := bne_eq_false_iff_eq.mpr c157
           clear c157
           have H' := am H
           clear H
           obtain ⟨Ao158, co158, eo158⟩ := Kd.R_slice HO_15.out
           subst eo158
           try go_wp2
           replace HO_4 := am (Kd.R_drew HO_4.out)
           replace HO_15 := am (Kd.R_drew HO_15.out)
           replace HO_746000 := am (Kd.Q_drew HO_746000.out)
           replace HO_767000 := am (Kd.Q_drew HO_767000.out)
           replace HO_771000 := am (Kd.Q_drew HO_771000.out)
           replace BK745 := bd BK745
           replace BK766 := bd BK766
           replace BK770 := bd BK770
           replace HB := am (below_drew1 HB.out)
           obtain ⟨⟨ad806, e806, hx806_0⟩, p806, q806⟩ := pq (Kd.at_int (Kd.R_reads' HO_15.out).2.2 x16_3)
           cases e806
           obtain ⟨⟨ad807, e807, hx807_0⟩, p807, q807⟩ := pq (Kd.at_int (Kd.R_reads' HO_15.out).2.2 x16_3)
           obtain rfl : ad806 = ad807 := (by injection e807)
           refine start_ (n := 27) (S := fun w' => w'.cell? (ad806.add (x16_3).toNat) = some (.int .i64 (rd t803 x16_3)) ∧ w'.cell? (ad806.add (x16_3).toNat) = some (.int .i64 (rd t803 x16_3))) (ds := []) (yz 27 0) (by kernel_rfl) rfl rfl ⟨hx806_0, hx807_0⟩ (fun hHeld => ?_); refine with_tabW laws_FnSeries.tab24 laws_FnSeries.bits24 (fun HT_ HW_ => ?_)
           generalize wr.drew = w159 at HO_4 HO_15 HO_746000 HO_767000 HO_771000 BK745 BK766 BK770 HB hx806_0 hx807_0 hHeld ⊢
           refine pa 0 (some 120) (yz 27 1) HT_ ?_
           refine pa 1 (some 121) (yz 27 3) HT_ ?_
           refine pa 2 (some 122) (yz 27 7) HT_ ?_
           refine pa 5 (some 125) (yz 27 39) HT_ ?_
           refine pa 6 (some 126) (yz 27 103) HT_ ?_
           refine pa 7 (some 127) (yz 27 231) HT_ ?_
           refine pu 8 (some 128) (yz 27 487) HT_ ?_
           refine pu 9 (some 129) (yz 27 999) HT_ ?_
           refine pu 10 (some 130) (yz 27 2023) HT_ ?_
           refine pa 11 (some 131) (yz 27 4071) HT_ ?_
           refine tk 3 (some 123) (yz 27 4079) HT_ HW_ hHeld ?_
           refine pa 4 (some 124) (yz 27 4095) HT_ ?_
           refine pa 12 (some 132) (yz 27 8191) HT_ ?_
           refine pa 13 (some 133) (yz 27 16383) HT_ ?_
           refine pa 14 (some 134) (yz 27 32767) HT_ ?_
           refine pa 15 (some 135) (yz 27 65535) HT_ ?_
           refine pa 16 (some 136) (yz 27 131071) HT_ ?_
           refine tk 17 (some 137) (yz 27 262143) HT_ HW_ hHeld ?_
           refine pa 18 (some 138) (yz 27 524287) HT_ ?_
           refine pa 19 (some 139) (yz 27 1048575) HT_ ?_
           refine pu 20 (some 140) (yz 27 2097151) HT_ ?_
           refine pu 21 (some 141) (yz 27 4194303) HT_ ?_
           refine pu 22 (some 142) (yz 27 8388607) HT_ ?_
           refine pu 23 (some 143) (yz 27 16777215) HT_ ?_
           refine pu 24 (some 144) (yz 27 33554431) HT_ ?_
           refine pa 25 (some 145) (yz 27 67108863) HT_ ?_
           refine pa 26 (some 146) (yz 27 134217727) HT_ ?_
           refine done_ (done_of HT_.out (by kernel_rfl)) ?_
           try go_wp2
           go_roundg k3
           case measure => have := HJ11.out; have := HK2.out; have := HK3.out; omega
           case rel => exact ⟨(wrap64 (x16_3 + 1)), rr, H', ⟨by have := HJ11.out; have := HK2.out; have := HK3.out; omega⟩, ⟨ro HO_4.out⟩, ⟨ro HO_15.out⟩, ⟨qo HO_746000.out⟩, ⟨qo HO_767000.out⟩, ⟨qo HO_771000.out⟩, ⟨bo BK745.out⟩, ⟨bo BK766.out⟩, ⟨bo BK770.out⟩, ⟨bw⟩⟩
          rw [if_neg c157] at H
          have c157b0 : ((rd t803 x16_3) == 0) = false := beq_eq_false_iff_ne.mpr c157
          have c157b1 : ((rd t803 x16_3) != 0) = true := bne_iff_ne.mpr c157
          by_cases c160 : (rd t803 x16_3) = 1
          ·rw [if_pos c160] at H
           have c160b0 : ((rd t803 x16_3) == 1) = true := beq_iff_eq.mpr c160
           have c160b1 : ((rd t803 x16_3) != 1) = false := bne_eq_false_iff_eq.mpr c160
           clear c160
           have H' := am H
           clear H
           obtain ⟨Ao161, co161, eo161⟩ := Kd.R_slice HO_15.out
           subst eo161
           try go_wp2
           replace HO_4 := am (Kd.R_drew HO_4.out)
           replace HO_15 := am (Kd.R_drew HO_15.out)
           replace HO_746000 := am (Kd.Q_drew HO_746000.out)
           replace HO_767000 := am (Kd.Q_drew HO_767000.out)
           replace HO_771000 := am (Kd.Q_drew HO_771000.out)
           replace BK745 := bd BK745
           replace BK766 := bd BK766
           replace BK770 := bd BK770
           replace HB := am (below_drew1 HB.out)
           obtain ⟨⟨ad806, e806, hx806_0⟩, p806, q806⟩ := pq (Kd.at_int (Kd.R_reads' HO_15.out).2.2 x16_3)
           cases e806
           obtain ⟨⟨ad807, e807, hx807_0⟩, p807, q807⟩ := pq (Kd.at_int (Kd.R_reads' HO_15.out).2.2 x16_3)
           obtain rfl : ad806 = ad807 := (by injection e807)
           obtain ⟨⟨ad808, e808, hx808_0⟩, p808, q808⟩ := pq (Kd.at_int (Kd.R_reads' HO_15.out).2.2 x16_3)
           obtain rfl : ad806 = ad808 := (by injection e808)
           refine start_ (n := 27) (S := fun w' => w'.cell? (ad806.add (x16_3).toNat) = some (.int .i64 (rd t803 x16_3)) ∧ w'.cell? (ad806.add (x16_3).toNat) = some (.int .i64 (rd t803 x16_3)) ∧ w'.cell? (ad806.add (x16_3).toNat) = some (.int .i64 (rd t803 x16_3))) (ds := []) (yz 27 0) (by kernel_rfl) rfl rfl ⟨hx806_0, hx807_0, hx808_0⟩ (fun hHeld => ?_); refine with_tabW laws_FnSeries.tab24 laws_FnSeries.bits24 (fun HT_ HW_ => ?_)
           generalize wr.drew = w162 at HO_4 HO_15 HO_746000 HO_767000 HO_771000 BK745 BK766 BK770 HB hx806_0 hx807_0 hx808_0 hHeld ⊢
           refine pa 0 (some 120) (yz 27 1) HT_ ?_
           refine pa 1 (some 121) (yz 27 3) HT_ ?_
           refine pa 2 (some 122) (yz 27 7) HT_ ?_
           refine pa 5 (some 125) (yz 27 39) HT_ ?_
           refine pa 6 (some 126) (yz 27 103) HT_ ?_
           refine pa 7 (some 127) (yz 27 231) HT_ ?_
           refine pu 8 (some 128) (yz 27 487) HT_ ?_
           refine pu 9 (some 129) (yz 27 999) HT_ ?_
           refine pu 10 (some 130) (yz 27 2023) HT_ ?_
           refine pa 11 (some 131) (yz 27 4071) HT_ ?_
           refine tk 3 (some 123) (yz 27 4079) HT_ HW_ hHeld ?_
           refine pa 4 (some 124) (yz 27 4095) HT_ ?_
           refine pa 12 (some 132) (yz 27 8191) HT_ ?_
           refine pa 13 (some 133) (yz 27 16383) HT_ ?_
           refine pa 14 (some 134) (yz 27 32767) HT_ ?_
           refine pa 15 (some 135) (yz 27 65535) HT_ ?_
           refine pa 16 (some 136) (yz 27 131071) HT_ ?_
           refine tk 17 (some 137) (yz 27 262143) HT_ HW_ hHeld ?_
           refine pa 18 (some 138) (yz 27 524287) HT_ ?_
           refine pa 19 (some 139) (yz 27 1048575) HT_ ?_
           refine pa 20 (some 140) (yz 27 2097151) HT_ ?_
           refine pa 21 (some 141) (yz 27 4194303) HT_ ?_
           refine pa 22 (some 142) (yz 27 8388607) HT_ ?_
           refine tk 23 (some 143) (yz 27 16777215) HT_ HW_ hHeld ?_
           refine pa 24 (some 144) (yz 27 33554431) HT_ ?_
           refine pa 25 (some 145) (yz 27 67108863) HT_ ?_
           refine pa 26 (some 146) (yz 27 134217727) HT_ ?_
           refine done_ (done_of HT_.out (by kernel_rfl)) ?_
           try go_wp2
           go_roundg k3
           case measure => have := HJ11.out; have := HK2.out; have := HK3.out; omega
           case rel => exact ⟨(wrap64 (x16_3 + 1)), rr, H', ⟨by have := HJ11.out; have := HK2.out; have := HK3.out; omega⟩, ⟨ro HO_4.out⟩, ⟨ro HO_15.out⟩, ⟨qo HO_746000.out⟩, ⟨qo HO_767000.out⟩, ⟨qo HO_771000.out⟩, ⟨bo BK745.out⟩, ⟨bo BK766.out⟩, ⟨bo BK770.out⟩, ⟨bw⟩⟩
          rw [if_neg c160] at H
          have c160b0 : ((rd t803 x16_3) == 1) = false := beq_eq_false_iff_ne.mpr c160
          have c160b1 : ((rd t803 x16_3) != 1) = true := bne_iff_ne.mpr c160
          exact absurd (Option.some.inj H) (by decide)
         rw [if_neg c153] at H
         have c153b0 : (x16_3 == 0) = false := beq_eq_false_iff_ne.mpr c153
         have c153b1 : (x16_3 != 0) = true := bne_iff_ne.mpr c153
         replace H := ga H; obtain ⟨t809, A165, H⟩ := H
         by_cases c166 : (((rd t803 x16_3) == 1) != t809) = true
         ·rw [if_pos c166] at H
          have c166b0 : (((rd t803 x16_3) == 1) != t809) = true := c166
          (try (have c166b1 : decide (((rd t803 x16_3) == 1) = t809) = false := by simpa using c166))
          (try (have c166b2 : (((rd t803 x16_3) == 1) == t809) = false := by simpa using c166))
          (try (have c166b3 : ¬ (((rd t803 x16_3) == 1) = t809) := by simpa using c166))
          clear c166
          exact absurd (Option.some.inj H) (by decide)
         rw [if_neg c166] at H
         have c166b0 : (((rd t803 x16_3) == 1) != t809) = false := by simpa using c166
         (try (have c166b1 : decide (((rd t803 x16_3) == 1) = t809) = true := by simpa using c166))
         (try (have c166b2 : (((rd t803 x16_3) == 1) == t809) = true := by simpa using c166))
         clear c166
         by_cases c170 : (rd t803 x16_3) = 0
         ·rw [if_pos c170] at H
          have c170b0 : ((rd t803 x16_3) == 0) = true := beq_iff_eq.mpr c170
          have c170b1 : ((rd t803 x16_3) != 0) = false := bne_eq_false_iff_eq.mpr c170
          clear c170
          have H' := am H
          clear H
          obtain ⟨Ao171, co171, eo171⟩ := Kd.R_slice HO_15.out
          subst eo171
          try go_wp2
          replace HO_4 := am (Kd.R_drew HO_4.out)
          replace HO_15 := am (Kd.R_drew HO_15.out)
          replace HO_746000 := am (Kd.Q_drew HO_746000.out)
          replace HO_767000 := am (Kd.Q_drew HO_767000.out)
          replace HO_771000 := am (Kd.Q_drew HO_771000.out)
          replace BK745 := bd BK745
          replace BK766 := bd BK766
          replace BK770 := bd BK770
          replace HB := am (below_drew1 HB.out)
          obtain ⟨⟨ad806, e806, hx806_0⟩, p806, q806⟩ := pq (Kd.at_int (Kd.R_reads' HO_15.out).2.2 x16_3)
          cases e806
          obtain ⟨⟨ad810, e810, hx810_0⟩, p810, q810⟩ := pq (Kd.at_int (Kd.R_reads' HO_15.out).2.2 x16_3)
          obtain rfl : ad806 = ad810 := (by injection e810)
          refine start_ (n := 27) (S := fun w' => w'.cell? ⟨gb745, 0, none⟩ = some (.slice Ao15 t742.length co15) ∧ w'.cell? (ad806.add (x16_3).toNat) = some (.int .i64 (rd t803 x16_3)) ∧ w'.cell? (ad806.add (x16_3).toNat) = some (.int .i64 (rd t803 x16_3))) (ds := []) (yz 27 0) (by kernel_rfl) rfl rfl ⟨bc BK745 0 _, hx806_0, hx810_0⟩ (fun hHeld => ?_); refine with_tabW laws_FnSeries.tab24 laws_FnSeries.bits24 (fun HT_ HW_ => ?_)
          generalize wr.drew = w172 at HO_4 HO_15 HO_746000 HO_767000 HO_771000 BK745 BK766 BK770 HB hx806_0 hx810_0 hHeld ⊢
          refine pa 0 (some 120) (yz 27 1) HT_ ?_
          refine pa 1 (some 121) (yz 27 3) HT_ ?_
          refine pa 2 (some 122) (yz 27 7) HT_ ?_
          refine pa 5 (some 125) (yz 27 39) HT_ ?_
          refine pa 6 (some 126) (yz 27 103) HT_ ?_
          refine pa 7 (some 127) (yz 27 231) HT_ ?_
          refine pa 9 (some 129) (yz 27 743) HT_ ?_
          refine tk 3 (some 123) (yz 27 751) HT_ HW_ hHeld ?_
          refine pa 4 (some 124) (yz 27 767) HT_ ?_
          refine tk 8 (some 128) (yz 27 1023) HT_ HW_ hHeld ?_
          refine oa 10 (some 130) (yz 27 2047) HT_ (fun K hK => ?_)
          refine gm Try.func27 #[.agg #[.slice Ao15 t742.length co15], .int .i64 x16_3] ?_
          with_reducible refine (spec_Contains.calls k3 _ _ t742 x16_3 t809 _ ?side1 ?side2 A165.out).mono ?_
          (case side1 => exact co (Kd.Q_reads' HO_746000.out).2.2)
          (case side2 => exact (Kd.Q_reads' HO_746000.out).2.1)
          rintro e w173 ⟨rfl, hb⟩
          have HS1_ := (hb.cell (World.block_lt_of_cell? _ _ (hHeld.2.1))).trans (hHeld.2.1)
          have HS2_ := (hb.cell (World.block_lt_of_cell? _ _ (hHeld.2.2))).trans (hHeld.2.2)
          refine ⟨_, rfl, ?_⟩
          replace HO_4 := rK HO_4 hb
          replace HO_15 := rK HO_15 hb
          replace HO_746000 := qK HO_746000 hb
          replace HO_767000 := qK HO_767000 hb
          replace HO_771000 := qK HO_771000 hb
          replace BK745 := kb BK745 hb
          replace BK766 := kb BK766 hb
          replace BK770 := kb BK770 hb
          replace HB := am (below_step bw hb)
          clear hb
          refine hK.out _ _ ⟨bc BK745 0 _, HS1_, HS2_⟩ (fun hHeld => ?_)
          clear hK K
          refine nm (some 130) ?_
          refine pa 11 (some 131) (yz 27 4095) HT_ ?_
          refine pa 12 (some 132) (yz 27 8191) HT_ ?_
          refine pa 13 (some 133) (yz 27 16383) HT_ ?_
          refine pa 14 (some 134) (yz 27 32767) HT_ ?_
          refine pa 15 (some 135) (yz 27 65535) HT_ ?_
          refine pa 16 (some 136) (yz 27 131071) HT_ ?_
          refine tk 17 (some 137) (yz 27 262143) HT_ HW_ hHeld ?_
          refine pa 18 (some 138) (yz 27 524287) HT_ ?_
          refine pa 19 (some 139) (yz 27 1048575) HT_ ?_
          refine pu 20 (some 140) (yz 27 2097151) HT_ ?_
          refine pu 21 (some 141) (yz 27 4194303) HT_ ?_
          refine pu 22 (some 142) (yz 27 8388607) HT_ ?_
          refine pu 23 (some 143) (yz 27 16777215) HT_ ?_
          refine pu 24 (some 144) (yz 27 33554431) HT_ ?_
          refine pa 25 (some 145) (yz 27 67108863) HT_ ?_
          refine pa 26 (some 146) (yz 27 134217727) HT_ ?_
          refine done_ (done_of HT_.out (by kernel_rfl)) ?_
          try go_wp2
          go_roundg k3
          case measure => have := HJ11.out; have := HK2.out; have := HK3.out; omega
          case rel => exact ⟨(wrap64 (x16_3 + 1)), rr, H', ⟨by have := HJ11.out; have := HK2.out; have := HK3.out; omega⟩, ⟨ro HO_4.out⟩, ⟨ro HO_15.out⟩, ⟨qo HO_746000.out⟩, ⟨qo HO_767000.out⟩, ⟨qo HO_771000.out⟩, ⟨bo BK745.out⟩, ⟨bo BK766.out⟩, ⟨bo BK770.out⟩, ⟨bw⟩⟩
         rw [if_neg c170] at H
         have c170b0 : ((rd t803 x16_3) == 0) = false := beq_eq_false_iff_ne.mpr c170
         have c170b1 : ((rd t803 x16_3) != 0) = true := bne_iff_ne.mpr c170
         by_cases c174 : (rd t803 x16_3) = 1
         ·rw [if_pos c174] at H
          have c174b0 : ((rd t803 x16_3) == 1) = true := beq_iff_eq.mpr c174
          have c174b1 : ((rd t803 x16_3) != 1) = false := bne_eq_false_iff_eq.mpr c174
          have hn174_ : (!t809) = false := by have h_ := c166b0; rw [c174b0] at h_; simpa using h_
          clear c174
          have H' := am H
          clear H
          obtain ⟨Ao175, co175, eo175⟩ := Kd.R_slice HO_15.out
          subst eo175
          try go_wp2
          replace HO_4 := am (Kd.R_drew HO_4.out)
          replace HO_15 := am (Kd.R_drew HO_15.out)
          replace HO_746000 := am (Kd.Q_drew HO_746000.out)
          replace HO_767000 := am (Kd.Q_drew HO_767000.out)
          replace HO_771000 := am (Kd.Q_drew HO_771000.out)
          replace BK745 := bd BK745
          replace BK766 := bd BK766
          replace BK770 := bd BK770
          replace HB := am (below_drew1 HB.out)
          obtain ⟨⟨ad806, e806, hx806_0⟩, p806, q806⟩ := pq (Kd.at_int (Kd.R_reads' HO_15.out).2.2 x16_3)
          cases e806
          obtain ⟨⟨ad810, e810, hx810_0⟩, p810, q810⟩ := pq (Kd.at_int (Kd.R_reads' HO_15.out).2.2 x16_3)
          obtain rfl : ad806 = ad810 := (by injection e810)
          obtain ⟨⟨ad811, e811, hx811_0⟩, p811, q811⟩ := pq (Kd.at_int (Kd.R_reads' HO_15.out).2.2 x16_3)
          obtain rfl : ad806 = ad811 := (by injection e811)
          refine start_ (n := 27) (S := fun w' => w'.cell? ⟨gb745, 0, none⟩ = some (.slice Ao15 t742.length co15) ∧ w'.cell? (ad806.add (x16_3).toNat) = some (.int .i64 (rd t803 x16_3)) ∧ w'.cell? (ad806.add (x16_3).toNat) = some (.int .i64 (rd t803 x16_3)) ∧ w'.cell? (ad806.add (x16_3).toNat) = some (.int .i64 (rd t803 x16_3))) (ds := []) (yz 27 0) (by kernel_rfl) rfl rfl ⟨bc BK745 0 _, hx806_0, hx810_0, hx811_0⟩ (fun hHeld => ?_); refine with_tabW laws_FnSeries.tab24 laws_FnSeries.bits24 (fun HT_ HW_ => ?_)
          generalize wr.drew = w176 at HO_4 HO_15 HO_746000 HO_767000 HO_771000 BK745 BK766 BK770 HB hx806_0 hx810_0 hx811_0 hHeld ⊢
          refine pa 0 (some 120) (yz 27 1) HT_ ?_
          refine pa 1 (some 121) (yz 27 3) HT_ ?_
          refine pa 2 (some 122) (yz 27 7) HT_ ?_
          refine pa 5 (some 125) (yz 27 39) HT_ ?_
          refine pa 6 (some 126) (yz 27 103) HT_ ?_
          refine pa 7 (some 127) (yz 27 231) HT_ ?_
          refine pa 9 (some 129) (yz 27 743) HT_ ?_
          refine tk 3 (some 123) (yz 27 751) HT_ HW_ hHeld ?_
          refine pa 4 (some 124) (yz 27 767) HT_ ?_
          refine tk 8 (some 128) (yz 27 1023) HT_ HW_ hHeld ?_
          refine oa 10 (some 130) (yz 27 2047) HT_ (fun K hK => ?_)
          refine gm Try.func27 #[.agg #[.slice Ao15 t742.length co15], .int .i64 x16_3] ?_
          with_reducible refine (spec_Contains.calls k3 _ _ t742 x16_3 t809 _ ?side1 ?side2 A165.out).mono ?_
          (case side1 => exact co (Kd.Q_reads' HO_746000.out).2.2)
          (case side2 => exact (Kd.Q_reads' HO_746000.out).2.1)
          rintro e w177 ⟨rfl, hb⟩
          have HS1_ := (hb.cell (World.block_lt_of_cell? _ _ (hHeld.2.1))).trans (hHeld.2.1)
          have HS2_ := (hb.cell (World.block_lt_of_cell? _ _ (hHeld.2.2.1))).trans (hHeld.2.2.1)
          have HS3_ := (hb.cell (World.block_lt_of_cell? _ _ (hHeld.2.2.2))).trans (hHeld.2.2.2)
          refine ⟨_, rfl, ?_⟩
          replace HO_4 := rK HO_4 hb
          replace HO_15 := rK HO_15 hb
          replace HO_746000 := qK HO_746000 hb
          replace HO_767000 := qK HO_767000 hb
          replace HO_771000 := qK HO_771000 hb
          replace BK745 := kb BK745 hb
          replace BK766 := kb BK766 hb
          replace BK770 := kb BK770 hb
          replace HB := am (below_step bw hb)
          clear hb
          refine hK.out _ _ ⟨bc BK745 0 _, HS1_, HS2_, HS3_⟩ (fun hHeld => ?_)
          clear hK K
          refine nm (some 130) ?_
          refine pa 11 (some 131) (yz 27 4095) HT_ ?_
          refine pa 12 (some 132) (yz 27 8191) HT_ ?_
          refine pa 13 (some 133) (yz 27 16383) HT_ ?_
          refine pa 14 (some 134) (yz 27 32767) HT_ ?_
          refine pa 15 (some 135) (yz 27 65535) HT_ ?_
          refine pa 16 (some 136) (yz 27 131071) HT_ ?_
          refine tk 17 (some 137) (yz 27 262143) HT_ HW_ hHeld ?_
          refine pa 18 (some 138) (yz 27 524287) HT_ ?_
          refine pa 19 (some 139) (yz 27 1048575) HT_ ?_
          refine pa 20 (some 140) (yz 27 2097151) HT_ ?_
          refine pa 21 (some 141) (yz 27 4194303) HT_ ?_
          refine pa 22 (some 142) (yz 27 8388607) HT_ ?_
          refine tk 23 (some 143) (yz 27 16777215) HT_ HW_ hHeld ?_
          refine pa 24 (some 144) (yz 27 33554431) HT_ ?_
          refine pa 25 (some 145) (yz 27 67108863) HT_ ?_
          refine pa 26 (some 146) (yz 27 134217727) HT_ ?_
          refine done_ (done_of HT_.out (by kernel_rfl)) ?_
          try go_wp2
          go_roundg k3
          case measure => have := HJ11.out; have := HK2.out; have := HK3.out; omega
          case rel => exact ⟨(wrap64 (x16_3 + 1)), rr, H', ⟨by have := HJ11.out; have := HK2.out; have := HK3.out; omega⟩, ⟨ro HO_4.out⟩, ⟨ro HO_15.out⟩, ⟨qo HO_746000.out⟩, ⟨qo HO_767000.out⟩, ⟨qo HO_771000.out⟩, ⟨bo BK745.out⟩, ⟨bo BK766.out⟩, ⟨bo BK770.out⟩, ⟨bw⟩⟩
         rw [if_neg c174] at H
         have c174b0 : ((rd t803 x16_3) == 1) = false := beq_eq_false_iff_ne.mpr c174
         have c174b1 : ((rd t803 x16_3) != 1) = true := bne_iff_ne.mpr c174
         exact absurd (Option.some.inj H) (by decide)
        replace H := ga H; obtain ⟨t812, A181, H⟩ := H
        replace H := ga H; obtain ⟨t813, A182, H⟩ := H
        have HRE_ := Option.some.inj H
        obtain ⟨Ao183, co183, eo183⟩ := Kd.R_slice HO_15.out
        subst eo183
        try go_wp2
        replace HO_4 := am (Kd.R_drew HO_4.out)
        replace HO_15 := am (Kd.R_drew HO_15.out)
        replace HO_746000 := am (Kd.Q_drew HO_746000.out)
        replace HO_767000 := am (Kd.Q_drew HO_767000.out)
        replace HO_771000 := am (Kd.Q_drew HO_771000.out)
        replace BK745 := bd BK745
        replace BK766 := bd BK766
        replace BK770 := bd BK770
        replace HB := am (below_drew1 HB.out)
        refine start_ (n := 6) (S := fun w' => w'.cell? ⟨gb745, 0, none⟩ = some (.slice Ao15 t742.length co15)) (ds := []) (yz 6 0) (by kernel_rfl) rfl rfl (bc BK745 0 _) (fun hHeld => ?_)
        generalize wr.drew = w184 at HO_4 HO_15 HO_746000 HO_767000 HO_771000 BK745 BK766 BK770 HB hHeld ⊢
        refine pure_ (i := 0) (N := some 147) (v := ?_) (a' := ?_) (yz 6 1) rfl rfl (by kernel_rfl) (fun _ _ _ h => h) (Or.inl ⟨by rfl, ?_⟩) ?_ ?_
        rotate_left
        ·intro w'
         go_simp
         with_reducible rfl
        rotate_left
        ·simp only [Act.put, qa, qb, qc, i64_w, i32_w]
         rfl
        refine tQ 2 (some 149) (yz 6 5) hHeld ?_
        refine one_ (i := 1) (N := some 148) (yz 6 7) rfl rfl (by kernel_rfl) (by decide) (fun K hK => ?_)
        refine gm Try.func19 #[.slice Ao149 t746.length co149] ?_
        with_reducible refine (impl_IsPalindrome.calls k3 _ _ t746 t812 _ ?side1 ?side2 A181.out).mono ?_
        (case side1 => exact co (Kd.R_reads' HO_4.out).2.2)
        (case side2 => exact (Kd.R_reads' HO_4.out).2.1)
        rintro e w' ⟨rfl, ⟨nd, rfl⟩⟩
        refine ⟨_, rfl, ?_⟩
        refine hK.out _ _ (bc BK745 0 _) (fun hHeld => ?_)
        clear hK K
        refine nm (some 148) ?_
        refine one_ (i := 3) (N := some 150) (yz 6 15) rfl rfl (by kernel_rfl) (by decide) (fun K hK => ?_)
        refine gm Try.func28 #[.agg #[.slice Ao15 t742.length co15]] ?_
        with_reducible refine (spec_IsSymmetric.calls k3 _ _ t742 t813 _ ?side1 ?side2 A182.out).mono ?_
        (case side1 => exact co (Kd.Q_reads' HO_746000.out).2.2)
        (case side2 => exact (Kd.Q_reads' HO_746000.out).2.1)
        rintro e w185 ⟨rfl, hb⟩
        refine ⟨_, rfl, ?_⟩
        replace HO_4 := rK HO_4 hb
        replace HO_15 := rK HO_15 hb
        replace HO_746000 := qK HO_746000 hb
        replace HO_767000 := qK HO_767000 hb
        replace HO_771000 := qK HO_771000 hb
        replace BK745 := kb BK745 hb
        replace BK766 := kb BK766 hb
        replace BK770 := kb BK770 hb
        replace HB := am (below_step bw hb)
        clear hb
        refine hK.out _ _ (bc BK745 0 _) (fun hHeld => ?_)
        clear hK K
        refine nm (some 150) ?_
        refine pure_ (i := 4) (N := some 151) (v := ?_) (a' := ?_) (yz 6 31) rfl rfl (by kernel_rfl) (fun _ _ _ h => h) (Or.inl ⟨by rfl, ?_⟩) ?_ ?_
        rotate_left
        ·intro w'
         go_simp
         with_reducible rfl
        rotate_left
        ·simp only [Act.put, qa, qb, qc, i64_w, i32_w]
         rfl
        refine pure_ (i := 5) (N := some 2) (v := ?_) (a' := ?_) (yz 6 63) rfl rfl (by kernel_rfl) (fun _ _ _ h => h) (Or.inl ⟨by rfl, ?_⟩) ?_ ?_
        rotate_left
        ·intro w'
         go_simp
         with_reducible rfl
        rotate_left
        ·simp only [Act.put, qa, qb, qc, i64_w, i32_w]
         rfl
        refine done_ (by kernel_rfl) ?_
        try go_wp2
        go_ret
        exact ⟨re, bw⟩
     have HRE_ := Option.some.inj H
     obtain ⟨Ao186, co186, eo186⟩ := Kd.Z_slice HO_13.out
     subst eo186
     have hnb187 := NB745_766.out
     have hnc187 := NB766_745.out
     have hnb188 := NB745_770.out
     have hnc188 := NB770_745.out
     have hcz189_0 := bc BK745 0 (.slice Ao15 t742.length co15)
     have hfz189_0 := blk_frozen BK745.out 0
     go_wp2_with (first | ((with_reducible refine gate_callee (f := 26) rfl ?_); refine gl (some 107) Try.func26 #[.agg #[.slice Ao15 t742.length co15]] ?_; (with_reducible refine (spec_IsSemigroup.calls k2 _ _ t742 false _ ?side1 ?side2 A141.out).mono ?_); (case side1 => exact co (Kd.Q_reads' HO_746000.out).2.2); (case side2 => exact (Kd.Q_reads' HO_746000.out).2.1); rintro e w190 ⟨rfl, hb⟩; refine ⟨_, rfl, ?_⟩; replace HO_4 := rK HO_4 hb; replace HO_13 := am (Kd.Z_below (by (with_reducible repeat (first | apply Kd.Z_alloc | apply Kd.Z_drewN | apply Kd.Z_drew)); exact HO_13.out) hb); replace HO_746000 := qK HO_746000 hb; replace HO_767000 := qK HO_767000 hb; replace HO_771000 := qK HO_771000 hb; replace BK745 := kb BK745 hb; replace BK766 := kb BK766 hb; replace BK770 := kb BK770 hb; replace HB := am (below_step bw hb); clear hb; obtain ⟨Ao191, co191, eo191⟩ := Kd.R_slice HO_4.out; subst eo191))
     go_ret
     exact ⟨re, bw⟩

/-- THE ONE PURE STATEMENT of laws_FnSeries: yours. -/
def laws_FnSeries.Pure : Prop := ∀ (l0 : List Int), l0.length ≤ maxLen → l0.length * 1 ≤ 140737488351232 → (∀ x ∈ l0, (Lit.int .u8 x).wf = true) → ∃ k, laws_FnSeries.f k l0 = some true
end Go.Proofs.Ytbbehmbpoilffaa.C
