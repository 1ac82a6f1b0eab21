/- Contracts of functions of the program: laws_FnIdeals. -/
import Derived.Test.YtkfplkdchkmgbaaGreatC0
import Derived.Test.YtkfplkdchkmgbaaGreatC1
import Derived.Test.YtkfplkdchkmgbaaGreatC3
import Derived.Test.YtkfplkdchkmgbaaGreatC6
import Derived.Test.YtkfplkdchkmgbaaGreatC9
import Derived.Test.YtkfplkdchkmgbaaGreatC10
import Derived.Test.YtkfplkdchkmgbaaGreatC11
import Derived.Test.YtkfplkdchkmgbaaGreatC12
import Derived.Test.YtkfplkdchkmgbaaGreatC13
namespace Go.Proofs.YtkfplkdchkmgbaaGreat.C
open Go.RowKit Go.Proofs.YtkfplkdchkmgbaaGreatW.PrintWords Go.Proofs.YtkfplkdchkmgbaaGreatW.PrintLast Go.Proofs.YtkfplkdchkmgbaaGreatW.PrintMore
attribute [local go_sem] max2_int min2_int max_two min_two max_three min_three max_four min_four
set_option linter.unusedVariables false
set_option linter.unusedSimpArgs false

/-! ### laws_FnIdeals: function 3 -/
mutual
def laws_FnIdeals.j0 : Nat → Int → Bool → List Int → List Int → List Int → List Int → Bool → List Int → List Int → List Int → Option (Bool)
 | 0, _, _, _, _, _, _, _, _, _, _ => none
 | k + 1, x5, x6, x7, x12, x13, x15, x106, x890000, x911000, x918000 => if x106 = true then (some false) else (if (x7.length : Int) > 0 then ((impl_InIdeal.f k x890000 x7 x5).bind fun t948 => (laws_FnIdeals.j1 k x12 x13 x15 (x6 != t948) x911000 x918000)) else (laws_FnIdeals.j1 k x12 x13 x15 false x911000 x918000))
def laws_FnIdeals.j1 : Nat → List Int → List Int → List Int → Bool → List Int → List Int → Option (Bool)
 | 0, _, _, _, _, _, _ => none
 | k + 1, x12, x13, x15, x117, x911000, x918000 => if x117 = true then (some false) else (laws_FnIdeals.l0 k x12 x13 x15 (-30) x911000 x918000)
def laws_FnIdeals.l0 : Nat → List Int → List Int → List Int → Int → List Int → List Int → Option (Bool)
 | 0, _, _, _, _, _, _ => none
 | k + 1, x12, x13, x15, x16, x911000, x918000 => if x16 ≤ 60 then (if (x13.length : Int) > 0 then (if (x13.length : Int) ≤ 20 then (if 0 < (x13.length : Int) then (if (rd x13 0) ≥ (-200) then (if 0 ≤ (wrap64 ((x13.length : Int) - 1)) then (if (wrap64 ((x13.length : Int) - 1)) < (x13.length : Int) then (laws_FnIdeals.j3 k x12 x13 x15 x16 (decide ((rd x13 (wrap64 ((x13.length : Int) - 1))) ≤ 200)) x911000 x918000) else (none)) else (none)) else (laws_FnIdeals.j3 k x12 x13 x15 x16 false x911000 x918000)) else (none)) else (laws_FnIdeals.j3 k x12 x13 x15 x16 false x911000 x918000)) else (laws_FnIdeals.j3 k x12 x13 x15 x16 false x911000 x918000)) else (laws_FnIdeals.j3 k x12 x13 x15 x16 false x911000 x918000)
def laws_FnIdeals.j3 : Nat → List Int → List Int → List Int → Int → Bool → List Int → List Int → Option (Bool)
 | 0, _, _, _, _, _, _, _ => none
 | k + 1, x12, x13, x15, x16, x144, x911000, x918000 => if x144 = true then (laws_FnIdeals.l1 k x12 x13 x15 x16 true 0 x911000 x918000) else ((spec_IsSemigroup.f k x918000).bind fun t957 => (if t957 = true then ((spec_FrobeniusOf.f k x918000).bind fun t958 => (laws_FnIdeals.l2 k x15 t958 (-5) x918000)) else (some ((x15.length : Int) == 0))))
def laws_FnIdeals.l1 : Nat → List Int → List Int → List Int → Int → Bool → Int → List Int → List Int → Option (Bool)
 | 0, _, _, _, _, _, _, _, _ => none
 | k + 1, x12, x13, x15, x16, x17, x18, x911000, x918000 => if x18 < (x12.length : Int) then (if x17 = true then (if 0 ≤ x18 then ((impl_InIdeal.f k x911000 (([0] : List Int)) (wrap64 (x16 + (rd x12 x18)))).bind fun t955 => (laws_FnIdeals.l1 k x12 x13 x15 x16 t955 (wrap64 (x18 + 1)) x911000 x918000)) else (none)) else (laws_FnIdeals.l1 k x12 x13 x15 x16 false (wrap64 (x18 + 1)) x911000 x918000)) else ((impl_InIdeal.f k x911000 x13 x16).bind fun t956 => (if (x17 != t956) = true then (some false) else (laws_FnIdeals.l0 k x12 x13 x15 (wrap64 (x16 + 7)) x911000 x918000)))
def laws_FnIdeals.l2 : Nat → List Int → Int → Int → List Int → Option (Bool)
 | 0, _, _, _, _ => none
 | k + 1, x15, x19, x20, x918000 => if x20 ≤ (wrap64 (x19 + 5)) then (laws_FnIdeals.j6 k x15 x19 x20 (decide ((x15.length : Int) ≤ 20)) x918000) else (laws_FnIdeals.j6 k x15 x19 x20 false x918000)
def laws_FnIdeals.j6 : Nat → List Int → Int → Int → Bool → List Int → Option (Bool)
 | 0, _, _, _, _, _ => none
 | k + 1, x15, x19, x20, x187, x918000 => if x187 = true then ((impl_InIdeal.f k x918000 x15 x20).bind fun t960 => (if (wrap64 (x19 - x20)) ≥ 0 then ((spec_Contains.f k x918000 (wrap64 (x19 - x20))).bind fun t961 => (if (t960 == t961) = true then (some false) else (laws_FnIdeals.l2 k x15 x19 (wrap64 (x20 + 1)) x918000))) else (if (t960 == false) = true then (some false) else (laws_FnIdeals.l2 k x15 x19 (wrap64 (x20 + 1)) x918000)))) else ((spec_IsSymmetric.f k x918000).bind fun t959 => (some (((x15.length : Int) == 1) == t959)))
end
def laws_FnIdeals.f (k : Nat) (l0 : List Int) : Option (Bool) := (laws_big.f l0).bind fun t881 => (if t881 = true then (some true) else ((spec_DrawInIdeal.f k l0).bind fun bt882 => ((impl_InIdeal.f k bt882.1 bt882.2.1 bt882.2.2).bind fun t890 => ((impl_IdealGens.f k bt882.1 bt882.2.1).bind fun t891 => ((spec_DrawIdealSum.f k l0).bind fun bt894 => ((spec_DrawDualGens.f k l0).bind fun bt904 => ((impl_DualGens.f k bt904.1 bt904.2).bind fun t911 => ((spec_DrawCanonicalGens.f k l0).bind fun t914 => ((impl_CanonicalGens.f k t914).bind fun t918 => ((spec_InIdeal.f k bt882.1 bt882.2.1 bt882.2.2).bind fun t921 => (if (t890 != t921) = true then (laws_FnIdeals.j0 k bt882.2.2 t890 t891 bt904.2 t911 t918 true bt882.1 bt904.1 t914) else ((spec_IdealGens.f k bt882.1 bt882.2.1).bind fun t922 => ((laws_sameInts.f k t891 t922).bind fun t925 => (if t925 = true then ((impl_IdealSum.f k bt894.1 bt894.2.1 bt894.2.2).bind fun t926 => ((spec_IdealSum.f k bt894.1 bt894.2.1 bt894.2.2).bind fun t929 => ((laws_sameInts.f k t926 t929).bind fun t932 => (if t932 = true then ((impl_IdealSum.f k bt894.1 bt894.2.1 bt894.2.2).bind fun t933 => ((impl_IdealSum.f k bt894.1 bt894.2.2 bt894.2.1).bind fun t936 => ((laws_sameInts.f k t933 t936).bind fun t939 => (if t939 = true then ((spec_DualGens.f k bt904.1 bt904.2).bind fun t940 => ((laws_sameInts.f k t911 t940).bind fun t943 => (if t943 = true then ((spec_CanonicalGens.f k t914).bind fun t944 => ((laws_sameInts.f k t918 t944).bind fun t947 => (laws_FnIdeals.j0 k bt882.2.2 t890 t891 bt904.2 t911 t918 (!t947) bt882.1 bt904.1 t914))) else (laws_FnIdeals.j0 k bt882.2.2 t890 t891 bt904.2 t911 t918 true bt882.1 bt904.1 t914)))) else (laws_FnIdeals.j0 k bt882.2.2 t890 t891 bt904.2 t911 t918 true bt882.1 bt904.1 t914))))) else (laws_FnIdeals.j0 k bt882.2.2 t890 t891 bt904.2 t911 t918 true bt882.1 bt904.1 t914))))) else (laws_FnIdeals.j0 k bt882.2.2 t890 t891 bt904.2 t911 t918 true bt882.1 bt904.1 t914)))))))))))))))
def laws_FnIdeals.T11 : Bool × List (List Nat × List Nat) := (true, [([], []), ([], []), ([], []), ([], []), ([1, 2, 3], [1, 2, 3]), ([0, 4], [0, 4]), ([5, 4], [5]), ([6], [6]), ([6], [6]), ([6], [6]), ([8, 9, 6, 6], [6, 8, 9]), ([7, 10, 10, 6], [6, 7, 10]), ([11, 6], [6, 11]), ([6, 12], [6, 12]), ([13, 11], [13]), ([14], [14]), ([14], [14]), ([14], [14]), ([15, 16, 17, 14, 14], [14, 15, 16, 17]), ([14], [14]), ([14], [14]), ([14], [14]), ([19, 20, 21, 18, 14], [14, 19, 20, 21]), ([18, 22, 22, 14], [14, 18, 22]), ([23, 14], [14, 23]), ([14, 24], [14, 24]), ([25, 23], [25]), ([26], [26]), ([26], [26]), ([26], [26]), ([27, 28, 29, 26, 26], [26, 27, 28, 29]), ([26], [26]), ([26], [26]), ([26], [26]), ([31, 32, 33, 30, 26], [26, 31, 32, 33]), ([30, 34, 34, 26], [26, 30, 34]), ([35, 26], [26, 35]), ([26, 36], [26, 36]), ([37, 35], [37]), ([38], [38]), ([38], [38]), ([38], [38]), ([40, 41, 38, 38], [38, 40, 41]), ([39, 42, 42, 38], [38, 39, 42]), ([43, 38], [38, 43]), ([38, 44], [38, 44]), ([45, 43], [45]), ([46], [46]), ([46], [46]), ([48, 46, 46], [46, 48]), ([47, 49, 49, 46], [46, 47, 49]), ([50, 46], [46, 50]), ([46, 51], [46, 51])])
def laws_FnIdeals.B11 : List Nat := [0, 0, 0, 0, 14, 31, 63, 127, 127, 127, 895, 2047, 4095, 8191, 16383, 32767, 32767, 32767, 262143, 32767, 32767, 32767, 4194303, 8388607, 16777215, 33554431, 67108863, 134217727, 134217727, 134217727, 1073741823, 134217727, 134217727, 134217727, 17179869183, 34359738367, 68719476735, 137438953471, 274877906943, 549755813887, 549755813887, 549755813887, 3848290697215, 8796093022207, 17592186044415, 35184372088831, 70368744177663, 140737488355327, 140737488355327, 422212465065983, 1125899906842623, 2251799813685247, 4503599627370495]
theorem laws_FnIdeals.tab11 : rtab .any (opsOf Tryz.f3 11) = laws_FnIdeals.T11 := by kernel_rfl
theorem laws_FnIdeals.bits11 : waitsOk laws_FnIdeals.T11.2 laws_FnIdeals.B11 = true := by kernel_rfl
def laws_FnIdeals.T22 : Bool × List (List Nat × List Nat) := (true, [([], []), ([0], [0]), ([1], [1]), ([1], [1]), ([1], [1]), ([1], [1]), ([1], [1]), ([5, 6, 1], [1, 5, 6]), ([7, 1], [1, 7]), ([4, 8, 1], [1, 4, 8]), ([2, 3, 9, 1, 1], [1, 2, 3, 9]), ([1, 10], [1, 10]), ([11, 10, 0, 1, 2, 3, 4, 5, 6, 7, 8, 9, 10, 11], [0, 11])])
def laws_FnIdeals.B22 : List Nat := [0, 1, 3, 3, 3, 3, 3, 99, 227, 499, 1023, 2047, 4095]
theorem laws_FnIdeals.tab22 : rtab .any (opsOf Tryz.f3 22) = laws_FnIdeals.T22 := by kernel_rfl
theorem laws_FnIdeals.bits22 : waitsOk laws_FnIdeals.T22.2 laws_FnIdeals.B22 = true := by kernel_rfl
theorem laws_FnIdeals.j0_no {k : Nat} : ∀ {a0} {a1} {a2} {a3} {a4} {a5} {a7} {a8} {a9}, laws_FnIdeals.j0 k a0 a1 a2 a3 a4 a5 true a7 a8 a9 ≠ some true := by
 intros
 cases k <;> simp [laws_FnIdeals.j0]
theorem laws_FnIdeals.j1_no {k : Nat} : ∀ {a0} {a1} {a2} {a4} {a5}, laws_FnIdeals.j1 k a0 a1 a2 true a4 a5 ≠ some true := by
 intros
 cases k <;> simp [laws_FnIdeals.j1]
set_option maxHeartbeats 8000000 in
set_option maxRecDepth 100000 in
theorem laws_FnIdeals.calls (k : Nat) (A0 : Option Addr) (c0 : Nat) (l0 : List Int) (w : World) (hr0 : Kd.C (Kd.int .u8) w A0 l0.length l0) (hc0 : l0.length ≤ c0) (h : laws_FnIdeals.f k l0 = some true) :
  Calls Tryz.prog 3 #[.slice A0 l0.length c0] w fun e w' => e = .returned (.bool true) ∧ Below w.heap.size w w' := by
 have hu26 := Tryz.underlying26
 have HR0 := am hr0
 have HC0 := am hc0
 clear hr0 hc0
 have HB := am (Below.refl w.heap.size w)
 have H : ((laws_big.f l0).bind fun t881 => (if t881 = true then (some true) else ((spec_DrawInIdeal.f k l0).bind fun bt882 => ((impl_InIdeal.f k bt882.1 bt882.2.1 bt882.2.2).bind fun t890 => ((impl_IdealGens.f k bt882.1 bt882.2.1).bind fun t891 => ((spec_DrawIdealSum.f k l0).bind fun bt894 => ((spec_DrawDualGens.f k l0).bind fun bt904 => ((impl_DualGens.f k bt904.1 bt904.2).bind fun t911 => ((spec_DrawCanonicalGens.f k l0).bind fun t914 => ((impl_CanonicalGens.f k t914).bind fun t918 => ((spec_InIdeal.f k bt882.1 bt882.2.1 bt882.2.2).bind fun t921 => (if (t890 != t921) = true then (laws_FnIdeals.j0 k bt882.2.2 t890 t891 bt904.2 t911 t918 true bt882.1 bt904.1 t914) else ((spec_IdealGens.f k bt882.1 bt882.2.1).bind fun t922 => ((laws_sameInts.f k t891 t922).bind fun t925 => (if t925 = true then ((impl_IdealSum.f k bt894.1 bt894.2.1 bt894.2.2).bind fun t926 => ((spec_IdealSum.f k bt894.1 bt894.2.1 bt894.2.2).bind fun t929 => ((laws_sameInts.f k t926 t929).bind fun t932 => (if t932 = true then ((impl_IdealSum.f k bt894.1 bt894.2.1 bt894.2.2).bind fun t933 => ((impl_IdealSum.f k bt894.1 bt894.2.2 bt894.2.1).bind fun t936 => ((laws_sameInts.f k t933 t936).bind fun t939 => (if t939 = true then ((spec_DualGens.f k bt904.1 bt904.2).bind fun t940 => ((laws_sameInts.f k t911 t940).bind fun t943 => (if t943 = true then ((spec_CanonicalGens.f k t914).bind fun t944 => ((laws_sameInts.f k t918 t944).bind fun t947 => (laws_FnIdeals.j0 k bt882.2.2 t890 t891 bt904.2 t911 t918 (!t947) bt882.1 bt904.1 t914))) else (laws_FnIdeals.j0 k bt882.2.2 t890 t891 bt904.2 t911 t918 true bt882.1 bt904.1 t914)))) else (laws_FnIdeals.j0 k bt882.2.2 t890 t891 bt904.2 t911 t918 true bt882.1 bt904.1 t914))))) else (laws_FnIdeals.j0 k bt882.2.2 t890 t891 bt904.2 t911 t918 true bt882.1 bt904.1 t914))))) else (laws_FnIdeals.j0 k bt882.2.2 t890 t891 bt904.2 t911 t918 true bt882.1 bt904.1 t914)))))))))))))))) = some true := h
 clear h
 replace H := ga H; obtain ⟨t881, A2, H⟩ := H
 by_cases c3 : t881 = true
 ·subst c3
  have H1 : (some true) = some true := rfl
  clear H
  have H := H1
  clear H1
  skip
  go_enter Tryz.func3, Tryz.ntmps3
  go_wp2_with (first | ((with_reducible refine gate_callee (f := 5) rfl ?_); refine goesL_ (some 22) rfl rfl Tryz.func5 (by kernel_rfl) rfl #[.slice A0 l0.length c0] rfl (by (try simp only [List.map_toArray, List.map_cons, List.map_nil]); first | done | rfl | (simp only [List.length_drop, List.length_take]; rfl)) ?_; (with_reducible refine (laws_big.calls _ _ l0 true _ ?side1 ?side2 A2.out).mono ?_); (case side1 => exact co HR0.out); (case side2 => exact HC0.out); rintro e w' ⟨rfl, ⟨nd, rfl⟩⟩; refine ⟨_, rfl, ?_⟩))
  go_ret
  exact ⟨re, bw⟩
 replace c3 := Bool.eq_false_iff.mpr c3
 subst c3
 have H1 : ((spec_DrawInIdeal.f k l0).bind fun bt882 => ((impl_InIdeal.f k bt882.1 bt882.2.1 bt882.2.2).bind fun t890 => ((impl_IdealGens.f k bt882.1 bt882.2.1).bind fun t891 => ((spec_DrawIdealSum.f k l0).bind fun bt894 => ((spec_DrawDualGens.f k l0).bind fun bt904 => ((impl_DualGens.f k bt904.1 bt904.2).bind fun t911 => ((spec_DrawCanonicalGens.f k l0).bind fun t914 => ((impl_CanonicalGens.f k t914).bind fun t918 => ((spec_InIdeal.f k bt882.1 bt882.2.1 bt882.2.2).bind fun t921 => (if (t890 != t921) = true then (laws_FnIdeals.j0 k bt882.2.2 t890 t891 bt904.2 t911 t918 true bt882.1 bt904.1 t914) else ((spec_IdealGens.f k bt882.1 bt882.2.1).bind fun t922 => ((laws_sameInts.f k t891 t922).bind fun t925 => (if t925 = true then ((impl_IdealSum.f k bt894.1 bt894.2.1 bt894.2.2).bind fun t926 => ((spec_IdealSum.f k bt894.1 bt894.2.1 bt894.2.2).bind fun t929 => ((laws_sameInts.f k t926 t929).bind fun t932 => (if t932 = true then ((impl_IdealSum.f k bt894.1 bt894.2.1 bt894.2.2).bind fun t933 => ((impl_IdealSum.f k bt894.1 bt894.2.2 bt894.2.1).bind fun t936 => ((laws_sameInts.f k t933 t936).bind fun t939 => (if t939 = true then ((spec_DualGens.f k bt904.1 bt904.2).bind fun t940 => ((laws_sameInts.f k t911 t940).bind fun t943 => (if t943 = true then ((spec_CanonicalGens.f k t914).bind fun t944 => ((laws_sameInts.f k t918 t944).bind fun t947 => (laws_FnIdeals.j0 k bt882.2.2 t890 t891 bt904.2 t911 t918 (!t947) bt882.1 bt904.1 t914))) else (laws_FnIdeals.j0 k bt882.2.2 t890 t891 bt904.2 t911 t918 true bt882.1 bt904.1 t914)))) else (laws_FnIdeals.j0 k bt882.2.2 t890 t891 bt904.2 t911 t918 true bt882.1 bt904.1 t914))))) else (laws_FnIdeals.j0 k bt882.2.2 t890 t891 bt904.2 t911 t918 true bt882.1 bt904.1 t914))))) else (laws_FnIdeals.j0 k bt882.2.2 t890 t891 bt904.2 t911 t918 true bt882.1 bt904.1 t914)))))))))))))) = some true := by rw [if_neg (show ¬ (false = true) by decide)] at H; exact H
 clear H
 have H := H1
 clear H1
 replace H := ga H; obtain ⟨⟨t882, t885, t888⟩, A4, H⟩ := H
 replace H : ((impl_InIdeal.f k t882 t885 t888).bind fun t890 => ((impl_IdealGens.f k t882 t885).bind fun t891 => ((spec_DrawIdealSum.f k l0).bind fun bt894 => ((spec_DrawDualGens.f k l0).bind fun bt904 => ((impl_DualGens.f k bt904.1 bt904.2).bind fun t911 => ((spec_DrawCanonicalGens.f k l0).bind fun t914 => ((impl_CanonicalGens.f k t914).bind fun t918 => ((spec_InIdeal.f k t882 t885 t888).bind fun t921 => (if (t890 != t921) = true then (laws_FnIdeals.j0 k t888 t890 t891 bt904.2 t911 t918 true t882 bt904.1 t914) else ((spec_IdealGens.f k t882 t885).bind fun t922 => ((laws_sameInts.f k t891 t922).bind fun t925 => (if t925 = true then ((impl_IdealSum.f k bt894.1 bt894.2.1 bt894.2.2).bind fun t926 => ((spec_IdealSum.f k bt894.1 bt894.2.1 bt894.2.2).bind fun t929 => ((laws_sameInts.f k t926 t929).bind fun t932 => (if t932 = true then ((impl_IdealSum.f k bt894.1 bt894.2.1 bt894.2.2).bind fun t933 => ((impl_IdealSum.f k bt894.1 bt894.2.2 bt894.2.1).bind fun t936 => ((laws_sameInts.f k t933 t936).bind fun t939 => (if t939 = true then ((spec_DualGens.f k bt904.1 bt904.2).bind fun t940 => ((laws_sameInts.f k t911 t940).bind fun t943 => (if t943 = true then ((spec_CanonicalGens.f k t914).bind fun t944 => ((laws_sameInts.f k t918 t944).bind fun t947 => (laws_FnIdeals.j0 k t888 t890 t891 bt904.2 t911 t918 (!t947) t882 bt904.1 t914))) else (laws_FnIdeals.j0 k t888 t890 t891 bt904.2 t911 t918 true t882 bt904.1 t914)))) else (laws_FnIdeals.j0 k t888 t890 t891 bt904.2 t911 t918 true t882 bt904.1 t914))))) else (laws_FnIdeals.j0 k t888 t890 t891 bt904.2 t911 t918 true t882 bt904.1 t914))))) else (laws_FnIdeals.j0 k t888 t890 t891 bt904.2 t911 t918 true t882 bt904.1 t914))))))))))))) = some true := H
 replace H := ga H; obtain ⟨t890, A5, H⟩ := H
 replace H := ga H; obtain ⟨t891, A6, H⟩ := H
 replace H := ga H; obtain ⟨⟨t894, t897, t900⟩, A7, H⟩ := H
 replace H : ((spec_DrawDualGens.f k l0).bind fun bt904 => ((impl_DualGens.f k bt904.1 bt904.2).bind fun t911 => ((spec_DrawCanonicalGens.f k l0).bind fun t914 => ((impl_CanonicalGens.f k t914).bind fun t918 => ((spec_InIdeal.f k t882 t885 t888).bind fun t921 => (if (t890 != t921) = true then (laws_FnIdeals.j0 k t888 t890 t891 bt904.2 t911 t918 true t882 bt904.1 t914) else ((spec_IdealGens.f k t882 t885).bind fun t922 => ((laws_sameInts.f k t891 t922).bind fun t925 => (if t925 = true then ((impl_IdealSum.f k t894 t897 t900).bind fun t926 => ((spec_IdealSum.f k t894 t897 t900).bind fun t929 => ((laws_sameInts.f k t926 t929).bind fun t932 => (if t932 = true then ((impl_IdealSum.f k t894 t897 t900).bind fun t933 => ((impl_IdealSum.f k t894 t900 t897).bind fun t936 => ((laws_sameInts.f k t933 t936).bind fun t939 => (if t939 = true then ((spec_DualGens.f k bt904.1 bt904.2).bind fun t940 => ((laws_sameInts.f k t911 t940).bind fun t943 => (if t943 = true then ((spec_CanonicalGens.f k t914).bind fun t944 => ((laws_sameInts.f k t918 t944).bind fun t947 => (laws_FnIdeals.j0 k t888 t890 t891 bt904.2 t911 t918 (!t947) t882 bt904.1 t914))) else (laws_FnIdeals.j0 k t888 t890 t891 bt904.2 t911 t918 true t882 bt904.1 t914)))) else (laws_FnIdeals.j0 k t888 t890 t891 bt904.2 t911 t918 true t882 bt904.1 t914))))) else (laws_FnIdeals.j0 k t888 t890 t891 bt904.2 t911 t918 true t882 bt904.1 t914))))) else (laws_FnIdeals.j0 k t888 t890 t891 bt904.2 t911 t918 true t882 bt904.1 t914)))))))))) = some true := H
 replace H := ga H; obtain ⟨⟨t904, t907⟩, A8, H⟩ := H
 replace H : ((impl_DualGens.f k t904 t907).bind fun t911 => ((spec_DrawCanonicalGens.f k l0).bind fun t914 => ((impl_CanonicalGens.f k t914).bind fun t918 => ((spec_InIdeal.f k t882 t885 t888).bind fun t921 => (if (t890 != t921) = true then (laws_FnIdeals.j0 k t888 t890 t891 t907 t911 t918 true t882 t904 t914) else ((spec_IdealGens.f k t882 t885).bind fun t922 => ((laws_sameInts.f k t891 t922).bind fun t925 => (if t925 = true then ((impl_IdealSum.f k t894 t897 t900).bind fun t926 => ((spec_IdealSum.f k t894 t897 t900).bind fun t929 => ((laws_sameInts.f k t926 t929).bind fun t932 => (if t932 = true then ((impl_IdealSum.f k t894 t897 t900).bind fun t933 => ((impl_IdealSum.f k t894 t900 t897).bind fun t936 => ((laws_sameInts.f k t933 t936).bind fun t939 => (if t939 = true then ((spec_DualGens.f k t904 t907).bind fun t940 => ((laws_sameInts.f k t911 t940).bind fun t943 => (if t943 = true then ((spec_CanonicalGens.f k t914).bind fun t944 => ((laws_sameInts.f k t918 t944).bind fun t947 => (laws_FnIdeals.j0 k t888 t890 t891 t907 t911 t918 (!t947) t882 t904 t914))) else (laws_FnIdeals.j0 k t888 t890 t891 t907 t911 t918 true t882 t904 t914)))) else (laws_FnIdeals.j0 k t888 t890 t891 t907 t911 t918 true t882 t904 t914))))) else (laws_FnIdeals.j0 k t888 t890 t891 t907 t911 t918 true t882 t904 t914))))) else (laws_FnIdeals.j0 k t888 t890 t891 t907 t911 t918 true t882 t904 t914))))))))) = some true := H
 replace H := ga H; obtain ⟨t911, A9, H⟩ := H
 replace H := ga H; obtain ⟨t914, A10, H⟩ := H
 replace H := ga H; obtain ⟨t918, A11, H⟩ := H
 have HC12 := am H
 clear H
 go_enter Tryz.func3, Tryz.ntmps3
 go_upto_region 11 with (first | ((with_reducible refine gate_callee (f := 5) rfl ?_); refine goesL_ (some 22) rfl rfl Tryz.func5 (by kernel_rfl) rfl #[.slice A0 l0.length c0] rfl (by (try simp only [List.map_toArray, List.map_cons, List.map_nil]); first | done | rfl | (simp only [List.length_drop, List.length_take]; rfl)) ?_; (with_reducible refine (laws_big.calls _ _ l0 false _ ?side1 ?side2 A2.out).mono ?_); (case side1 => exact co HR0.out); (case side2 => exact HC0.out); rintro e w' ⟨rfl, ⟨nd, rfl⟩⟩; refine ⟨_, rfl, ?_⟩) | ((with_reducible refine gate_callee (f := 6) rfl ?_); refine goesL_ (some 25) rfl rfl Tryz.func6 (by kernel_rfl) rfl #[.slice A0 l0.length c0] rfl (by (try simp only [List.map_toArray, List.map_cons, List.map_nil]); first | done | rfl | (simp only [List.length_drop, List.length_take]; rfl)) ?_; (with_reducible refine (spec_DrawInIdeal.calls k _ _ l0 t882 t885 t888 _ ?side1 ?side2 A4.out).mono ?_); (case side1 => exact co HR0.out); (case side2 => exact HC0.out); rintro e w13 ⟨v883, v886, rfl, ho0, ho1, hb⟩; refine ⟨_, rfl, ?_⟩; have HO884 := am (Kd.Q_lower ho0 (below_size bw)); have HO887 := am (Kd.R_lower ho1 (below_size bw)); replace HB := am (below_step bw hb); clear hb ho0 ho1) | ((with_reducible refine gate_dst (N := 3) rfl ?_); (try (refine gate_guard (by rfl) ?_; dsimp only)); refine bx 3 #[.slice none 0 0] 26 ?_; intro gb889 hg w14 hbox hb; replace HO884 := qK HO884 hb; replace HO887 := rK HO887 hb; have BK889 := am (hbox); have GW889 := am (gs hg : w.heap.size ≤ gb889); have GE889 := GW889; replace HB := am (below_step bw hb); clear hb hbox hg; obtain ⟨Ao15, co15, eo15, _⟩ := Kd.Q_slice HO884.out; subst eo15; have hcz16_0 := bc BK889 0 (.slice none 0 0); have hfz16_0 := blk_frozen BK889.out 0; obtain ⟨Ao17, co17, eo17⟩ := Kd.R_slice HO887.out; subst eo17) | ((with_reducible refine gate_callee (f := 7) rfl ?_); refine goesL_ (some 32) rfl rfl Tryz.func7 (by kernel_rfl) rfl #[.agg #[.slice Ao15 t882.length co15], .slice Ao17 t885.length co17, .int .i64 t888] rfl (by (try simp only [List.map_toArray, List.map_cons, List.map_nil]); first | done | rfl | (simp only [List.length_drop, List.length_take]; rfl)) ?_; (with_reducible refine (impl_InIdeal.calls k _ _ t882 _ _ t885 t888 t890 _ ?side1 ?side2 ?side3 ?side4 A5.out).mono ?_); (case side1 => refine (Kd.Q_reads' (e := 3) (base := w.heap.size) (ok := fun k_ => nb k_ Ao17 t885 co17) (n := t882.length) (c := co15) ?_).2.2; exact (qF HO884 BK889 (.slice Ao15 t882.length co15))); (case side2 => exact (Kd.Q_reads' HO884.out).2.1); (case side3 => refine (Kd.R_reads' (e := 3) (base := w.heap.size) (ok := fun k_ => nb k_ Ao15 t882 co15) (n := t885.length) (c := co17) ?_).2.2; exact (rF HO887 BK889 (.slice Ao15 t882.length co15))); (case side4 => exact (Kd.R_reads' HO887.out).2.1); rintro e w18 ⟨rfl, hb⟩; refine ⟨_, rfl, ?_⟩; replace HO884 := am (Kd.Q_below (qF HO884 BK889 (.slice Ao15 t882.length co15)) hb); replace HO887 := am (Kd.R_below (rF HO887 BK889 (.slice Ao15 t882.length co15)) hb); replace BK889 := am (blk_below (g := gb889) (o := .cells #[.slice Ao15 t882.length co15] 26 (0, 0)) (by (with_reducible repeat (first | refine blk_drewN ?_ _ | refine blk_drew ?_ | refine blk_alloc ?_ _)); refine blk_put (cs := #[.slice none 0 0]) ?_ 0 _ rfl; (with_reducible repeat (first | refine blk_drewN ?_ _ | refine blk_drew ?_ | refine blk_alloc ?_ _)); exact BK889.out) hb); replace HB := am (below_step bw hb); clear hb; have hcz19_0 := bc BK889 0 (.slice Ao15 t882.length co15); have hfz19_0 := blk_frozen BK889.out 0) | ((with_reducible refine gate_callee (f := 8) rfl ?_); refine goesL_ (some 35) rfl rfl Tryz.func8 (by kernel_rfl) rfl #[.agg #[.slice Ao15 t882.length co15], .slice Ao17 t885.length co17] rfl (by (try simp only [List.map_toArray, List.map_cons, List.map_nil]); first | done | rfl | (simp only [List.length_drop, List.length_take]; rfl)) ?_; (with_reducible refine (impl_IdealGens.calls k _ _ t882 _ _ t885 t891 _ ?side1 ?side2 ?side3 ?side4 A6.out).mono ?_); (case side1 => exact co (Kd.Q_reads' HO884.out).2.2); (case side2 => exact (Kd.Q_reads' HO884.out).2.1); (case side3 => exact co (Kd.R_reads' HO887.out).2.2); (case side4 => exact (Kd.R_reads' HO887.out).2.1); rintro e w20 ⟨v892, rfl, ho0, hb⟩; refine ⟨_, rfl, ?_⟩; have HO893 := am (Kd.R_lower (Kd.R_new' (Kd.R_new' ho0 (Kd.Q_lt (qo HO884.out))) (Kd.R_lt (ro HO887.out))) (below_size bw)); replace HO884 := am (Kd.Q_elder' (qo HO884.out) (Kd.R_base ho0) hb); replace HO887 := am (Kd.R_elder' (ro HO887.out) (Kd.R_base ho0) hb); replace BK889 := kb BK889 hb; replace HB := am (below_step bw hb); clear hb ho0) | ((with_reducible refine gate_callee (f := 9) rfl ?_); refine goesL_ (some 38) rfl rfl Tryz.func9 (by kernel_rfl) rfl #[.slice A0 l0.length c0] rfl (by (try simp only [List.map_toArray, List.map_cons, List.map_nil]); first | done | rfl | (simp only [List.length_drop, List.length_take]; rfl)) ?_; (with_reducible refine (spec_DrawIdealSum.calls k _ _ l0 t894 t897 t900 _ ?side1 ?side2 A7.out).mono ?_); (case side1 => exact co (Kd.C_below HR0.out HB.out)); (case side2 => exact HC0.out); rintro e w21 ⟨v895, v898, v901, rfl, ho0, ho1, ho2, hb⟩; refine ⟨_, rfl, ?_⟩; have HO896 := am (Kd.Q_lower (Kd.Q_new' (Kd.Q_new' (Kd.Q_new' ho0 (Kd.Q_lt (qo HO884.out))) (Kd.R_lt (ro HO887.out))) (Kd.R_lt (ro HO893.out))) (below_size bw)); have HO899 := am (Kd.R_lower (Kd.R_new' (Kd.R_new' (Kd.R_new' ho1 (Kd.Q_lt (qo HO884.out))) (Kd.R_lt (ro HO887.out))) (Kd.R_lt (ro HO893.out))) (below_size bw)); have HO902 := am (Kd.R_lower (Kd.R_new' (Kd.R_new' (Kd.R_new' ho2 (Kd.Q_lt (qo HO884.out))) (Kd.R_lt (ro HO887.out))) (Kd.R_lt (ro HO893.out))) (below_size bw)); replace HO884 := am (Kd.Q_mono (Kd.Q_told (Kd.Q_told (Kd.Q_told (Kd.Q_old (qo HO884.out) hb) (Kd.Q_base ho0)) (Kd.R_base ho1)) (Kd.R_base ho2)) (fun _ h_ => h_.1)); replace HO887 := am (Kd.R_mono (Kd.R_told (Kd.R_told (Kd.R_told (Kd.R_old (ro HO887.out) hb) (Kd.Q_base ho0)) (Kd.R_base ho1)) (Kd.R_base ho2)) (fun _ h_ => h_.1)); replace HO893 := am (Kd.R_mono (Kd.R_told (Kd.R_told (Kd.R_told (Kd.R_old (ro HO893.out) hb) (Kd.Q_base ho0)) (Kd.R_base ho1)) (Kd.R_base ho2)) (fun _ h_ => h_.1)); replace BK889 := kb BK889 hb; replace HB := am (below_step bw hb); clear hb ho0 ho1 ho2) | ((with_reducible refine gate_dst (N := 8) rfl ?_); (try (refine gate_guard (by rfl) ?_; dsimp only)); refine bx 8 #[.slice none 0 0] 26 ?_; intro gb903 hg w22 hbox hb; replace HO884 := qK HO884 hb; replace HO887 := rK HO887 hb; replace HO893 := rK HO893 hb; replace HO896 := qK HO896 hb; replace HO899 := rK HO899 hb; replace HO902 := rK HO902 hb; have BK903 := am (hbox); have GW903 := am (gs hg : w.heap.size ≤ gb903); have GE903 := GW903; replace HB := am (below_step bw hb); have NB889_903 := nl hg BK889; have NB903_889 := ns NB889_903; replace BK889 := kb BK889 hb; clear hb hbox hg; obtain ⟨Ao23, co23, eo23, _⟩ := Kd.Q_slice HO896.out; subst eo23; have hnb24 := NB903_889.out; have hnc24 := NB889_903.out; have hcz25_0 := bc BK903 0 (.slice none 0 0); have hfz25_0 := blk_frozen BK903.out 0) | ((with_reducible refine gate_callee (f := 10) rfl ?_); refine goesL_ (some 44) rfl rfl Tryz.func10 (by kernel_rfl) rfl #[.slice A0 l0.length c0] rfl (by (try simp only [List.map_toArray, List.map_cons, List.map_nil]); first | done | rfl | (simp only [List.length_drop, List.length_take]; rfl)) ?_; (with_reducible refine (spec_DrawDualGens.calls k _ _ l0 t904 t907 _ ?side1 ?side2 A8.out).mono ?_); (case side1 => exact Kd.C_below HR0.out bw); (case side2 => exact HC0.out); rintro e w26 ⟨v905, v908, rfl, ho0, ho1, hb⟩; refine ⟨_, rfl, ?_⟩; have HO906 := am (Kd.Q_lower (Kd.Q_new' (Kd.Q_new' (Kd.Q_new' (Kd.Q_new' (Kd.Q_new' (Kd.Q_new' ho0 (Kd.Q_lt (qF HO884 BK903 (.slice Ao23 t894.length co23)))) (Kd.R_lt (rF HO887 BK903 (.slice Ao23 t894.length co23)))) (Kd.R_lt (rF HO893 BK903 (.slice Ao23 t894.length co23)))) (Kd.Q_lt (qF HO896 BK903 (.slice Ao23 t894.length co23)))) (Kd.R_lt (rF HO899 BK903 (.slice Ao23 t894.length co23)))) (Kd.R_lt (rF HO902 BK903 (.slice Ao23 t894.length co23)))) (below_size bw)); have HO909 := am (Kd.R_lower (Kd.R_new' (Kd.R_new' (Kd.R_new' (Kd.R_new' (Kd.R_new' (Kd.R_new' ho1 (Kd.Q_lt (qF HO884 BK903 (.slice Ao23 t894.length co23)))) (Kd.R_lt (rF HO887 BK903 (.slice Ao23 t894.length co23)))) (Kd.R_lt (rF HO893 BK903 (.slice Ao23 t894.length co23)))) (Kd.Q_lt (qF HO896 BK903 (.slice Ao23 t894.length co23)))) (Kd.R_lt (rF HO899 BK903 (.slice Ao23 t894.length co23)))) (Kd.R_lt (rF HO902 BK903 (.slice Ao23 t894.length co23)))) (below_size bw)); replace HO884 := am (Kd.Q_mono (Kd.Q_told (Kd.Q_told (Kd.Q_old (qF HO884 BK903 (.slice Ao23 t894.length co23)) hb) (Kd.Q_base ho0)) (Kd.R_base ho1)) (fun _ h_ => h_.1)); replace HO887 := am (Kd.R_mono (Kd.R_told (Kd.R_told (Kd.R_old (rF HO887 BK903 (.slice Ao23 t894.length co23)) hb) (Kd.Q_base ho0)) (Kd.R_base ho1)) (fun _ h_ => h_.1)); replace HO893 := am (Kd.R_mono (Kd.R_told (Kd.R_told (Kd.R_old (rF HO893 BK903 (.slice Ao23 t894.length co23)) hb) (Kd.Q_base ho0)) (Kd.R_base ho1)) (fun _ h_ => h_.1)); replace HO896 := am (Kd.Q_mono (Kd.Q_told (Kd.Q_told (Kd.Q_old (qF HO896 BK903 (.slice Ao23 t894.length co23)) hb) (Kd.Q_base ho0)) (Kd.R_base ho1)) (fun _ h_ => h_.1)); replace HO899 := am (Kd.R_mono (Kd.R_told (Kd.R_told (Kd.R_old (rF HO899 BK903 (.slice Ao23 t894.length co23)) hb) (Kd.Q_base ho0)) (Kd.R_base ho1)) (fun _ h_ => h_.1)); replace HO902 := am (Kd.R_mono (Kd.R_told (Kd.R_told (Kd.R_old (rF HO902 BK903 (.slice Ao23 t894.length co23)) hb) (Kd.Q_base ho0)) (Kd.R_base ho1)) (fun _ h_ => h_.1)); replace BK889 := kb BK889 hb; replace BK903 := am (blk_below (g := gb903) (o := .cells #[.slice Ao23 t894.length co23] 26 (0, 0)) (by (with_reducible repeat (first | refine blk_drewN ?_ _ | refine blk_drew ?_ | refine blk_alloc ?_ _)); refine blk_put (cs := #[.slice none 0 0]) ?_ 0 _ rfl; (with_reducible repeat (first | refine blk_drewN ?_ _ | refine blk_drew ?_ | refine blk_alloc ?_ _)); exact BK903.out) hb); replace HB := am (below_step bw hb); clear hb ho0 ho1) | ((with_reducible refine gate_dst (N := 11) rfl ?_); (try (refine gate_guard (by rfl) ?_; dsimp only)); refine bx 11 #[.slice none 0 0] 26 ?_; intro gb910 hg w27 hbox hb; replace HO884 := qK HO884 hb; replace HO887 := rK HO887 hb; replace HO893 := rK HO893 hb; replace HO896 := qK HO896 hb; replace HO899 := rK HO899 hb; replace HO902 := rK HO902 hb; replace HO906 := qK HO906 hb; replace HO909 := rK HO909 hb; have BK910 := am (hbox); have GW910 := am (gs hg : w.heap.size ≤ gb910); have GE910 := GW910; replace HB := am (below_step bw hb); have NB889_910 := nl hg BK889; have NB910_889 := ns NB889_910; replace BK889 := kb BK889 hb; have NB903_910 := nl hg BK903; have NB910_903 := ns NB903_910; replace BK903 := kb BK903 hb; clear hb hbox hg; obtain ⟨Ao28, co28, eo28, _⟩ := Kd.Q_slice HO906.out; subst eo28; have hnb29 := NB910_889.out; have hnc29 := NB889_910.out; have hnb30 := NB910_903.out; have hnc30 := NB903_910.out; have hcz31_0 := bc BK910 0 (.slice none 0 0); have hfz31_0 := blk_frozen BK910.out 0; obtain ⟨Ao32, co32, eo32⟩ := Kd.R_slice HO909.out; subst eo32) | ((with_reducible refine gate_callee (f := 11) rfl ?_); refine goesL_ (some 49) rfl rfl Tryz.func11 (by kernel_rfl) rfl #[.agg #[.slice Ao28 t904.length co28], .slice Ao32 t907.length co32] rfl (by (try simp only [List.map_toArray, List.map_cons, List.map_nil]); first | done | rfl | (simp only [List.length_drop, List.length_take]; rfl)) ?_; (with_reducible refine (impl_DualGens.calls k _ _ t904 _ _ t907 t911 _ ?side1 ?side2 ?side3 ?side4 A9.out).mono ?_); (case side1 => refine (Kd.Q_reads' (e := 3) (base := w.heap.size) (ok := fun k_ => ((((((nb k_ Ao32 t907 co32 ∧ nb k_ Ao15 t882 co15) ∧ nb k_ Ao17 t885 co17) ∧ some k_ ≠ (v892 : Value).ownBlock) ∧ nb k_ Ao23 t894 co23) ∧ some k_ ≠ (v898 : Value).ownBlock) ∧ some k_ ≠ (v901 : Value).ownBlock)) (n := t904.length) (c := co28) ?_).2.2; exact (qF HO906 BK910 (.slice Ao28 t904.length co28))); (case side2 => exact (Kd.Q_reads' HO906.out).2.1); (case side3 => refine (Kd.R_reads' (e := 3) (base := w.heap.size) (ok := fun k_ => ((((((nb k_ Ao28 t904 co28 ∧ nb k_ Ao15 t882 co15) ∧ nb k_ Ao17 t885 co17) ∧ some k_ ≠ (v892 : Value).ownBlock) ∧ nb k_ Ao23 t894 co23) ∧ some k_ ≠ (v898 : Value).ownBlock) ∧ some k_ ≠ (v901 : Value).ownBlock)) (n := t907.length) (c := co32) ?_).2.2; exact (rF HO909 BK910 (.slice Ao28 t904.length co28))); (case side4 => exact (Kd.R_reads' HO909.out).2.1); rintro e w33 ⟨v912, rfl, ho0, hb⟩; refine ⟨_, rfl, ?_⟩; have HO913 := am (Kd.R_lower (Kd.R_new' (Kd.R_new' (Kd.R_new' (Kd.R_new' (Kd.R_new' (Kd.R_new' (Kd.R_new' (Kd.R_new' ho0 (Kd.Q_lt (qF HO884 BK910 (.slice Ao28 t904.length co28)))) (Kd.R_lt (rF HO887 BK910 (.slice Ao28 t904.length co28)))) (Kd.R_lt (rF HO893 BK910 (.slice Ao28 t904.length co28)))) (Kd.Q_lt (qF HO896 BK910 (.slice Ao28 t904.length co28)))) (Kd.R_lt (rF HO899 BK910 (.slice Ao28 t904.length co28)))) (Kd.R_lt (rF HO902 BK910 (.slice Ao28 t904.length co28)))) (Kd.Q_lt (qF HO906 BK910 (.slice Ao28 t904.length co28)))) (Kd.R_lt (rF HO909 BK910 (.slice Ao28 t904.length co28)))) (below_size bw)); replace HO884 := am (Kd.Q_elder' (qF HO884 BK910 (.slice Ao28 t904.length co28)) (Kd.R_base ho0) hb); replace HO887 := am (Kd.R_elder' (rF HO887 BK910 (.slice Ao28 t904.length co28)) (Kd.R_base ho0) hb); replace HO893 := am (Kd.R_elder' (rF HO893 BK910 (.slice Ao28 t904.length co28)) (Kd.R_base ho0) hb); replace HO896 := am (Kd.Q_elder' (qF HO896 BK910 (.slice Ao28 t904.length co28)) (Kd.R_base ho0) hb); replace HO899 := am (Kd.R_elder' (rF HO899 BK910 (.slice Ao28 t904.length co28)) (Kd.R_base ho0) hb); replace HO902 := am (Kd.R_elder' (rF HO902 BK910 (.slice Ao28 t904.length co28)) (Kd.R_base ho0) hb); replace HO906 := am (Kd.Q_elder' (qF HO906 BK910 (.slice Ao28 t904.length co28)) (Kd.R_base ho0) hb); replace HO909 := am (Kd.R_elder' (rF HO909 BK910 (.slice Ao28 t904.length co28)) (Kd.R_base ho0) hb); replace BK889 := kb BK889 hb; replace BK903 := kb BK903 hb; replace BK910 := am (blk_below (g := gb910) (o := .cells #[.slice Ao28 t904.length co28] 26 (0, 0)) (by (with_reducible repeat (first | refine blk_drewN ?_ _ | refine blk_drew ?_ | refine blk_alloc ?_ _)); refine blk_put (cs := #[.slice none 0 0]) ?_ 0 _ rfl; (with_reducible repeat (first | refine blk_drewN ?_ _ | refine blk_drew ?_ | refine blk_alloc ?_ _)); exact BK910.out) hb); replace HB := am (below_step bw hb); clear hb ho0) | ((with_reducible refine gate_callee (f := 12) rfl ?_); refine goesL_ (some 51) rfl rfl Tryz.func12 (by kernel_rfl) rfl #[.slice A0 l0.length c0] rfl (by (try simp only [List.map_toArray, List.map_cons, List.map_nil]); first | done | rfl | (simp only [List.length_drop, List.length_take]; rfl)) ?_; (with_reducible refine (spec_DrawCanonicalGens.calls k _ _ l0 t914 _ ?side1 ?side2 A10.out).mono ?_); (case side1 => exact co (Kd.C_below HR0.out HB.out)); (case side2 => exact HC0.out); rintro e w34 ⟨v915, rfl, ho0, hb⟩; refine ⟨_, rfl, ?_⟩; have HO916 := am (Kd.Q_lower (Kd.Q_new' (Kd.Q_new' (Kd.Q_new' (Kd.Q_new' (Kd.Q_new' (Kd.Q_new' (Kd.Q_new' (Kd.Q_new' (Kd.Q_new' ho0 (Kd.Q_lt (qo HO884.out))) (Kd.R_lt (ro HO887.out))) (Kd.R_lt (ro HO893.out))) (Kd.Q_lt (qo HO896.out))) (Kd.R_lt (ro HO899.out))) (Kd.R_lt (ro HO902.out))) (Kd.Q_lt (qo HO906.out))) (Kd.R_lt (ro HO909.out))) (Kd.R_lt (ro HO913.out))) (below_size bw)); replace HO884 := am (Kd.Q_elder' (qo HO884.out) (Kd.Q_base ho0) hb); replace HO887 := am (Kd.R_elder' (ro HO887.out) (Kd.Q_base ho0) hb); replace HO893 := am (Kd.R_elder' (ro HO893.out) (Kd.Q_base ho0) hb); replace HO896 := am (Kd.Q_elder' (qo HO896.out) (Kd.Q_base ho0) hb); replace HO899 := am (Kd.R_elder' (ro HO899.out) (Kd.Q_base ho0) hb); replace HO902 := am (Kd.R_elder' (ro HO902.out) (Kd.Q_base ho0) hb); replace HO906 := am (Kd.Q_elder' (qo HO906.out) (Kd.Q_base ho0) hb); replace HO909 := am (Kd.R_elder' (ro HO909.out) (Kd.Q_base ho0) hb); replace HO913 := am (Kd.R_elder' (ro HO913.out) (Kd.Q_base ho0) hb); replace BK889 := kb BK889 hb; replace BK903 := kb BK903 hb; replace BK910 := kb BK910 hb; replace HB := am (below_step bw hb); clear hb ho0) | ((with_reducible refine gate_dst (N := 14) rfl ?_); (try (refine gate_guard (by rfl) ?_; dsimp only)); refine bx 14 #[.slice none 0 0] 26 ?_; intro gb917 hg w35 hbox hb; replace HO884 := qK HO884 hb; replace HO887 := rK HO887 hb; replace HO893 := rK HO893 hb; replace HO896 := qK HO896 hb; replace HO899 := rK HO899 hb; replace HO902 := rK HO902 hb; replace HO906 := qK HO906 hb; replace HO909 := rK HO909 hb; replace HO913 := rK HO913 hb; replace HO916 := qK HO916 hb; have BK917 := am (hbox); have GW917 := am (gs hg : w.heap.size ≤ gb917); have GE917 := GW917; replace HB := am (below_step bw hb); have NB889_917 := nl hg BK889; have NB917_889 := ns NB889_917; replace BK889 := kb BK889 hb; have NB903_917 := nl hg BK903; have NB917_903 := ns NB903_917; replace BK903 := kb BK903 hb; have NB910_917 := nl hg BK910; have NB917_910 := ns NB910_917; replace BK910 := kb BK910 hb; clear hb hbox hg; obtain ⟨Ao36, co36, eo36, _⟩ := Kd.Q_slice HO916.out; subst eo36; have hnb37 := NB917_889.out; have hnc37 := NB889_917.out; have hnb38 := NB917_903.out; have hnc38 := NB903_917.out; have hnb39 := NB917_910.out; have hnc39 := NB910_917.out; have hcz40_0 := bc BK917 0 (.slice none 0 0); have hfz40_0 := blk_frozen BK917.out 0) | ((with_reducible refine gate_callee (f := 13) rfl ?_); refine goesL_ (some 53) rfl rfl Tryz.func13 (by kernel_rfl) rfl #[.agg #[.slice Ao36 t914.length co36]] rfl (by (try simp only [List.map_toArray, List.map_cons, List.map_nil]); first | done | rfl | (simp only [List.length_drop, List.length_take]; rfl)) ?_; (with_reducible refine (impl_CanonicalGens.calls k _ _ t914 t918 _ ?side1 ?side2 A11.out).mono ?_); (case side1 => refine (Kd.Q_reads' (e := 3) (base := w.heap.size) (ok := fun k_ => (((((((((True ∧ nb k_ Ao15 t882 co15) ∧ nb k_ Ao17 t885 co17) ∧ some k_ ≠ (v892 : Value).ownBlock) ∧ nb k_ Ao23 t894 co23) ∧ some k_ ≠ (v898 : Value).ownBlock) ∧ some k_ ≠ (v901 : Value).ownBlock) ∧ nb k_ Ao28 t904 co28) ∧ nb k_ Ao32 t907 co32) ∧ some k_ ≠ (v912 : Value).ownBlock)) (n := t914.length) (c := co36) ?_).2.2; exact (qF HO916 BK917 (.slice Ao36 t914.length co36))); (case side2 => exact (Kd.Q_reads' HO916.out).2.1); rintro e w41 ⟨v919, rfl, ho0, hb⟩; refine ⟨_, rfl, ?_⟩; have HO920 := am (Kd.R_lower (Kd.R_new' (Kd.R_new' (Kd.R_new' (Kd.R_new' (Kd.R_new' (Kd.R_new' (Kd.R_new' (Kd.R_new' (Kd.R_new' (Kd.R_new' ho0 (Kd.Q_lt (qF HO884 BK917 (.slice Ao36 t914.length co36)))) (Kd.R_lt (rF HO887 BK917 (.slice Ao36 t914.length co36)))) (Kd.R_lt (rF HO893 BK917 (.slice Ao36 t914.length co36)))) (Kd.Q_lt (qF HO896 BK917 (.slice Ao36 t914.length co36)))) (Kd.R_lt (rF HO899 BK917 (.slice Ao36 t914.length co36)))) (Kd.R_lt (rF HO902 BK917 (.slice Ao36 t914.length co36)))) (Kd.Q_lt (qF HO906 BK917 (.slice Ao36 t914.length co36)))) (Kd.R_lt (rF HO909 BK917 (.slice Ao36 t914.length co36)))) (Kd.R_lt (rF HO913 BK917 (.slice Ao36 t914.length co36)))) (Kd.Q_lt (qF HO916 BK917 (.slice Ao36 t914.length co36)))) (below_size bw)); replace HO884 := am (Kd.Q_elder' (qF HO884 BK917 (.slice Ao36 t914.length co36)) (Kd.R_base ho0) hb); replace HO887 := am (Kd.R_elder' (rF HO887 BK917 (.slice Ao36 t914.length co36)) (Kd.R_base ho0) hb); replace HO893 := am (Kd.R_elder' (rF HO893 BK917 (.slice Ao36 t914.length co36)) (Kd.R_base ho0) hb); replace HO896 := am (Kd.Q_elder' (qF HO896 BK917 (.slice Ao36 t914.length co36)) (Kd.R_base ho0) hb); replace HO899 := am (Kd.R_elder' (rF HO899 BK917 (.slice Ao36 t914.length co36)) (Kd.R_base ho0) hb); replace HO902 := am (Kd.R_elder' (rF HO902 BK917 (.slice Ao36 t914.length co36)) (Kd.R_base ho0) hb); replace HO906 := am (Kd.Q_elder' (qF HO906 BK917 (.slice Ao36 t914.length co36)) (Kd.R_base ho0) hb); replace HO909 := am (Kd.R_elder' (rF HO909 BK917 (.slice Ao36 t914.length co36)) (Kd.R_base ho0) hb); replace HO913 := am (Kd.R_elder' (rF HO913 BK917 (.slice Ao36 t914.length co36)) (Kd.R_base ho0) hb); replace HO916 := am (Kd.Q_elder' (qF HO916 BK917 (.slice Ao36 t914.length co36)) (Kd.R_base ho0) hb); replace BK889 := kb BK889 hb; replace BK903 := kb BK903 hb; replace BK910 := kb BK910 hb; replace BK917 := am (blk_below (g := gb917) (o := .cells #[.slice Ao36 t914.length co36] 26 (0, 0)) (by (with_reducible repeat (first | refine blk_drewN ?_ _ | refine blk_drew ?_ | refine blk_alloc ?_ _)); refine blk_put (cs := #[.slice none 0 0]) ?_ 0 _ rfl; (with_reducible repeat (first | refine blk_drewN ?_ _ | refine blk_drew ?_ | refine blk_alloc ?_ _)); exact BK917.out) hb); replace HB := am (below_step bw hb); clear hb ho0))
 (try simp only [Act.put, List.setIfInBounds_toArray, List.set_cons_zero, List.set_cons_succ])
 go_cut [106] (fun v106 wc => ∃ (kq : Nat) (x106_11 : Bool), v106 = .bool x106_11 ∧ Aside0 (laws_FnIdeals.j0 kq t888 t890 t891 t907 t911 t918 x106_11 t882 t904 t914 = some true) ∧ Aside0 (kq ≤ k) ∧ Aside0 (Kd.R (Kd.int .i64) 3 wc w.heap.size (fun k_ => nb k_ Ao32 t907 co32 ∧ some k_ ≠ (v912 : Value).ownBlock ∧ some k_ ≠ (v919 : Value).ownBlock ∧ nb k_ Ao15 t882 co15 ∧ nb k_ Ao23 t894 co23 ∧ nb k_ Ao28 t904 co28 ∧ nb k_ Ao36 t914 co36) v892 t891) ∧ Aside0 (Kd.R (Kd.int .i64) 3 wc w.heap.size (fun k_ => some k_ ≠ (v892 : Value).ownBlock ∧ some k_ ≠ (v912 : Value).ownBlock ∧ some k_ ≠ (v919 : Value).ownBlock ∧ nb k_ Ao15 t882 co15 ∧ nb k_ Ao23 t894 co23 ∧ nb k_ Ao28 t904 co28 ∧ nb k_ Ao36 t914 co36) (.slice Ao32 t907.length co32) t907) ∧ Aside0 (Kd.R (Kd.int .i64) 3 wc w.heap.size (fun k_ => some k_ ≠ (v892 : Value).ownBlock ∧ nb k_ Ao32 t907 co32 ∧ some k_ ≠ (v919 : Value).ownBlock ∧ nb k_ Ao15 t882 co15 ∧ nb k_ Ao23 t894 co23 ∧ nb k_ Ao28 t904 co28 ∧ nb k_ Ao36 t914 co36) v912 t911) ∧ Aside0 (Kd.R (Kd.int .i64) 3 wc w.heap.size (fun k_ => some k_ ≠ (v892 : Value).ownBlock ∧ nb k_ Ao32 t907 co32 ∧ some k_ ≠ (v912 : Value).ownBlock ∧ nb k_ Ao15 t882 co15 ∧ nb k_ Ao23 t894 co23 ∧ nb k_ Ao28 t904 co28 ∧ nb k_ Ao36 t914 co36) v919 t918) ∧ Aside0 (Kd.Q (Kd.int .i64) 3 wc w.heap.size (fun k_ => some k_ ≠ (v892 : Value).ownBlock ∧ nb k_ Ao32 t907 co32 ∧ some k_ ≠ (v912 : Value).ownBlock ∧ some k_ ≠ (v919 : Value).ownBlock ∧ nb k_ Ao23 t894 co23 ∧ nb k_ Ao28 t904 co28 ∧ nb k_ Ao36 t914 co36) (.slice Ao15 t882.length co15) t882) ∧ Aside0 (Kd.Q (Kd.int .i64) 3 wc w.heap.size (fun k_ => some k_ ≠ (v892 : Value).ownBlock ∧ nb k_ Ao32 t907 co32 ∧ some k_ ≠ (v912 : Value).ownBlock ∧ some k_ ≠ (v919 : Value).ownBlock ∧ nb k_ Ao15 t882 co15 ∧ nb k_ Ao28 t904 co28 ∧ nb k_ Ao36 t914 co36) (.slice Ao23 t894.length co23) t894) ∧ Aside0 (Kd.Q (Kd.int .i64) 3 wc w.heap.size (fun k_ => some k_ ≠ (v892 : Value).ownBlock ∧ nb k_ Ao32 t907 co32 ∧ some k_ ≠ (v912 : Value).ownBlock ∧ some k_ ≠ (v919 : Value).ownBlock ∧ nb k_ Ao15 t882 co15 ∧ nb k_ Ao23 t894 co23 ∧ nb k_ Ao36 t914 co36) (.slice Ao28 t904.length co28) t904) ∧ Aside0 (Kd.Q (Kd.int .i64) 3 wc w.heap.size (fun k_ => some k_ ≠ (v892 : Value).ownBlock ∧ nb k_ Ao32 t907 co32 ∧ some k_ ≠ (v912 : Value).ownBlock ∧ some k_ ≠ (v919 : Value).ownBlock ∧ nb k_ Ao15 t882 co15 ∧ nb k_ Ao23 t894 co23 ∧ nb k_ Ao28 t904 co28) (.slice Ao36 t914.length co36) t914) ∧ Aside0 (wc.heap[gb889]? = some (.cells #[(.slice Ao15 t882.length co15)] 26 (0, 0))) ∧ Aside0 (wc.heap[gb903]? = some (.cells #[(.slice Ao23 t894.length co23)] 26 (0, 0))) ∧ Aside0 (wc.heap[gb910]? = some (.cells #[(.slice Ao28 t904.length co28)] 26 (0, 0))) ∧ Aside0 (wc.heap[gb917]? = some (.cells #[(.slice Ao36 t914.length co36)] 26 (0, 0))) ∧ Aside0 (Below w.heap.size w wc))
 case first =>
  have H := HC12.out
  clear HC12
  replace H := ga H; obtain ⟨t921, A42, H⟩ := H
  by_cases c43 : (t890 != t921) = true
  ·rw [if_pos c43] at H
   exact absurd H (laws_FnIdeals.j0_no)
  rw [if_neg c43] at H
  have c43b0 : (t890 != t921) = false := by simpa using c43
  (try (have c43b1 : decide (t890 = t921) = true := by simpa using c43))
  (try (have c43b2 : (t890 == t921) = true := by simpa using c43))
  clear c43
  (first | rw [c43b0] | (simp only [i64_w, i32_w]; rw [c43b0]) | skip)
  replace H := ga H; obtain ⟨t922, A46, H⟩ := H
  replace H := ga H; obtain ⟨t925, A47, H⟩ := H
  by_cases c48 : t925 = true
  ·subst c48
   have H1 : ((impl_IdealSum.f k t894 t897 t900).bind fun t926 => ((spec_IdealSum.f k t894 t897 t900).bind fun t929 => ((laws_sameInts.f k t926 t929).bind fun t932 => (if t932 = true then ((impl_IdealSum.f k t894 t897 t900).bind fun t933 => ((impl_IdealSum.f k t894 t900 t897).bind fun t936 => ((laws_sameInts.f k t933 t936).bind fun t939 => (if t939 = true then ((spec_DualGens.f k t904 t907).bind fun t940 => ((laws_sameInts.f k t911 t940).bind fun t943 => (if t943 = true then ((spec_CanonicalGens.f k t914).bind fun t944 => ((laws_sameInts.f k t918 t944).bind fun t947 => (laws_FnIdeals.j0 k t888 t890 t891 t907 t911 t918 (!t947) t882 t904 t914))) else (laws_FnIdeals.j0 k t888 t890 t891 t907 t911 t918 true t882 t904 t914)))) else (laws_FnIdeals.j0 k t888 t890 t891 t907 t911 t918 true t882 t904 t914))))) else (laws_FnIdeals.j0 k t888 t890 t891 t907 t911 t918 true t882 t904 t914))))) = some true := by rw [if_pos rfl] at H; exact H
   clear H
   have H := H1
   clear H1
   replace H := ga H; obtain ⟨t926, A49, H⟩ := H
   replace H := ga H; obtain ⟨t929, A50, H⟩ := H
   replace H := ga H; obtain ⟨t932, A51, H⟩ := H
   by_cases c52 : t932 = true
   ·subst c52
    have H1 : ((impl_IdealSum.f k t894 t897 t900).bind fun t933 => ((impl_IdealSum.f k t894 t900 t897).bind fun t936 => ((laws_sameInts.f k t933 t936).bind fun t939 => (if t939 = true then ((spec_DualGens.f k t904 t907).bind fun t940 => ((laws_sameInts.f k t911 t940).bind fun t943 => (if t943 = true then ((spec_CanonicalGens.f k t914).bind fun t944 => ((laws_sameInts.f k t918 t944).bind fun t947 => (laws_FnIdeals.j0 k t888 t890 t891 t907 t911 t918 (!t947) t882 t904 t914))) else (laws_FnIdeals.j0 k t888 t890 t891 t907 t911 t918 true t882 t904 t914)))) else (laws_FnIdeals.j0 k t888 t890 t891 t907 t911 t918 true t882 t904 t914))))) = some true := by rw [if_pos rfl] at H; exact H
    clear H
    have H := H1
    clear H1
    replace H := ga H; obtain ⟨t933, A53, H⟩ := H
    replace H := ga H; obtain ⟨t936, A54, H⟩ := H
    replace H := ga H; obtain ⟨t939, A55, H⟩ := H
    by_cases c56 : t939 = true
    ·subst c56
     have H1 : ((spec_DualGens.f k t904 t907).bind fun t940 => ((laws_sameInts.f k t911 t940).bind fun t943 => (if t943 = true then ((spec_CanonicalGens.f k t914).bind fun t944 => ((laws_sameInts.f k t918 t944).bind fun t947 => (laws_FnIdeals.j0 k t888 t890 t891 t907 t911 t918 (!t947) t882 t904 t914))) else (laws_FnIdeals.j0 k t888 t890 t891 t907 t911 t918 true t882 t904 t914)))) = some true := by rw [if_pos rfl] at H; exact H
     clear H
     have H := H1
     clear H1
     replace H := ga H; obtain ⟨t940, A57, H⟩ := H
     replace H := ga H; obtain ⟨t943, A58, H⟩ := H
     by_cases c59 : t943 = true
     ·subst c59
      have H1 : ((spec_CanonicalGens.f k t914).bind fun t944 => ((laws_sameInts.f k t918 t944).bind fun t947 => (laws_FnIdeals.j0 k t888 t890 t891 t907 t911 t918 (!t947) t882 t904 t914))) = some true := by rw [if_pos rfl] at H; exact H
      clear H
      have H := H1
      clear H1
      replace H := ga H; obtain ⟨t944, A60, H⟩ := H
      replace H := ga H; obtain ⟨t947, A61, H⟩ := H
      have H' := am H
      clear H
      try go_wp2
      replace HO884 := am (Kd.Q_drew HO884.out)
      replace HO887 := am (Kd.R_drew HO887.out)
      replace HO893 := am (Kd.R_drew HO893.out)
      replace HO896 := am (Kd.Q_drew HO896.out)
      replace HO899 := am (Kd.R_drew HO899.out)
      replace HO902 := am (Kd.R_drew HO902.out)
      replace HO906 := am (Kd.Q_drew HO906.out)
      replace HO909 := am (Kd.R_drew HO909.out)
      replace HO913 := am (Kd.R_drew HO913.out)
      replace HO916 := am (Kd.Q_drew HO916.out)
      replace HO920 := am (Kd.R_drew HO920.out)
      replace BK889 := bd BK889
      replace BK903 := bd BK903
      replace BK910 := bd BK910
      replace BK917 := bd BK917
      replace HB := am (below_drew1 HB.out)
      refine start_ (n := 53) (S := fun w' => w'.cell? ⟨gb889, 0, none⟩ = some (.slice Ao15 t882.length co15) ∧ w'.cell? ⟨gb903, 0, none⟩ = some (.slice Ao23 t894.length co23) ∧ w'.cell? ⟨gb910, 0, none⟩ = some (.slice Ao28 t904.length co28) ∧ w'.cell? ⟨gb917, 0, none⟩ = some (.slice Ao36 t914.length co36)) (ds := []) (yz 53 0) (by kernel_rfl) rfl rfl ⟨bc BK889 0 _, bc BK903 0 _, bc BK910 0 _, bc BK917 0 _⟩ (fun hHeld => ?_); refine with_tabW laws_FnIdeals.tab11 laws_FnIdeals.bits11 (fun HT_ HW_ => ?_)
      generalize w41.drew = w62 at HO884 HO887 HO893 HO896 HO899 HO902 HO906 HO909 HO913 HO916 HO920 BK889 BK903 BK910 BK917 HB hHeld ⊢
      refine pa 0 (some 54) (yz 53 1) HT_ ?_
      refine pa 2 (some 56) (yz 53 5) HT_ ?_
      refine pa 3 (some 57) (yz 53 13) HT_ ?_
      refine tk 1 (some 55) (yz 53 15) HT_ HW_ hHeld ?_
      refine oa 4 (some 58) (yz 53 31) HT_ (fun K hK => ?_)
      refine goes_ Tryz.func14 (by kernel_rfl) rfl #[.agg #[.slice Ao15 t882.length co15], .slice Ao17 t885.length co17, .int .i64 t888] (by rfl) rfl rfl (by (try simp only [List.map_toArray, List.map_cons, List.map_nil]); first | done | rfl | (simp only [List.length_drop, List.length_take]; rfl)) ?_
      with_reducible refine (spec_InIdeal.calls k _ _ t882 _ _ t885 t888 t921 _ ?side1 ?side2 ?side3 ?side4 A42.out).mono ?_
      (case side1 => exact co (Kd.Q_reads' HO884.out).2.2)
      (case side2 => exact (Kd.Q_reads' HO884.out).2.1)
      (case side3 => exact co (Kd.R_reads' HO887.out).2.2)
      (case side4 => exact (Kd.R_reads' HO887.out).2.1)
      rintro e w63 ⟨rfl, hb⟩
      refine ⟨_, rfl, ?_⟩
      replace HO884 := qK HO884 hb
      replace HO887 := rK HO887 hb
      replace HO893 := rK HO893 hb
      replace HO896 := qK HO896 hb
      replace HO899 := rK HO899 hb
      replace HO902 := rK HO902 hb
      replace HO906 := qK HO906 hb
      replace HO909 := rK HO909 hb
      replace HO913 := rK HO913 hb
      replace HO916 := qK HO916 hb
      replace HO920 := rK HO920 hb
      replace BK889 := kb BK889 hb
      replace BK903 := kb BK903 hb
      replace BK910 := kb BK910 hb
      replace BK917 := kb BK917 hb
      replace HB := am (below_step bw hb)
      clear hb
      refine hK.out _ _ ⟨bc BK889 0 _, bc BK903 0 _, bc BK910 0 _, bc BK917 0 _⟩ (fun hHeld => ?_)
      clear hK K
      refine nm (some 58) ?_
      refine pa 5 (some 59) (yz 53 63) HT_ ?_
      refine pa 6 (some 60) (yz 53 127) HT_ ?_
      refine pa 7 (some 61) (yz 53 255) HT_ ?_
      refine pa 9 (some 63) (yz 53 767) HT_ ?_
      refine tk 8 (some 62) (yz 53 1023) HT_ HW_ hHeld ?_
      refine oa 10 (some 64) (yz 53 2047) HT_ (fun K hK => ?_)
      refine goes_ Tryz.func16 (by kernel_rfl) rfl #[.agg #[.slice Ao15 t882.length co15], .slice Ao17 t885.length co17] (by rfl) rfl rfl (by (try simp only [List.map_toArray, List.map_cons, List.map_nil]); first | done | rfl | (simp only [List.length_drop, List.length_take]; rfl)) ?_
      with_reducible refine (spec_IdealGens.calls k _ _ t882 _ _ t885 t922 _ ?side1 ?side2 ?side3 ?side4 A46.out).mono ?_
      (case side1 => exact co (Kd.Q_reads' HO884.out).2.2)
      (case side2 => exact (Kd.Q_reads' HO884.out).2.1)
      (case side3 => exact co (Kd.R_reads' HO887.out).2.2)
      (case side4 => exact (Kd.R_reads' HO887.out).2.1)
      rintro e w64 ⟨v923, rfl, ho0, hb⟩
      refine ⟨_, rfl, ?_⟩
      have HO924 := am (Kd.R_lower (Kd.R_new' (Kd.R_new' (Kd.R_new' (Kd.R_new' (Kd.R_new' (Kd.R_new' (Kd.R_new' (Kd.R_new' (Kd.R_new' (Kd.R_new' (Kd.R_new' ho0 (Kd.Q_lt (qo HO884.out))) (Kd.R_lt (ro HO887.out))) (Kd.R_lt (ro HO893.out))) (Kd.Q_lt (qo HO896.out))) (Kd.R_lt (ro HO899.out))) (Kd.R_lt (ro HO902.out))) (Kd.Q_lt (qo HO906.out))) (Kd.R_lt (ro HO909.out))) (Kd.R_lt (ro HO913.out))) (Kd.Q_lt (qo HO916.out))) (Kd.R_lt (ro HO920.out))) (below_size bw))
      replace HO884 := am (Kd.Q_elder' (qo HO884.out) (Kd.R_base ho0) hb)
      replace HO887 := am (Kd.R_elder' (ro HO887.out) (Kd.R_base ho0) hb)
      replace HO893 := am (Kd.R_elder' (ro HO893.out) (Kd.R_base ho0) hb)
      replace HO896 := am (Kd.Q_elder' (qo HO896.out) (Kd.R_base ho0) hb)
      replace HO899 := am (Kd.R_elder' (ro HO899.out) (Kd.R_base ho0) hb)
      replace HO902 := am (Kd.R_elder' (ro HO902.out) (Kd.R_base ho0) hb)
      replace HO906 := am (Kd.Q_elder' (qo HO906.out) (Kd.R_base ho0) hb)
      replace HO909 := am (Kd.R_elder' (ro HO909.out) (Kd.R_base ho0) hb)
      replace HO913 := am (Kd.R_elder' (ro HO913.out) (Kd.R_base ho0) hb)
      replace HO916 := am (Kd.Q_elder' (qo HO916.out) (Kd.R_base ho0) hb)
      replace HO920 := am (Kd.R_elder' (ro HO920.out) (Kd.R_base ho0) hb)
      replace BK889 := kb BK889 hb
      replace BK903 := kb BK903 hb
      replace BK910 := kb BK910 hb
      replace BK917 := kb BK917 hb
      replace HB := am (below_step bw hb)
      clear hb ho0
      obtain ⟨Ao65, co65, eo65⟩ := Kd.R_slice HO893.out
      (first | subst eo65 | (injection eo65 with f1_ f2_ f3_; have f4_ := f1_.symm; have f5_ := f3_.symm; clear f1_ f2_ f3_; subst f4_; subst f5_))
      obtain ⟨Ao66, co66, eo66⟩ := Kd.R_slice HO924.out
      (first | subst eo66 | (injection eo66 with f1_ f2_ f3_; have f4_ := f1_.symm; have f5_ := f3_.symm; clear f1_ f2_ f3_; subst f4_; subst f5_))
      refine hK.out _ _ ⟨bc BK889 0 _, bc BK903 0 _, bc BK910 0 _, bc BK917 0 _⟩ (fun hHeld => ?_)
      clear hK K
      refine nm (some 64) ?_
      refine oa 11 (some 65) (yz 53 4095) HT_ (fun K hK => ?_)
      refine goes_ Tryz.func15 (by kernel_rfl) rfl #[.slice Ao65 t891.length co65, .slice Ao66 t922.length co66] (by rfl) rfl rfl (by (try simp only [List.map_toArray, List.map_cons, List.map_nil]); first | done | rfl | (simp only [List.length_drop, List.length_take]; rfl)) ?_
      with_reducible refine (laws_sameInts.calls k _ _ t891 _ _ t922 true _ ?side1 ?side2 ?side3 ?side4 A47.out).mono ?_
      (case side1 => exact co (Kd.R_reads' HO893.out).2.2)
      (case side2 => exact (Kd.R_reads' HO893.out).2.1)
      (case side3 => exact co (Kd.R_reads' HO924.out).2.2)
      (case side4 => exact (Kd.R_reads' HO924.out).2.1)
      rintro e w' ⟨rfl, ⟨nd, rfl⟩⟩
      refine ⟨_, rfl, ?_⟩
      obtain ⟨Ao67, co67, eo67⟩ := Kd.R_slice HO899.out
      (first | subst eo67 | (injection eo67 with f1_ f2_ f3_; have f4_ := f1_.symm; have f5_ := f3_.symm; clear f1_ f2_ f3_; subst f4_; subst f5_))
      obtain ⟨Ao68, co68, eo68⟩ := Kd.R_slice HO902.out
      (first | subst eo68 | (injection eo68 with f1_ f2_ f3_; have f4_ := f1_.symm; have f5_ := f3_.symm; clear f1_ f2_ f3_; subst f4_; subst f5_))
      refine hK.out _ _ ⟨bc BK889 0 _, bc BK903 0 _, bc BK910 0 _, bc BK917 0 _⟩ (fun hHeld => ?_)
      clear hK K
      refine nm (some 65) ?_
      refine pa 12 (some 66) (yz 53 8191) HT_ ?_
      refine pa 13 (some 67) (yz 53 16383) HT_ ?_
      refine pa 14 (some 68) (yz 53 32767) HT_ ?_
      refine pa 16 (some 70) (yz 53 98303) HT_ ?_
      refine pa 17 (some 71) (yz 53 229375) HT_ ?_
      refine pa 20 (some 74) (yz 53 1277951) HT_ ?_
      refine pa 21 (some 75) (yz 53 3375103) HT_ ?_
      refine tk 15 (some 69) (yz 53 3407871) HT_ HW_ hHeld ?_
      refine tk 19 (some 73) (yz 53 3932159) HT_ HW_ hHeld ?_
      refine oa 18 (some 72) (yz 53 4194303) HT_ (fun K hK => ?_)
      refine goes_ Tryz.func17 (by kernel_rfl) rfl #[.agg #[.slice Ao23 t894.length co23], .slice Ao67 t897.length co67, .slice Ao68 t900.length co68] (by rfl) rfl rfl (by (try simp only [List.map_toArray, List.map_cons, List.map_nil]); first | done | rfl | (simp only [List.length_drop, List.length_take]; rfl)) ?_
      with_reducible refine (impl_IdealSum.calls k _ _ t894 _ _ t897 _ _ t900 t926 _ ?side1 ?side2 ?side3 ?side4 ?side5 ?side6 A49.out).mono ?_
      (case side1 => exact co (Kd.Q_reads' HO896.out).2.2)
      (case side2 => exact (Kd.Q_reads' HO896.out).2.1)
      (case side3 => exact co (Kd.R_reads' HO899.out).2.2)
      (case side4 => exact (Kd.R_reads' HO899.out).2.1)
      (case side5 => exact co (Kd.R_reads' HO902.out).2.2)
      (case side6 => exact (Kd.R_reads' HO902.out).2.1)
      rintro e w69 ⟨v927, rfl, ho0, hb⟩
      refine ⟨_, rfl, ?_⟩
      have HO928 := am (Kd.R_lower (Kd.R_new' (Kd.R_new' (Kd.R_new' (Kd.R_new' (Kd.R_new' (Kd.R_new' (Kd.R_new' (Kd.R_new' (Kd.R_new' (Kd.R_new' (Kd.R_new' (Kd.R_new' ho0 (Kd.Q_lt (qo HO884.out))) (Kd.R_lt (ro HO887.out))) (Kd.R_lt (ro HO893.out))) (Kd.Q_lt (qo HO896.out))) (Kd.R_lt (ro HO899.out))) (Kd.R_lt (ro HO902.out))) (Kd.Q_lt (qo HO906.out))) (Kd.R_lt (ro HO909.out))) (Kd.R_lt (ro HO913.out))) (Kd.Q_lt (qo HO916.out))) (Kd.R_lt (ro HO920.out))) (Kd.R_lt (ro HO924.out))) (below_size bw))
      replace HO884 := am (Kd.Q_elder' (qo HO884.out) (Kd.R_base ho0) hb)
      replace HO887 := am (Kd.R_elder' (ro HO887.out) (Kd.R_base ho0) hb)
      replace HO893 := am (Kd.R_elder' (ro HO893.out) (Kd.R_base ho0) hb)
      replace HO896 := am (Kd.Q_elder' (qo HO896.out) (Kd.R_base ho0) hb)
      replace HO899 := am (Kd.R_elder' (ro HO899.out) (Kd.R_base ho0) hb)
      replace HO902 := am (Kd.R_elder' (ro HO902.out) (Kd.R_base ho0) hb)
      replace HO906 := am (Kd.Q_elder' (qo HO906.out) (Kd.R_base ho0) hb)
      replace HO909 := am (Kd.R_elder' (ro HO909.out) (Kd.R_base ho0) hb)
      replace HO913 := am (Kd.R_elder' (ro HO913.out) (Kd.R_base ho0) hb)
      replace HO916 := am (Kd.Q_elder' (qo HO916.out) (Kd.R_base ho0) hb)
      replace HO920 := am (Kd.R_elder' (ro HO920.out) (Kd.R_base ho0) hb)
      replace HO924 := am (Kd.R_elder' (ro HO924.out) (Kd.R_base ho0) hb)
      replace BK889 := kb BK889 hb
      replace BK903 := kb BK903 hb
      replace BK910 := kb BK910 hb
      replace BK917 := kb BK917 hb
      replace HB := am (below_step bw hb)
      clear hb ho0
      refine hK.out _ _ ⟨bc BK889 0 _, bc BK903 0 _, bc BK910 0 _, bc BK917 0 _⟩ (fun hHeld => ?_)
      clear hK K
      refine nm (some 72) ?_
      refine oa 22 (some 76) (yz 53 8388607) HT_ (fun K hK => ?_)
      refine goes_ Tryz.func18 (by kernel_rfl) rfl #[.agg #[.slice Ao23 t894.length co23], .slice Ao67 t897.length co67, .slice Ao68 t900.length co68] (by rfl) rfl rfl (by (try simp only [List.map_toArray, List.map_cons, List.map_nil]); first | done | rfl | (simp only [List.length_drop, List.length_take]; rfl)) ?_
      with_reducible refine (spec_IdealSum.calls k _ _ t894 _ _ t897 _ _ t900 t929 _ ?side1 ?side2 ?side3 ?side4 ?side5 ?side6 A50.out).mono ?_
      (case side1 => exact co (Kd.Q_reads' HO896.out).2.2)
      (case side2 => exact (Kd.Q_reads' HO896.out).2.1)
      (case side3 => exact co (Kd.R_reads' HO899.out).2.2)
      (case side4 => exact (Kd.R_reads' HO899.out).2.1)
      (case side5 => exact co (Kd.R_reads' HO902.out).2.2)
      (case side6 => exact (Kd.R_reads' HO902.out).2.1)
      rintro e w70 ⟨v930, rfl, ho0, hb⟩
      refine ⟨_, rfl, ?_⟩
      have HO931 := am (Kd.R_lower (Kd.R_new' (Kd.R_new' (Kd.R_new' (Kd.R_new' (Kd.R_new' (Kd.R_new' (Kd.R_new' (Kd.R_new' (Kd.R_new' (Kd.R_new' (Kd.R_new' (Kd.R_new' (Kd.R_new' ho0 (Kd.Q_lt (qo HO884.out))) (Kd.R_lt (ro HO887.out))) (Kd.R_lt (ro HO893.out))) (Kd.Q_lt (qo HO896.out))) (Kd.R_lt (ro HO899.out))) (Kd.R_lt (ro HO902.out))) (Kd.Q_lt (qo HO906.out))) (Kd.R_lt (ro HO909.out))) (Kd.R_lt (ro HO913.out))) (Kd.Q_lt (qo HO916.out))) (Kd.R_lt (ro HO920.out))) (Kd.R_lt (ro HO924.out))) (Kd.R_lt (ro HO928.out))) (below_size bw))
      replace HO884 := am (Kd.Q_elder' (qo HO884.out) (Kd.R_base ho0) hb)
      replace HO887 := am (Kd.R_elder' (ro HO887.out) (Kd.R_base ho0) hb)
      replace HO893 := am (Kd.R_elder' (ro HO893.out) (Kd.R_base ho0) hb)
      replace HO896 := am (Kd.Q_elder' (qo HO896.out) (Kd.R_base ho0) hb)
      replace HO899 := am (Kd.R_elder' (ro HO899.out) (Kd.R_base ho0) hb)
      replace HO902 := am (Kd.R_elder' (ro HO902.out) (Kd.R_base ho0) hb)
      replace HO906 := am (Kd.Q_elder' (qo HO906.out) (Kd.R_base ho0) hb)
      replace HO909 := am (Kd.R_elder' (ro HO909.out) (Kd.R_base ho0) hb)
      replace HO913 := am (Kd.R_elder' (ro HO913.out) (Kd.R_base ho0) hb)
      replace HO916 := am (Kd.Q_elder' (qo HO916.out) (Kd.R_base ho0) hb)
      replace HO920 := am (Kd.R_elder' (ro HO920.out) (Kd.R_base ho0) hb)
      replace HO924 := am (Kd.R_elder' (ro HO924.out) (Kd.R_base ho0) hb)
      replace HO928 := am (Kd.R_elder' (ro HO928.out) (Kd.R_base ho0) hb)
      replace BK889 := kb BK889 hb
      replace BK903 := kb BK903 hb
      replace BK910 := kb BK910 hb
      replace BK917 := kb BK917 hb
      replace HB := am (below_step bw hb)
      clear hb ho0
      obtain ⟨Ao71, co71, eo71⟩ := Kd.R_slice HO928.out
      (first | subst eo71 | (injection eo71 with f1_ f2_ f3_; have f4_ := f1_.symm; have f5_ := f3_.symm; clear f1_ f2_ f3_; subst f4_; subst f5_))
      obtain ⟨Ao72, co72, eo72⟩ := Kd.R_slice HO931.out
      (first | subst eo72 | (injection eo72 with f1_ f2_ f3_; have f4_ := f1_.symm; have f5_ := f3_.symm; clear f1_ f2_ f3_; subst f4_; subst f5_))
      refine hK.out _ _ ⟨bc BK889 0 _, bc BK903 0 _, bc BK910 0 _, bc BK917 0 _⟩ (fun hHeld => ?_)
      clear hK K
      refine nm (some 76) ?_
      refine oa 23 (some 77) (yz 53 16777215) HT_ (fun K hK => ?_)
      refine goes_ Tryz.func15 (by kernel_rfl) rfl #[.slice Ao71 t926.length co71, .slice Ao72 t929.length co72] (by rfl) rfl rfl (by (try simp only [List.map_toArray, List.map_cons, List.map_nil]); first | done | rfl | (simp only [List.length_drop, List.length_take]; rfl)) ?_
      with_reducible refine (laws_sameInts.calls k _ _ t926 _ _ t929 true _ ?side1 ?side2 ?side3 ?side4 A51.out).mono ?_
      (case side1 => exact co (Kd.R_reads' HO928.out).2.2)
      (case side2 => exact (Kd.R_reads' HO928.out).2.1)
      (case side3 => exact co (Kd.R_reads' HO931.out).2.2)
      (case side4 => exact (Kd.R_reads' HO931.out).2.1)
      rintro e w' ⟨rfl, ⟨nd, rfl⟩⟩
      refine ⟨_, rfl, ?_⟩
      refine hK.out _ _ ⟨bc BK889 0 _, bc BK903 0 _, bc BK910 0 _, bc BK917 0 _⟩ (fun hHeld => ?_)
      clear hK K
      refine nm (some 77) ?_
      refine pa 24 (some 78) (yz 53 33554431) HT_ ?_
      refine pa 25 (some 79) (yz 53 67108863) HT_ ?_
      refine pa 26 (some 80) (yz 53 134217727) HT_ ?_
      refine pa 28 (some 82) (yz 53 402653183) HT_ ?_
      refine pa 29 (some 83) (yz 53 939524095) HT_ ?_
      refine pa 32 (some 86) (yz 53 5234491391) HT_ ?_
      refine pa 33 (some 87) (yz 53 13824425983) HT_ ?_
      refine tk 27 (some 81) (yz 53 13958643711) HT_ HW_ hHeld ?_
      refine tk 31 (some 85) (yz 53 16106127359) HT_ HW_ hHeld ?_
      refine oa 30 (some 84) (yz 53 17179869183) HT_ (fun K hK => ?_)
      refine goes_ Tryz.func17 (by kernel_rfl) rfl #[.agg #[.slice Ao23 t894.length co23], .slice Ao67 t897.length co67, .slice Ao68 t900.length co68] (by rfl) rfl rfl (by (try simp only [List.map_toArray, List.map_cons, List.map_nil]); first | done | rfl | (simp only [List.length_drop, List.length_take]; rfl)) ?_
      with_reducible refine (impl_IdealSum.calls k _ _ t894 _ _ t897 _ _ t900 t933 _ ?side1 ?side2 ?side3 ?side4 ?side5 ?side6 A53.out).mono ?_
      (case side1 => exact co (Kd.Q_reads' HO896.out).2.2)
      (case side2 => exact (Kd.Q_reads' HO896.out).2.1)
      (case side3 => exact co (Kd.R_reads' HO899.out).2.2)
      (case side4 => exact (Kd.R_reads' HO899.out).2.1)
      (case side5 => exact co (Kd.R_reads' HO902.out).2.2)
      (case side6 => exact (Kd.R_reads' HO902.out).2.1)
      rintro e w73 ⟨v934, rfl, ho0, hb⟩
      refine ⟨_, rfl, ?_⟩
      have HO935 := am (Kd.R_lower (Kd.R_new' (Kd.R_new' (Kd.R_new' (Kd.R_new' (Kd.R_new' (Kd.R_new' (Kd.R_new' (Kd.R_new' (Kd.R_new' (Kd.R_new' (Kd.R_new' (Kd.R_new' (Kd.R_new' (Kd.R_new' ho0 (Kd.Q_lt (qo HO884.out))) (Kd.R_lt (ro HO887.out))) (Kd.R_lt (ro HO893.out))) (Kd.Q_lt (qo HO896.out))) (Kd.R_lt (ro HO899.out))) (Kd.R_lt (ro HO902.out))) (Kd.Q_lt (qo HO906.out))) (Kd.R_lt (ro HO909.out))) (Kd.R_lt (ro HO913.out))) (Kd.Q_lt (qo HO916.out))) (Kd.R_lt (ro HO920.out))) (Kd.R_lt (ro HO924.out))) (Kd.R_lt (ro HO928.out))) (Kd.R_lt (ro HO931.out))) (below_size bw))
      replace HO884 := am (Kd.Q_elder' (qo HO884.out) (Kd.R_base ho0) hb)
      replace HO887 := am (Kd.R_elder' (ro HO887.out) (Kd.R_base ho0) hb)
      replace HO893 := am (Kd.R_elder' (ro HO893.out) (Kd.R_base ho0) hb)
      replace HO896 := am (Kd.Q_elder' (qo HO896.out) (Kd.R_base ho0) hb)
      replace HO899 := am (Kd.R_elder' (ro HO899.out) (Kd.R_base ho0) hb)
      replace HO902 := am (Kd.R_elder' (ro HO902.out) (Kd.R_base ho0) hb)
      replace HO906 := am (Kd.Q_elder' (qo HO906.out) (Kd.R_base ho0) hb)
      replace HO909 := am (Kd.R_elder' (ro HO909.out) (Kd.R_base ho0) hb)
      replace HO913 := am (Kd.R_elder' (ro HO913.out) (Kd.R_base ho0) hb)
      replace HO916 := am (Kd.Q_elder' (qo HO916.out) (Kd.R_base ho0) hb)
      replace HO920 := am (Kd.R_elder' (ro HO920.out) (Kd.R_base ho0) hb)
      replace HO924 := am (Kd.R_elder' (ro HO924.out) (Kd.R_base ho0) hb)
      replace HO928 := am (Kd.R_elder' (ro HO928.out) (Kd.R_base ho0) hb)
      replace HO931 := am (Kd.R_elder' (ro HO931.out) (Kd.R_base ho0) hb)
      replace BK889 := kb BK889 hb
      replace BK903 := kb BK903 hb
      replace BK910 := kb BK910 hb
      replace BK917 := kb BK917 hb
      replace HB := am (below_step bw hb)
      clear hb ho0
      refine hK.out _ _ ⟨bc BK889 0 _, bc BK903 0 _, bc BK910 0 _, bc BK917 0 _⟩ (fun hHeld => ?_)
      clear hK K
      refine nm (some 84) ?_
      refine oa 34 (some 88) (yz 53 34359738367) HT_ (fun K hK => ?_)
      refine goes_ Tryz.func17 (by kernel_rfl) rfl #[.agg #[.slice Ao23 t894.length co23], .slice Ao68 t900.length co68, .slice Ao67 t897.length co67] (by rfl) rfl rfl (by (try simp only [List.map_toArray, List.map_cons, List.map_nil]); first | done | rfl | (simp only [List.length_drop, List.length_take]; rfl)) ?_
      with_reducible refine (impl_IdealSum.calls k _ _ t894 _ _ t900 _ _ t897 t936 _ ?side1 ?side2 ?side3 ?side4 ?side5 ?side6 A54.out).mono ?_
      (case side1 => exact co (Kd.Q_reads' HO896.out).2.2)
      (case side2 => exact (Kd.Q_reads' HO896.out).2.1)
      (case side3 => exact co (Kd.R_reads' HO902.out).2.2)
      (case side4 => exact (Kd.R_reads' HO902.out).2.1)
      (case side5 => exact co (Kd.R_reads' HO899.out).2.2)
      (case side6 => exact (Kd.R_reads' HO899.out).2.1)
      rintro e w74 ⟨v937, rfl, ho0, hb⟩
      refine ⟨_, rfl, ?_⟩
      have HO938 := am (Kd.R_lower (Kd.R_new' (Kd.R_new' (Kd.R_new' (Kd.R_new' (Kd.R_new' (Kd.R_new' (Kd.R_new' (Kd.R_new' (Kd.R_new' (Kd.R_new' (Kd.R_new' (Kd.R_new' (Kd.R_new' (Kd.R_new' (Kd.R_new' ho0 (Kd.Q_lt (qo HO884.out))) (Kd.R_lt (ro HO887.out))) (Kd.R_lt (ro HO893.out))) (Kd.Q_lt (qo HO896.out))) (Kd.R_lt (ro HO899.out))) (Kd.R_lt (ro HO902.out))) (Kd.Q_lt (qo HO906.out))) (Kd.R_lt (ro HO909.out))) (Kd.R_lt (ro HO913.out))) (Kd.Q_lt (qo HO916.out))) (Kd.R_lt (ro HO920.out))) (Kd.R_lt (ro HO924.out))) (Kd.R_lt (ro HO928.out))) (Kd.R_lt (ro HO931.out))) (Kd.R_lt (ro HO935.out))) (below_size bw))
      replace HO884 := am (Kd.Q_elder' (qo HO884.out) (Kd.R_base ho0) hb)
      replace HO887 := am (Kd.R_elder' (ro HO887.out) (Kd.R_base ho0) hb)
      replace HO893 := am (Kd.R_elder' (ro HO893.out) (Kd.R_base ho0) hb)
      replace HO896 := am (Kd.Q_elder' (qo HO896.out) (Kd.R_base ho0) hb)
      replace HO899 := am (Kd.R_elder' (ro HO899.out) (Kd.R_base ho0) hb)
      replace HO902 := am (Kd.R_elder' (ro HO902.out) (Kd.R_base ho0) hb)
      replace HO906 := am (Kd.Q_elder' (qo HO906.out) (Kd.R_base ho0) hb)
      replace HO909 := am (Kd.R_elder' (ro HO909.out) (Kd.R_base ho0) hb)
      replace HO913 := am (Kd.R_elder' (ro HO913.out) (Kd.R_base ho0) hb)
      replace HO916 := am (Kd.Q_elder' (qo HO916.out) (Kd.R_base ho0) hb)
      replace HO920 := am (Kd.R_elder' (ro HO920.out) (Kd.R_base ho0) hb)
      replace HO924 := am (Kd.R_elder' (ro HO924.out) (Kd.R_base ho0) hb)
      replace HO928 := am (Kd.R_elder' (ro HO928.out) (Kd.R_base ho0) hb)
      replace HO931 := am (Kd.R_elder' (ro HO931.out) (Kd.R_base ho0) hb)
      replace HO935 := am (Kd.R_elder' (ro HO935.out) (Kd.R_base ho0) hb)
      replace BK889 := kb BK889 hb
      replace BK903 := kb BK903 hb
      replace BK910 := kb BK910 hb
      replace BK917 := kb BK917 hb
      replace HB := am (below_step bw hb)
      clear hb ho0
      obtain ⟨Ao75, co75, eo75⟩ := Kd.R_slice HO935.out
      (first | subst eo75 | (injection eo75 with f1_ f2_ f3_; have f4_ := f1_.symm; have f5_ := f3_.symm; clear f1_ f2_ f3_; subst f4_; subst f5_))
      obtain ⟨Ao76, co76, eo76⟩ := Kd.R_slice HO938.out
      (first | subst eo76 | (injection eo76 with f1_ f2_ f3_; have f4_ := f1_.symm; have f5_ := f3_.symm; clear f1_ f2_ f3_; subst f4_; subst f5_))
      refine hK.out _ _ ⟨bc BK889 0 _, bc BK903 0 _, bc BK910 0 _, bc BK917 0 _⟩ (fun hHeld => ?_)
      clear hK K
      refine nm (some 88) ?_
      refine oa 35 (some 89) (yz 53 68719476735) HT_ (fun K hK => ?_)
      refine goes_ Tryz.func15 (by kernel_rfl) rfl #[.slice Ao75 t933.length co75, .slice Ao76 t936.length co76] (by rfl) rfl rfl (by (try simp only [List.map_toArray, List.map_cons, List.map_nil]); first | done | rfl | (simp only [List.length_drop, List.length_take]; rfl)) ?_
      with_reducible refine (laws_sameInts.calls k _ _ t933 _ _ t936 true _ ?side1 ?side2 ?side3 ?side4 A55.out).mono ?_
      (case side1 => exact co (Kd.R_reads' HO935.out).2.2)
      (case side2 => exact (Kd.R_reads' HO935.out).2.1)
      (case side3 => exact co (Kd.R_reads' HO938.out).2.2)
      (case side4 => exact (Kd.R_reads' HO938.out).2.1)
      rintro e w' ⟨rfl, ⟨nd, rfl⟩⟩
      refine ⟨_, rfl, ?_⟩
      refine hK.out _ _ ⟨bc BK889 0 _, bc BK903 0 _, bc BK910 0 _, bc BK917 0 _⟩ (fun hHeld => ?_)
      clear hK K
      refine nm (some 89) ?_
      refine pa 36 (some 90) (yz 53 137438953471) HT_ ?_
      refine pa 37 (some 91) (yz 53 274877906943) HT_ ?_
      refine pa 38 (some 92) (yz 53 549755813887) HT_ ?_
      refine pa 39 (some 93) (yz 53 1099511627775) HT_ ?_
      refine pa 41 (some 95) (yz 53 3298534883327) HT_ ?_
      refine tk 40 (some 94) (yz 53 4398046511103) HT_ HW_ hHeld ?_
      refine oa 42 (some 96) (yz 53 8796093022207) HT_ (fun K hK => ?_)
      refine goes_ Tryz.func19 (by kernel_rfl) rfl #[.agg #[.slice Ao28 t904.length co28], .slice Ao32 t907.length co32] (by rfl) rfl rfl (by (try simp only [List.map_toArray, List.map_cons, List.map_nil]); first | done | rfl | (simp only [List.length_drop, List.length_take]; rfl)) ?_
      with_reducible refine (spec_DualGens.calls k _ _ t904 _ _ t907 t940 _ ?side1 ?side2 ?side3 ?side4 A57.out).mono ?_
      (case side1 => exact co (Kd.Q_reads' HO906.out).2.2)
      (case side2 => exact (Kd.Q_reads' HO906.out).2.1)
      (case side3 => exact co (Kd.R_reads' HO909.out).2.2)
      (case side4 => exact (Kd.R_reads' HO909.out).2.1)
      rintro e w77 ⟨v941, rfl, ho0, hb⟩
      refine ⟨_, rfl, ?_⟩
      have HO942 := am (Kd.R_lower (Kd.R_new' (Kd.R_new' (Kd.R_new' (Kd.R_new' (Kd.R_new' (Kd.R_new' (Kd.R_new' (Kd.R_new' (Kd.R_new' (Kd.R_new' (Kd.R_new' (Kd.R_new' (Kd.R_new' (Kd.R_new' (Kd.R_new' (Kd.R_new' ho0 (Kd.Q_lt (qo HO884.out))) (Kd.R_lt (ro HO887.out))) (Kd.R_lt (ro HO893.out))) (Kd.Q_lt (qo HO896.out))) (Kd.R_lt (ro HO899.out))) (Kd.R_lt (ro HO902.out))) (Kd.Q_lt (qo HO906.out))) (Kd.R_lt (ro HO909.out))) (Kd.R_lt (ro HO913.out))) (Kd.Q_lt (qo HO916.out))) (Kd.R_lt (ro HO920.out))) (Kd.R_lt (ro HO924.out))) (Kd.R_lt (ro HO928.out))) (Kd.R_lt (ro HO931.out))) (Kd.R_lt (ro HO935.out))) (Kd.R_lt (ro HO938.out))) (below_size bw))
      replace HO884 := am (Kd.Q_elder' (qo HO884.out) (Kd.R_base ho0) hb)
      replace HO887 := am (Kd.R_elder' (ro HO887.out) (Kd.R_base ho0) hb)
      replace HO893 := am (Kd.R_elder' (ro HO893.out) (Kd.R_base ho0) hb)
      replace HO896 := am (Kd.Q_elder' (qo HO896.out) (Kd.R_base ho0) hb)
      replace HO899 := am (Kd.R_elder' (ro HO899.out) (Kd.R_base ho0) hb)
      replace HO902 := am (Kd.R_elder' (ro HO902.out) (Kd.R_base ho0) hb)
      replace HO906 := am (Kd.Q_elder' (qo HO906.out) (Kd.R_base ho0) hb)
      replace HO909 := am (Kd.R_elder' (ro HO909.out) (Kd.R_base ho0) hb)
      replace HO913 := am (Kd.R_elder' (ro HO913.out) (Kd.R_base ho0) hb)
      replace HO916 := am (Kd.Q_elder' (qo HO916.out) (Kd.R_base ho0) hb)
      replace HO920 := am (Kd.R_elder' (ro HO920.out) (Kd.R_base ho0) hb)
      replace HO924 := am (Kd.R_elder' (ro HO924.out) (Kd.R_base ho0) hb)
      replace HO928 := am (Kd.R_elder' (ro HO928.out) (Kd.R_base ho0) hb)
      replace HO931 := am (Kd.R_elder' (ro HO931.out) (Kd.R_base ho0) hb)
      replace HO935 := am (Kd.R_elder' (ro HO935.out) (Kd.R_base ho0) hb)
      replace HO938 := am (Kd.R_elder' (ro HO938.out) (Kd.R_base ho0) hb)
      replace BK889 := kb BK889 hb
      replace BK903 := kb BK903 hb
      replace BK910 := kb BK910 hb
      replace BK917 := kb BK917 hb
      replace HB := am (below_step bw hb)
      clear hb ho0
      obtain ⟨Ao78, co78, eo78⟩ := Kd.R_slice HO913.out
      (first | subst eo78 | (injection eo78 with f1_ f2_ f3_; have f4_ := f1_.symm; have f5_ := f3_.symm; clear f1_ f2_ f3_; subst f4_; subst f5_))
      obtain ⟨Ao79, co79, eo79⟩ := Kd.R_slice HO942.out
      (first | subst eo79 | (injection eo79 with f1_ f2_ f3_; have f4_ := f1_.symm; have f5_ := f3_.symm; clear f1_ f2_ f3_; subst f4_; subst f5_))
      refine hK.out _ _ ⟨bc BK889 0 _, bc BK903 0 _, bc BK910 0 _, bc BK917 0 _⟩ (fun hHeld => ?_)
      clear hK K
      refine nm (some 96) ?_
      refine oa 43 (some 97) (yz 53 17592186044415) HT_ (fun K hK => ?_)
      refine goes_ Tryz.func15 (by kernel_rfl) rfl #[.slice Ao78 t911.length co78, .slice Ao79 t940.length co79] (by rfl) rfl rfl (by (try simp only [List.map_toArray, List.map_cons, List.map_nil]); first | done | rfl | (simp only [List.length_drop, List.length_take]; rfl)) ?_
      with_reducible refine (laws_sameInts.calls k _ _ t911 _ _ t940 true _ ?side1 ?side2 ?side3 ?side4 A58.out).mono ?_
      (case side1 => exact co (Kd.R_reads' HO913.out).2.2)
      (case side2 => exact (Kd.R_reads' HO913.out).2.1)
      (case side3 => exact co (Kd.R_reads' HO942.out).2.2)
      (case side4 => exact (Kd.R_reads' HO942.out).2.1)
      rintro e w' ⟨rfl, ⟨nd, rfl⟩⟩
      refine ⟨_, rfl, ?_⟩
      refine hK.out _ _ ⟨bc BK889 0 _, bc BK903 0 _, bc BK910 0 _, bc BK917 0 _⟩ (fun hHeld => ?_)
      clear hK K
      refine nm (some 97) ?_
      refine pa 44 (some 98) (yz 53 35184372088831) HT_ ?_
      refine pa 45 (some 99) (yz 53 70368744177663) HT_ ?_
      refine pa 46 (some 100) (yz 53 140737488355327) HT_ ?_
      refine pa 47 (some 101) (yz 53 281474976710655) HT_ ?_
      refine tk 48 (some 102) (yz 53 562949953421311) HT_ HW_ hHeld ?_
      refine oa 49 (some 103) (yz 53 1125899906842623) HT_ (fun K hK => ?_)
      refine goes_ Tryz.func20 (by kernel_rfl) rfl #[.agg #[.slice Ao36 t914.length co36]] (by rfl) rfl rfl (by (try simp only [List.map_toArray, List.map_cons, List.map_nil]); first | done | rfl | (simp only [List.length_drop, List.length_take]; rfl)) ?_
      with_reducible refine (spec_CanonicalGens.calls k _ _ t914 t944 _ ?side1 ?side2 A60.out).mono ?_
      (case side1 => exact co (Kd.Q_reads' HO916.out).2.2)
      (case side2 => exact (Kd.Q_reads' HO916.out).2.1)
      rintro e w80 ⟨v945, rfl, ho0, hb⟩
      refine ⟨_, rfl, ?_⟩
      have HO946 := am (Kd.R_lower (Kd.R_new' (Kd.R_new' (Kd.R_new' (Kd.R_new' (Kd.R_new' (Kd.R_new' (Kd.R_new' (Kd.R_new' (Kd.R_new' (Kd.R_new' (Kd.R_new' (Kd.R_new' (Kd.R_new' (Kd.R_new' (Kd.R_new' (Kd.R_new' (Kd.R_new' ho0 (Kd.Q_lt (qo HO884.out))) (Kd.R_lt (ro HO887.out))) (Kd.R_lt (ro HO893.out))) (Kd.Q_lt (qo HO896.out))) (Kd.R_lt (ro HO899.out))) (Kd.R_lt (ro HO902.out))) (Kd.Q_lt (qo HO906.out))) (Kd.R_lt (ro HO909.out))) (Kd.R_lt (ro HO913.out))) (Kd.Q_lt (qo HO916.out))) (Kd.R_lt (ro HO920.out))) (Kd.R_lt (ro HO924.out))) (Kd.R_lt (ro HO928.out))) (Kd.R_lt (ro HO931.out))) (Kd.R_lt (ro HO935.out))) (Kd.R_lt (ro HO938.out))) (Kd.R_lt (ro HO942.out))) (below_size bw))
      replace HO884 := am (Kd.Q_elder' (qo HO884.out) (Kd.R_base ho0) hb)
      replace HO887 := am (Kd.R_elder' (ro HO887.out) (Kd.R_base ho0) hb)
      replace HO893 := am (Kd.R_elder' (ro HO893.out) (Kd.R_base ho0) hb)
      replace HO896 := am (Kd.Q_elder' (qo HO896.out) (Kd.R_base ho0) hb)
      replace HO899 := am (Kd.R_elder' (ro HO899.out) (Kd.R_base ho0) hb)
      replace HO902 := am (Kd.R_elder' (ro HO902.out) (Kd.R_base ho0) hb)
      replace HO906 := am (Kd.Q_elder' (qo HO906.out) (Kd.R_base ho0) hb)
      replace HO909 := am (Kd.R_elder' (ro HO909.out) (Kd.R_base ho0) hb)
      replace HO913 := am (Kd.R_elder' (ro HO913.out) (Kd.R_base ho0) hb)
      replace HO916 := am (Kd.Q_elder' (qo HO916.out) (Kd.R_base ho0) hb)
      replace HO920 := am (Kd.R_elder' (ro HO920.out) (Kd.R_base ho0) hb)
      replace HO924 := am (Kd.R_elder' (ro HO924.out) (Kd.R_base ho0) hb)
      replace HO928 := am (Kd.R_elder' (ro HO928.out) (Kd.R_base ho0) hb)
      replace HO931 := am (Kd.R_elder' (ro HO931.out) (Kd.R_base ho0) hb)
      replace HO935 := am (Kd.R_elder' (ro HO935.out) (Kd.R_base ho0) hb)
      replace HO938 := am (Kd.R_elder' (ro HO938.out) (Kd.R_base ho0) hb)
      replace HO942 := am (Kd.R_elder' (ro HO942.out) (Kd.R_base ho0) hb)
      replace BK889 := kb BK889 hb
      replace BK903 := kb BK903 hb
      replace BK910 := kb BK910 hb
      replace BK917 := kb BK917 hb
      replace HB := am (below_step bw hb)
      clear hb ho0
      obtain ⟨Ao81, co81, eo81⟩ := Kd.R_slice HO920.out
      (first | subst eo81 | (injection eo81 with f1_ f2_ f3_; have f4_ := f1_.symm; have f5_ := f3_.symm; clear f1_ f2_ f3_; subst f4_; subst f5_))
      obtain ⟨Ao82, co82, eo82⟩ := Kd.R_slice HO946.out
      (first | subst eo82 | (injection eo82 with f1_ f2_ f3_; have f4_ := f1_.symm; have f5_ := f3_.symm; clear f1_ f2_ f3_; subst f4_; subst f5_))
      refine hK.out _ _ ⟨bc BK889 0 _, bc BK903 0 _, bc BK910 0 _, bc BK917 0 _⟩ (fun hHeld => ?_)
      clear hK K
      refine nm (some 103) ?_
      refine oa 50 (some 104) (yz 53 2251799813685247) HT_ (fun K hK => ?_)
      refine goes_ Tryz.func15 (by kernel_rfl) rfl #[.slice Ao81 t918.length co81, .slice Ao82 t944.length co82] (by rfl) rfl rfl (by (try simp only [List.map_toArray, List.map_cons, List.map_nil]); first | done | rfl | (simp only [List.length_drop, List.length_take]; rfl)) ?_
      with_reducible refine (laws_sameInts.calls k _ _ t918 _ _ t944 t947 _ ?side1 ?side2 ?side3 ?side4 A61.out).mono ?_
      (case side1 => exact co (Kd.R_reads' HO920.out).2.2)
      (case side2 => exact (Kd.R_reads' HO920.out).2.1)
      (case side3 => exact co (Kd.R_reads' HO946.out).2.2)
      (case side4 => exact (Kd.R_reads' HO946.out).2.1)
      rintro e w' ⟨rfl, ⟨nd, rfl⟩⟩
      refine ⟨_, rfl, ?_⟩
      refine hK.out _ _ ⟨bc BK889 0 _, bc BK903 0 _, bc BK910 0 _, bc BK917 0 _⟩ (fun hHeld => ?_)
      clear hK K
      refine nm (some 104) ?_
      refine pa 51 (some 105) (yz 53 4503599627370495) HT_ ?_
      refine pa 52 (some 106) (yz 53 9007199254740991) HT_ ?_
      refine done_ (done_of HT_.out (by kernel_rfl)) ?_
      try go_wp2
      go_meet
      case rel => exact ⟨_, (!t947), rr, H', ⟨om⟩, ⟨by (with_reducible repeat (first | apply Kd.R_alloc | apply Kd.R_drewN | apply Kd.R_drew)); exact Kd.R_mono HO893.out (fun _ hk => ⟨hk.1.1.1.1.1.1.1.1.1.1.2, ⟨hk.1.1.1.1.1.1.1.1.1.2, ⟨hk.1.1.1.1.1.1.1.2, ⟨hk.1.1.1.1.1.1.1.1.1.1.1.1.1.1.1.1.2, ⟨hk.1.1.1.1.1.1.1.1.1.1.1.1.1.1.2, ⟨hk.1.1.1.1.1.1.1.1.1.1.1.2, hk.1.1.1.1.1.1.1.1.2⟩⟩⟩⟩⟩⟩)⟩, ⟨by (with_reducible repeat (first | apply Kd.R_alloc | apply Kd.R_drewN | apply Kd.R_drew)); exact Kd.R_mono HO909.out (fun _ hk => ⟨hk.1.1.1.1.1.1.1.1.1.1.1.1.1.2, ⟨hk.1.1.1.1.1.1.1.1.1.2, ⟨hk.1.1.1.1.1.1.1.2, ⟨hk.1.1.1.1.1.1.1.1.1.1.1.1.1.1.1.2, ⟨hk.1.1.1.1.1.1.1.1.1.1.1.1.2, ⟨hk.1.1.1.1.1.1.1.1.1.1.1.1.1.1.1.1, hk.1.1.1.1.1.1.1.1.2⟩⟩⟩⟩⟩⟩)⟩, ⟨by (with_reducible repeat (first | apply Kd.R_alloc | apply Kd.R_drewN | apply Kd.R_drew)); exact Kd.R_mono HO913.out (fun _ hk => ⟨hk.1.1.1.1.1.1.1.1.1.1.1.1.1.1.2, ⟨hk.1.1.1.1.1.1.1.1.1.2, ⟨hk.1.1.1.1.1.1.1.2, ⟨hk.1.1.1.1.1.1.1.1.1.1.1.1.1.1.1.1.2, ⟨hk.1.1.1.1.1.1.1.1.1.1.1.1.1.2, ⟨hk.1.1.1.1.1.1.1.1.1.1.2, hk.1.1.1.1.1.1.1.1.2⟩⟩⟩⟩⟩⟩)⟩, ⟨by (with_reducible repeat (first | apply Kd.R_alloc | apply Kd.R_drewN | apply Kd.R_drew)); exact Kd.R_mono HO920.out (fun _ hk => ⟨hk.1.1.1.1.1.1.1.1.1.1.1.1.1.1.2, ⟨hk.1.1.1.1.1.1.1.1.1.2, ⟨hk.1.1.1.1.1.1.1.1.2, ⟨hk.1.1.1.1.1.1.1.1.1.1.1.1.1.1.1.1.2, ⟨hk.1.1.1.1.1.1.1.1.1.1.1.1.1.2, ⟨hk.1.1.1.1.1.1.1.1.1.1.2, hk.1.1.1.1.1.1.1.2⟩⟩⟩⟩⟩⟩)⟩, ⟨by (with_reducible repeat (first | apply Kd.Q_alloc | apply Kd.Q_drewN | apply Kd.Q_drew)); exact Kd.Q_mono HO884.out (fun _ hk => ⟨hk.1.1.1.1.1.1.1.1.1.1.1.1.1.1.1.2, ⟨hk.1.1.1.1.1.1.1.1.1.1.2, ⟨hk.1.1.1.1.1.1.1.1.1.2, ⟨hk.1.1.1.1.1.1.1.2, ⟨hk.1.1.1.1.1.1.1.1.1.1.1.1.1.1.2, ⟨hk.1.1.1.1.1.1.1.1.1.1.1.2, hk.1.1.1.1.1.1.1.1.2⟩⟩⟩⟩⟩⟩)⟩, ⟨by (with_reducible repeat (first | apply Kd.Q_alloc | apply Kd.Q_drewN | apply Kd.Q_drew)); exact Kd.Q_mono HO896.out (fun _ hk => ⟨hk.1.1.1.1.1.1.1.1.1.1.1.1.2, ⟨hk.1.1.1.1.1.1.1.1.1.1.2, ⟨hk.1.1.1.1.1.1.1.1.1.2, ⟨hk.1.1.1.1.1.1.1.2, ⟨hk.1.1.1.1.1.1.1.1.1.1.1.1.1.1.2, ⟨hk.1.1.1.1.1.1.1.1.1.1.1.2, hk.1.1.1.1.1.1.1.1.2⟩⟩⟩⟩⟩⟩)⟩, ⟨by (with_reducible repeat (first | apply Kd.Q_alloc | apply Kd.Q_drewN | apply Kd.Q_drew)); exact Kd.Q_mono HO906.out (fun _ hk => ⟨hk.1.1.1.1.1.1.1.1.1.1.1.1.1.2, ⟨hk.1.1.1.1.1.1.1.1.1.1.1.1.1.1.1.1, ⟨hk.1.1.1.1.1.1.1.1.1.2, ⟨hk.1.1.1.1.1.1.1.2, ⟨hk.1.1.1.1.1.1.1.1.1.1.1.1.1.1.1.2, ⟨hk.1.1.1.1.1.1.1.1.1.1.1.1.2, hk.1.1.1.1.1.1.1.1.2⟩⟩⟩⟩⟩⟩)⟩, ⟨by (with_reducible repeat (first | apply Kd.Q_alloc | apply Kd.Q_drewN | apply Kd.Q_drew)); exact Kd.Q_mono HO916.out (fun _ hk => ⟨hk.1.1.1.1.1.1.1.1.1.1.1.1.1.1.2, ⟨hk.1.1.1.1.1.1.1.1.1.2, ⟨hk.1.1.1.1.1.1.1.1.2, ⟨hk.1.1.1.1.1.1.1.2, ⟨hk.1.1.1.1.1.1.1.1.1.1.1.1.1.1.1.1.2, ⟨hk.1.1.1.1.1.1.1.1.1.1.1.1.1.2, hk.1.1.1.1.1.1.1.1.1.1.2⟩⟩⟩⟩⟩⟩)⟩, ⟨bo BK889.out⟩, ⟨bo BK903.out⟩, ⟨bo BK910.out⟩, ⟨bo BK917.out⟩, ⟨bw⟩⟩
     replace c59 := Bool.eq_false_iff.mpr c59
     subst c59
     exact absurd H (laws_FnIdeals.j0_no)
    replace c56 := Bool.eq_false_iff.mpr c56
    subst c56
    exact absurd H (laws_FnIdeals.j0_no)
   replace c52 := Bool.eq_false_iff.mpr c52
   subst c52
   exact absurd H (laws_FnIdeals.j0_no)
  replace c48 := Bool.eq_false_iff.mpr c48
  subst c48
  exact absurd H (laws_FnIdeals.j0_no)
 case rest =>
  clear HC12
  try clear c48
  obtain ⟨kq, x106_11, rfl, HA, HJ11, HO_7, HO_12, HO_13, HO_15, HO_890000, HO_904000, HO_911000, HO_918000, BK889, BK903, BK910, BK917, HB⟩ := hcut
  cases kq with
  | zero => exact absurd HA.out (by simp [laws_FnIdeals.j0])
  | succ kj11 =>
   have H := HA.out
   clear HA
   simp only [laws_FnIdeals.j0] at H
   replace H := gb H; obtain ⟨rfl, H⟩ | ⟨rfl, H⟩ := H
   ·exact absurd (Option.some.inj H) (by decide)
   have HC133 := am H
   clear H
   go_upto_region 13 with (fail)
   go_cut [117] (fun v117 wc => ∃ (kq : Nat) (x117_132 : Bool), v117 = .bool x117_132 ∧ Aside0 (laws_FnIdeals.j1 kq t907 t911 t918 x117_132 t904 t914 = some true) ∧ Aside0 (kq ≤ kj11) ∧ Aside0 (Kd.R (Kd.int .i64) 3 wc w.heap.size (fun k_ => some k_ ≠ (v912 : Value).ownBlock ∧ some k_ ≠ (v919 : Value).ownBlock ∧ nb k_ Ao15 t882 co15 ∧ nb k_ Ao23 t894 co23 ∧ nb k_ Ao28 t904 co28 ∧ nb k_ Ao36 t914 co36) (.slice Ao32 t907.length co32) t907) ∧ Aside0 (Kd.R (Kd.int .i64) 3 wc w.heap.size (fun k_ => nb k_ Ao32 t907 co32 ∧ some k_ ≠ (v919 : Value).ownBlock ∧ nb k_ Ao15 t882 co15 ∧ nb k_ Ao23 t894 co23 ∧ nb k_ Ao28 t904 co28 ∧ nb k_ Ao36 t914 co36) v912 t911) ∧ Aside0 (Kd.R (Kd.int .i64) 3 wc w.heap.size (fun k_ => nb k_ Ao32 t907 co32 ∧ some k_ ≠ (v912 : Value).ownBlock ∧ nb k_ Ao15 t882 co15 ∧ nb k_ Ao23 t894 co23 ∧ nb k_ Ao28 t904 co28 ∧ nb k_ Ao36 t914 co36) v919 t918) ∧ Aside0 (Kd.Q (Kd.int .i64) 3 wc w.heap.size (fun k_ => nb k_ Ao32 t907 co32 ∧ some k_ ≠ (v912 : Value).ownBlock ∧ some k_ ≠ (v919 : Value).ownBlock ∧ nb k_ Ao23 t894 co23 ∧ nb k_ Ao28 t904 co28 ∧ nb k_ Ao36 t914 co36) (.slice Ao15 t882.length co15) t882) ∧ Aside0 (Kd.Q (Kd.int .i64) 3 wc w.heap.size (fun k_ => nb k_ Ao32 t907 co32 ∧ some k_ ≠ (v912 : Value).ownBlock ∧ some k_ ≠ (v919 : Value).ownBlock ∧ nb k_ Ao15 t882 co15 ∧ nb k_ Ao28 t904 co28 ∧ nb k_ Ao36 t914 co36) (.slice Ao23 t894.length co23) t894) ∧ Aside0 (Kd.Q (Kd.int .i64) 3 wc w.heap.size (fun k_ => nb k_ Ao32 t907 co32 ∧ some k_ ≠ (v912 : Value).ownBlock ∧ some k_ ≠ (v919 : Value).ownBlock ∧ nb k_ Ao15 t882 co15 ∧ nb k_ Ao23 t894 co23 ∧ nb k_ Ao36 t914 co36) (.slice Ao28 t904.length co28) t904) ∧ Aside0 (Kd.Q (Kd.int .i64) 3 wc w.heap.size (fun k_ => nb k_ Ao32 t907 co32 ∧ some k_ ≠ (v912 : Value).ownBlock ∧ some k_ ≠ (v919 : Value).ownBlock ∧ nb k_ Ao15 t882 co15 ∧ nb k_ Ao23 t894 co23 ∧ nb k_ Ao28 t904 co28) (.slice Ao36 t914.length co36) t914) ∧ Aside0 (wc.heap[gb889]? = some (.cells #[(.slice Ao15 t882.length co15)] 26 (0, 0))) ∧ Aside0 (wc.heap[gb903]? = some (.cells #[(.slice Ao23 t894.length co23)] 26 (0, 0))) ∧ Aside0 (wc.heap[gb910]? = some (.cells #[(.slice Ao28 t904.length co28)] 26 (0, 0))) ∧ Aside0 (wc.heap[gb917]? = some (.cells #[(.slice Ao36 t914.length co36)] 26 (0, 0))) ∧ Aside0 (Below w.heap.size w wc))
   case first =>
    have H := HC133.out
    clear HC133
    replace H := gj H; obtain ⟨c134, H⟩ | ⟨c134, H⟩ := H
    ·have c134b0 : decide (0 < (t891.length : Int)) = true := decide_eq_true c134
     have c134b1 : decide (0 < t891.length) = true := decide_eq_true (by omega)
     clear c134
     (first | rw [c134b0] | (simp only [i64_w, i32_w]; rw [c134b0]) | skip)
     replace H := ga H; obtain ⟨t948, A135, H⟩ := H
     have H' := am H
     clear H
     obtain ⟨Ao136, co136, eo136⟩ := Kd.R_slice HO_7.out
     subst eo136
     have hnb137 := NB889_903.out
     have hnc137 := NB903_889.out
     have hnb138 := NB889_910.out
     have hnc138 := NB910_889.out
     have hnb139 := NB889_917.out
     have hnc139 := NB917_889.out
     have hcz140_0 := bc BK889 0 (.slice Ao15 t882.length co15)
     have hfz140_0 := blk_frozen BK889.out 0
     go_wp2_with (first | (go_at_call 7; (with_reducible refine (impl_InIdeal.calls kj11 _ _ t882 _ _ t891 t888 t948 _ ?side1 ?side2 ?side3 ?side4 A135.out).mono ?_); (case side1 => exact co (Kd.Q_reads' HO_890000.out).2.2); (case side2 => exact (Kd.Q_reads' HO_890000.out).2.1); (case side3 => exact co (Kd.R_reads' HO_7.out).2.2); (case side4 => exact (Kd.R_reads' HO_7.out).2.1); rintro e w141 ⟨rfl, hb⟩; replace HO_7 := rK HO_7 hb; replace HO_12 := rK HO_12 hb; replace HO_13 := rK HO_13 hb; replace HO_15 := rK HO_15 hb; replace HO_890000 := qK HO_890000 hb; replace HO_904000 := qK HO_904000 hb; replace HO_911000 := qK HO_911000 hb; replace HO_918000 := qK HO_918000 hb; replace BK889 := kb BK889 hb; replace BK903 := kb BK903 hb; replace BK910 := kb BK910 hb; replace BK917 := kb BK917 hb; replace HB := am (below_step bw hb); clear hb))
     go_meet
     case rel => exact ⟨_, ((t890 != t948)), rr, H', ⟨by have := HJ11.out; first | omega | exact Nat.le_refl _⟩, ⟨by (with_reducible repeat (first | apply Kd.R_alloc | apply Kd.R_drewN | apply Kd.R_drew)); exact Kd.R_mono HO_12.out (fun _ hk => ⟨hk.2.1, ⟨hk.2.2.1, ⟨hk.2.2.2.1, ⟨hk.2.2.2.2.1, ⟨hk.2.2.2.2.2.1, hk.2.2.2.2.2.2⟩⟩⟩⟩⟩)⟩, ⟨by (with_reducible repeat (first | apply Kd.R_alloc | apply Kd.R_drewN | apply Kd.R_drew)); exact Kd.R_mono HO_13.out (fun _ hk => ⟨hk.2.1, ⟨hk.2.2.1, ⟨hk.2.2.2.1, ⟨hk.2.2.2.2.1, ⟨hk.2.2.2.2.2.1, hk.2.2.2.2.2.2⟩⟩⟩⟩⟩)⟩, ⟨by (with_reducible repeat (first | apply Kd.R_alloc | apply Kd.R_drewN | apply Kd.R_drew)); exact Kd.R_mono HO_15.out (fun _ hk => ⟨hk.2.1, ⟨hk.2.2.1, ⟨hk.2.2.2.1, ⟨hk.2.2.2.2.1, ⟨hk.2.2.2.2.2.1, hk.2.2.2.2.2.2⟩⟩⟩⟩⟩)⟩, ⟨by (with_reducible repeat (first | apply Kd.Q_alloc | apply Kd.Q_drewN | apply Kd.Q_drew)); exact Kd.Q_mono HO_890000.out (fun _ hk => ⟨hk.2.1, ⟨hk.2.2.1, ⟨hk.2.2.2.1, ⟨hk.2.2.2.2.1, ⟨hk.2.2.2.2.2.1, hk.2.2.2.2.2.2⟩⟩⟩⟩⟩)⟩, ⟨by (with_reducible repeat (first | apply Kd.Q_alloc | apply Kd.Q_drewN | apply Kd.Q_drew)); exact Kd.Q_mono HO_904000.out (fun _ hk => ⟨hk.2.1, ⟨hk.2.2.1, ⟨hk.2.2.2.1, ⟨hk.2.2.2.2.1, ⟨hk.2.2.2.2.2.1, hk.2.2.2.2.2.2⟩⟩⟩⟩⟩)⟩, ⟨by (with_reducible repeat (first | apply Kd.Q_alloc | apply Kd.Q_drewN | apply Kd.Q_drew)); exact Kd.Q_mono HO_911000.out (fun _ hk => ⟨hk.2.1, ⟨hk.2.2.1, ⟨hk.2.2.2.1, ⟨hk.2.2.2.2.1, ⟨hk.2.2.2.2.2.1, hk.2.2.2.2.2.2⟩⟩⟩⟩⟩)⟩, ⟨by (with_reducible repeat (first | apply Kd.Q_alloc | apply Kd.Q_drewN | apply Kd.Q_drew)); exact Kd.Q_mono HO_918000.out (fun _ hk => ⟨hk.2.1, ⟨hk.2.2.1, ⟨hk.2.2.2.1, ⟨hk.2.2.2.2.1, ⟨hk.2.2.2.2.2.1, hk.2.2.2.2.2.2⟩⟩⟩⟩⟩)⟩, ⟨bo BK889.out⟩, ⟨bo BK903.out⟩, ⟨bo BK910.out⟩, ⟨bo BK917.out⟩, ⟨bw⟩⟩
    have c134b0 : decide (0 < (t891.length : Int)) = false := decide_eq_false c134
    have c134b1 : decide (0 < t891.length) = false := decide_eq_false (by omega)
    clear c134
    (first | rw [c134b0] | (simp only [i64_w, i32_w]; rw [c134b0]) | skip)
    have H' := am H
    clear H
    obtain ⟨Ao142, co142, eo142⟩ := Kd.R_slice HO_7.out
    subst eo142
    go_wp2
    any_goals (first | (exfalso; have h_ := of_decide_eq_false c134b1; contradiction) | skip)
    go_meet
    case rel => exact ⟨_, (false), rr, H', ⟨by have := HJ11.out; first | omega | exact Nat.le_refl _⟩, ⟨by (with_reducible repeat (first | apply Kd.R_alloc | apply Kd.R_drewN | apply Kd.R_drew)); exact Kd.R_mono HO_12.out (fun _ hk => ⟨hk.2.1, ⟨hk.2.2.1, ⟨hk.2.2.2.1, ⟨hk.2.2.2.2.1, ⟨hk.2.2.2.2.2.1, hk.2.2.2.2.2.2⟩⟩⟩⟩⟩)⟩, ⟨by (with_reducible repeat (first | apply Kd.R_alloc | apply Kd.R_drewN | apply Kd.R_drew)); exact Kd.R_mono HO_13.out (fun _ hk => ⟨hk.2.1, ⟨hk.2.2.1, ⟨hk.2.2.2.1, ⟨hk.2.2.2.2.1, ⟨hk.2.2.2.2.2.1, hk.2.2.2.2.2.2⟩⟩⟩⟩⟩)⟩, ⟨by (with_reducible repeat (first | apply Kd.R_alloc | apply Kd.R_drewN | apply Kd.R_drew)); exact Kd.R_mono HO_15.out (fun _ hk => ⟨hk.2.1, ⟨hk.2.2.1, ⟨hk.2.2.2.1, ⟨hk.2.2.2.2.1, ⟨hk.2.2.2.2.2.1, hk.2.2.2.2.2.2⟩⟩⟩⟩⟩)⟩, ⟨by (with_reducible repeat (first | apply Kd.Q_alloc | apply Kd.Q_drewN | apply Kd.Q_drew)); exact Kd.Q_mono HO_890000.out (fun _ hk => ⟨hk.2.1, ⟨hk.2.2.1, ⟨hk.2.2.2.1, ⟨hk.2.2.2.2.1, ⟨hk.2.2.2.2.2.1, hk.2.2.2.2.2.2⟩⟩⟩⟩⟩)⟩, ⟨by (with_reducible repeat (first | apply Kd.Q_alloc | apply Kd.Q_drewN | apply Kd.Q_drew)); exact Kd.Q_mono HO_904000.out (fun _ hk => ⟨hk.2.1, ⟨hk.2.2.1, ⟨hk.2.2.2.1, ⟨hk.2.2.2.2.1, ⟨hk.2.2.2.2.2.1, hk.2.2.2.2.2.2⟩⟩⟩⟩⟩)⟩, ⟨by (with_reducible repeat (first | apply Kd.Q_alloc | apply Kd.Q_drewN | apply Kd.Q_drew)); exact Kd.Q_mono HO_911000.out (fun _ hk => ⟨hk.2.1, ⟨hk.2.2.1, ⟨hk.2.2.2.1, ⟨hk.2.2.2.2.1, ⟨hk.2.2.2.2.2.1, hk.2.2.2.2.2.2⟩⟩⟩⟩⟩)⟩, ⟨by (with_reducible repeat (first | apply Kd.Q_alloc | apply Kd.Q_drewN | apply Kd.Q_drew)); exact Kd.Q_mono HO_918000.out (fun _ hk => ⟨hk.2.1, ⟨hk.2.2.1, ⟨hk.2.2.2.1, ⟨hk.2.2.2.2.1, ⟨hk.2.2.2.2.2.1, hk.2.2.2.2.2.2⟩⟩⟩⟩⟩)⟩, ⟨bo BK889.out⟩, ⟨bo BK903.out⟩, ⟨bo BK910.out⟩, ⟨bo BK917.out⟩, ⟨bw⟩⟩
   case rest =>
    clear HC133
    try clear c48; try clear c134; try clear c134b0; try clear c134b1; try clear hcz140_0; try clear hfz140_0
    obtain ⟨kq, x117_132, rfl, HA, HJ132, HO_12, HO_13, HO_15, HO_890000, HO_904000, HO_911000, HO_918000, BK889, BK903, BK910, BK917, HB⟩ := hcut
    cases kq with
    | zero => exact absurd HA.out (by simp [laws_FnIdeals.j1])
    | succ kj132 =>
     have H := HA.out
     clear HA
     simp only [laws_FnIdeals.j1] at H
     replace H := gb H; obtain ⟨rfl, H⟩ | ⟨rfl, H⟩ := H
     ·exact absurd (Option.some.inj H) (by decide)
     have H' := am H
     clear H
     go_wp2
     go_loopg [16] kj132 (fun kq v16 w' => ∃ (x16_3 : Int), v16 = .int .i64 x16_3 ∧ Aside0 (laws_FnIdeals.l0 kq t907 t911 t918 x16_3 t904 t914 = some true) ∧ Aside0 (kq ≤ kj132) ∧ Aside0 (Kd.R (Kd.int .i64) 3 w' w.heap.size (fun k_ => some k_ ≠ (v912 : Value).ownBlock ∧ some k_ ≠ (v919 : Value).ownBlock ∧ nb k_ Ao15 t882 co15 ∧ nb k_ Ao23 t894 co23 ∧ nb k_ Ao28 t904 co28 ∧ nb k_ Ao36 t914 co36) (.slice Ao32 t907.length co32) t907) ∧ Aside0 (Kd.R (Kd.int .i64) 3 w' w.heap.size (fun k_ => nb k_ Ao32 t907 co32 ∧ some k_ ≠ (v919 : Value).ownBlock ∧ nb k_ Ao15 t882 co15 ∧ nb k_ Ao23 t894 co23 ∧ nb k_ Ao28 t904 co28 ∧ nb k_ Ao36 t914 co36) v912 t911) ∧ Aside0 (Kd.R (Kd.int .i64) 3 w' w.heap.size (fun k_ => nb k_ Ao32 t907 co32 ∧ some k_ ≠ (v912 : Value).ownBlock ∧ nb k_ Ao15 t882 co15 ∧ nb k_ Ao23 t894 co23 ∧ nb k_ Ao28 t904 co28 ∧ nb k_ Ao36 t914 co36) v919 t918) ∧ Aside0 (Kd.Q (Kd.int .i64) 3 w' w.heap.size (fun k_ => nb k_ Ao32 t907 co32 ∧ some k_ ≠ (v912 : Value).ownBlock ∧ some k_ ≠ (v919 : Value).ownBlock ∧ nb k_ Ao23 t894 co23 ∧ nb k_ Ao28 t904 co28 ∧ nb k_ Ao36 t914 co36) (.slice Ao15 t882.length co15) t882) ∧ Aside0 (Kd.Q (Kd.int .i64) 3 w' w.heap.size (fun k_ => nb k_ Ao32 t907 co32 ∧ some k_ ≠ (v912 : Value).ownBlock ∧ some k_ ≠ (v919 : Value).ownBlock ∧ nb k_ Ao15 t882 co15 ∧ nb k_ Ao28 t904 co28 ∧ nb k_ Ao36 t914 co36) (.slice Ao23 t894.length co23) t894) ∧ Aside0 (Kd.Q (Kd.int .i64) 3 w' w.heap.size (fun k_ => nb k_ Ao32 t907 co32 ∧ some k_ ≠ (v912 : Value).ownBlock ∧ some k_ ≠ (v919 : Value).ownBlock ∧ nb k_ Ao15 t882 co15 ∧ nb k_ Ao23 t894 co23 ∧ nb k_ Ao36 t914 co36) (.slice Ao28 t904.length co28) t904) ∧ Aside0 (Kd.Q (Kd.int .i64) 3 w' w.heap.size (fun k_ => nb k_ Ao32 t907 co32 ∧ some k_ ≠ (v912 : Value).ownBlock ∧ some k_ ≠ (v919 : Value).ownBlock ∧ nb k_ Ao15 t882 co15 ∧ nb k_ Ao23 t894 co23 ∧ nb k_ Ao28 t904 co28) (.slice Ao36 t914.length co36) t914) ∧ Aside0 (w'.heap[gb889]? = some (.cells #[(.slice Ao15 t882.length co15)] 26 (0, 0))) ∧ Aside0 (w'.heap[gb903]? = some (.cells #[(.slice Ao23 t894.length co23)] 26 (0, 0))) ∧ Aside0 (w'.heap[gb910]? = some (.cells #[(.slice Ao28 t904.length co28)] 26 (0, 0))) ∧ Aside0 (w'.heap[gb917]? = some (.cells #[(.slice Ao36 t914.length co36)] 26 (0, 0))) ∧ Aside0 (Below w.heap.size w w'))
     case atStart => exact ⟨((-30)), rr, H', ⟨Nat.le_refl _⟩, ⟨ro HO_12.out⟩, ⟨ro HO_13.out⟩, ⟨ro HO_15.out⟩, ⟨qo HO_890000.out⟩, ⟨qo HO_904000.out⟩, ⟨qo HO_911000.out⟩, ⟨qo HO_918000.out⟩, ⟨bo BK889.out⟩, ⟨bo BK903.out⟩, ⟨bo BK910.out⟩, ⟨bo BK917.out⟩, ⟨bw⟩⟩
     case round =>
      clear H'
      try clear c48; try clear c134; try clear c134b0; try clear c134b1; try clear hcz140_0; try clear hfz140_0
      obtain ⟨x16_3, rfl, HA, HK3, HO_12, HO_13, HO_15, HO_890000, HO_904000, HO_911000, HO_918000, BK889, BK903, BK910, BK917, HB⟩ := hrel
      cases gk with
      | zero => exact absurd HA.out (by simp [laws_FnIdeals.l0])
      | succ k3 =>
       have H := HA.out
       clear HA
       simp only [laws_FnIdeals.l0] at H
       have HC144 := am H
       clear H
       go_upto_region 16 with (fail)
       go_cut [144] (fun v144 wc => ∃ (kq : Nat) (x144_143 : Bool), v144 = .bool x144_143 ∧ Aside0 (laws_FnIdeals.j3 kq t907 t911 t918 x16_3 x144_143 t904 t914 = some true) ∧ Aside0 (kq ≤ k3) ∧ Aside0 (Kd.R (Kd.int .i64) 3 wc w.heap.size (fun k_ => some k_ ≠ (v912 : Value).ownBlock ∧ some k_ ≠ (v919 : Value).ownBlock ∧ nb k_ Ao15 t882 co15 ∧ nb k_ Ao23 t894 co23 ∧ nb k_ Ao28 t904 co28 ∧ nb k_ Ao36 t914 co36) (.slice Ao32 t907.length co32) t907) ∧ Aside0 (Kd.R (Kd.int .i64) 3 wc w.heap.size (fun k_ => nb k_ Ao32 t907 co32 ∧ some k_ ≠ (v919 : Value).ownBlock ∧ nb k_ Ao15 t882 co15 ∧ nb k_ Ao23 t894 co23 ∧ nb k_ Ao28 t904 co28 ∧ nb k_ Ao36 t914 co36) v912 t911) ∧ Aside0 (Kd.R (Kd.int .i64) 3 wc w.heap.size (fun k_ => nb k_ Ao32 t907 co32 ∧ some k_ ≠ (v912 : Value).ownBlock ∧ nb k_ Ao15 t882 co15 ∧ nb k_ Ao23 t894 co23 ∧ nb k_ Ao28 t904 co28 ∧ nb k_ Ao36 t914 co36) v919 t918) ∧ Aside0 (Kd.Q (Kd.int .i64) 3 wc w.heap.size (fun k_ => nb k_ Ao32 t907 co32 ∧ some k_ ≠ (v912 : Value).ownBlock ∧ some k_ ≠ (v919 : Value).ownBlock ∧ nb k_ Ao23 t894 co23 ∧ nb k_ Ao28 t904 co28 ∧ nb k_ Ao36 t914 co36) (.slice Ao15 t882.length co15) t882) ∧ Aside0 (Kd.Q (Kd.int .i64) 3 wc w.heap.size (fun k_ => nb k_ Ao32 t907 co32 ∧ some k_ ≠ (v912 : Value).ownBlock ∧ some k_ ≠ (v919 : Value).ownBlock ∧ nb k_ Ao15 t882 co15 ∧ nb k_ Ao28 t904 co28 ∧ nb k_ Ao36 t914 co36) (.slice Ao23 t894.length co23) t894) ∧ Aside0 (Kd.Q (Kd.int .i64) 3 wc w.heap.size (fun k_ => nb k_ Ao32 t907 co32 ∧ some k_ ≠ (v912 : Value).ownBlock ∧ some k_ ≠ (v919 : Value).ownBlock ∧ nb k_ Ao15 t882 co15 ∧ nb k_ Ao23 t894 co23 ∧ nb k_ Ao36 t914 co36) (.slice Ao28 t904.length co28) t904) ∧ Aside0 (Kd.Q (Kd.int .i64) 3 wc w.heap.size (fun k_ => nb k_ Ao32 t907 co32 ∧ some k_ ≠ (v912 : Value).ownBlock ∧ some k_ ≠ (v919 : Value).ownBlock ∧ nb k_ Ao15 t882 co15 ∧ nb k_ Ao23 t894 co23 ∧ nb k_ Ao28 t904 co28) (.slice Ao36 t914.length co36) t914) ∧ Aside0 (wc.heap[gb889]? = some (.cells #[(.slice Ao15 t882.length co15)] 26 (0, 0))) ∧ Aside0 (wc.heap[gb903]? = some (.cells #[(.slice Ao23 t894.length co23)] 26 (0, 0))) ∧ Aside0 (wc.heap[gb910]? = some (.cells #[(.slice Ao28 t904.length co28)] 26 (0, 0))) ∧ Aside0 (wc.heap[gb917]? = some (.cells #[(.slice Ao36 t914.length co36)] 26 (0, 0))) ∧ Aside0 (Below w.heap.size w wc))
       case first =>
        have H := HC144.out
        clear HC144
        replace H := gi H; obtain ⟨c145b0, H⟩ | ⟨c145b0, H⟩ := H
        ·(first | rw [c145b0] | (simp only [i64_w, i32_w]; rw [c145b0]) | skip)
         replace H := gj H; obtain ⟨c146, H⟩ | ⟨c146, H⟩ := H
         ·have c146b0 : decide (0 < (t911.length : Int)) = true := decide_eq_true c146
          have c146b1 : decide (0 < t911.length) = true := decide_eq_true (by omega)
          clear c146
          replace H := gj H; obtain ⟨c147, H⟩ | ⟨c147, H⟩ := H
          ·have c147b0 : decide ((t911.length : Int) ≤ 20) = true := decide_eq_true c147
           have c147b1 : decide (t911.length ≤ 20) = true := decide_eq_true (by omega)
           clear c147
           replace H := gp H; obtain ⟨c148, H⟩ := H
           have c148b0 : decide (0 < (t911.length : Int)) = true := decide_eq_true c148
           have c148b1 : decide (0 < t911.length) = true := decide_eq_true (by omega)
           clear c148
           replace H := gj H; obtain ⟨c149, H⟩ | ⟨c149, H⟩ := H
           ·have c149b0 : decide ((-200) ≤ (rd t911 0)) = true := decide_eq_true c149
            clear c149
            obtain ⟨ji150, hji150⟩ : ∃ j_ : Int, (wrap64 ((t911.length : Int) - 1)) = j_ := ⟨_, rfl⟩
            replace H : (if 0 ≤ (ji150) then (if (ji150) < (t911.length : Int) then (laws_FnIdeals.j3 k3 t907 t911 t918 x16_3 (decide ((rd t911 (ji150)) ≤ 200)) t904 t914) else (none)) else (none)) = some true := by first | (rw [hji150] at H; exact H) | (simp only [hji150] at H ⊢; exact H)
            have hji150w : (IntKind.i64.wrap ((t911.length : Int) - 1)) = ji150 := (i64_w _).trans hji150
            replace H := gd H; obtain ⟨c151b0, H⟩ := H
            replace H := gd H; obtain ⟨c152b0, H⟩ := H
            have H' := am H
            clear H
            obtain ⟨Ao153, co153, eo153⟩ := Kd.R_slice HO_13.out
            subst eo153
            have p949 : 0 ≤ (0 : Int) := (by omega)
            have q949 : 0 < (t911.length : Int) := of_decide_eq_true (by first | (with_reducible assumption) | assumption)
            obtain ⟨ad949, e949, hx949_0⟩ := Kd.at_int (Kd.R_reads' HO_13.out).2.2 0 p949 q949
            cases e949
            have qi949 : (0 < t911.length) = True := eq_true (by omega)
            (try rw [show ((0 : Int)).toNat = 0 from rfl] at hx949_0)
            (try rw [Addr.add_zero'] at hx949_0)
            replace p949 := eq_true p949
            replace q949 := eq_true q949
            obtain ⟨⟨ad950, e950, hx950_0⟩, p950, q950⟩ := pq (Kd.at_int (Kd.R_reads' HO_13.out).2.2 (ji150))
            obtain rfl : ad949 = ad950 := (by injection e950)
            go_wp2
            any_goals (first | (exfalso; have h_ := of_decide_eq_true c148b1; contradiction) | skip)
            go_meet
            case rel => exact ⟨_, (decide ((rd t911 (ji150)) ≤ 200)), (by first | rfl | (simp; done) | (simp only [← hji150] <;> (first | rfl | simp)) | (simp [*]; done)), H', ⟨by have := HJ11.out; have := HJ132.out; have := HK3.out; first | omega | exact Nat.le_refl _⟩, ⟨ro HO_12.out⟩, ⟨ro HO_13.out⟩, ⟨ro HO_15.out⟩, ⟨qo HO_890000.out⟩, ⟨qo HO_904000.out⟩, ⟨qo HO_911000.out⟩, ⟨qo HO_918000.out⟩, ⟨bo BK889.out⟩, ⟨bo BK903.out⟩, ⟨bo BK910.out⟩, ⟨bo BK917.out⟩, ⟨bw⟩⟩
           have c149b0 : decide ((-200) ≤ (rd t911 0)) = false := decide_eq_false c149
           clear c149
           have H' := am H
           clear H
           obtain ⟨Ao154, co154, eo154⟩ := Kd.R_slice HO_13.out
           subst eo154
           have p949 : 0 ≤ (0 : Int) := (by omega)
           have q949 : 0 < (t911.length : Int) := of_decide_eq_true (by first | (with_reducible assumption) | assumption)
           obtain ⟨ad949, e949, hx949_0⟩ := Kd.at_int (Kd.R_reads' HO_13.out).2.2 0 p949 q949
           cases e949
           have qi949 : (0 < t911.length) = True := eq_true (by omega)
           (try rw [show ((0 : Int)).toNat = 0 from rfl] at hx949_0)
           (try rw [Addr.add_zero'] at hx949_0)
           replace p949 := eq_true p949
           replace q949 := eq_true q949
           go_wp2
           go_meet
           case rel => exact ⟨_, (false), rr, H', ⟨by have := HJ11.out; have := HJ132.out; have := HK3.out; first | omega | exact Nat.le_refl _⟩, ⟨ro HO_12.out⟩, ⟨ro HO_13.out⟩, ⟨ro HO_15.out⟩, ⟨qo HO_890000.out⟩, ⟨qo HO_904000.out⟩, ⟨qo HO_911000.out⟩, ⟨qo HO_918000.out⟩, ⟨bo BK889.out⟩, ⟨bo BK903.out⟩, ⟨bo BK910.out⟩, ⟨bo BK917.out⟩, ⟨bw⟩⟩
          have c147b0 : decide ((t911.length : Int) ≤ 20) = false := decide_eq_false c147
          have c147b1 : decide (t911.length ≤ 20) = false := decide_eq_false (by omega)
          clear c147
          have H' := am H
          clear H
          obtain ⟨Ao155, co155, eo155⟩ := Kd.R_slice HO_13.out
          subst eo155
          go_wp2
          go_meet
          case rel => exact ⟨_, (false), rr, H', ⟨by have := HJ11.out; have := HJ132.out; have := HK3.out; first | omega | exact Nat.le_refl _⟩, ⟨ro HO_12.out⟩, ⟨ro HO_13.out⟩, ⟨ro HO_15.out⟩, ⟨qo HO_890000.out⟩, ⟨qo HO_904000.out⟩, ⟨qo HO_911000.out⟩, ⟨qo HO_918000.out⟩, ⟨bo BK889.out⟩, ⟨bo BK903.out⟩, ⟨bo BK910.out⟩, ⟨bo BK917.out⟩, ⟨bw⟩⟩
         have c146b0 : decide (0 < (t911.length : Int)) = false := decide_eq_false c146
         have c146b1 : decide (0 < t911.length) = false := decide_eq_false (by omega)
         clear c146
         have H' := am H
         clear H
         obtain ⟨Ao156, co156, eo156⟩ := Kd.R_slice HO_13.out
         subst eo156
         go_wp2
         any_goals (first | (exfalso; have h_ := of_decide_eq_false c146b1; contradiction) | skip)
         go_meet
         case rel => exact ⟨_, (false), rr, H', ⟨by have := HJ11.out; have := HJ132.out; have := HK3.out; first | omega | exact Nat.le_refl _⟩, ⟨ro HO_12.out⟩, ⟨ro HO_13.out⟩, ⟨ro HO_15.out⟩, ⟨qo HO_890000.out⟩, ⟨qo HO_904000.out⟩, ⟨qo HO_911000.out⟩, ⟨qo HO_918000.out⟩, ⟨bo BK889.out⟩, ⟨bo BK903.out⟩, ⟨bo BK910.out⟩, ⟨bo BK917.out⟩, ⟨bw⟩⟩
        ·(first | rw [c145b0] | (simp only [i64_w, i32_w]; rw [c145b0]) | skip)
         have H' := am H
         clear H
         go_wp2
         go_meet
         case rel => exact ⟨_, (false), rr, H', ⟨by have := HJ11.out; have := HJ132.out; have := HK3.out; first | omega | exact Nat.le_refl _⟩, ⟨ro HO_12.out⟩, ⟨ro HO_13.out⟩, ⟨ro HO_15.out⟩, ⟨qo HO_890000.out⟩, ⟨qo HO_904000.out⟩, ⟨qo HO_911000.out⟩, ⟨qo HO_918000.out⟩, ⟨bo BK889.out⟩, ⟨bo BK903.out⟩, ⟨bo BK910.out⟩, ⟨bo BK917.out⟩, ⟨bw⟩⟩
       case rest =>
        clear HC144
        try clear c48; try clear c134; try clear c134b0; try clear c134b1; try clear c145b0; try clear c146; try clear c146b0; try clear c146b1; try clear c147; try clear c147b0; try clear c147b1; try clear c148; try clear c148b0; try clear c148b1; try clear c149; try clear c149b0; try clear c151b0; try clear c152b0; try clear hcz140_0; try clear hfz140_0; try clear hx949_0; try clear hx950_0; try clear p949; try clear p950; try clear q949; try clear q950
        obtain ⟨kq, x144_143, rfl, HA, HJ143, HO_12, HO_13, HO_15, HO_890000, HO_904000, HO_911000, HO_918000, BK889, BK903, BK910, BK917, HB⟩ := hcut
        cases kq with
        | zero => exact absurd HA.out (by simp [laws_FnIdeals.j3])
        | succ kj143 =>
         have H := HA.out
         clear HA
         simp only [laws_FnIdeals.j3] at H
         replace H := gb H; obtain ⟨rfl, H⟩ | ⟨rfl, H⟩ := H
         ·have H' := am H
          clear H
          go_wp2
          go_loopg [17, 18] kj143 (fun kq v17 v18 w' => ∃ (x17_5 : Bool) (x18_5 : Int), v17 = .bool x17_5 ∧ v18 = .int .i64 x18_5 ∧ Aside0 (laws_FnIdeals.l1 kq t907 t911 t918 x16_3 x17_5 x18_5 t904 t914 = some true) ∧ Aside0 (kq ≤ kj143) ∧ Aside0 (Kd.R (Kd.int .i64) 3 w' w.heap.size (fun k_ => some k_ ≠ (v912 : Value).ownBlock ∧ some k_ ≠ (v919 : Value).ownBlock ∧ nb k_ Ao15 t882 co15 ∧ nb k_ Ao23 t894 co23 ∧ nb k_ Ao28 t904 co28 ∧ nb k_ Ao36 t914 co36) (.slice Ao32 t907.length co32) t907) ∧ Aside0 (Kd.R (Kd.int .i64) 3 w' w.heap.size (fun k_ => nb k_ Ao32 t907 co32 ∧ some k_ ≠ (v919 : Value).ownBlock ∧ nb k_ Ao15 t882 co15 ∧ nb k_ Ao23 t894 co23 ∧ nb k_ Ao28 t904 co28 ∧ nb k_ Ao36 t914 co36) v912 t911) ∧ Aside0 (Kd.R (Kd.int .i64) 3 w' w.heap.size (fun k_ => nb k_ Ao32 t907 co32 ∧ some k_ ≠ (v912 : Value).ownBlock ∧ nb k_ Ao15 t882 co15 ∧ nb k_ Ao23 t894 co23 ∧ nb k_ Ao28 t904 co28 ∧ nb k_ Ao36 t914 co36) v919 t918) ∧ Aside0 (Kd.Q (Kd.int .i64) 3 w' w.heap.size (fun k_ => nb k_ Ao32 t907 co32 ∧ some k_ ≠ (v912 : Value).ownBlock ∧ some k_ ≠ (v919 : Value).ownBlock ∧ nb k_ Ao23 t894 co23 ∧ nb k_ Ao28 t904 co28 ∧ nb k_ Ao36 t914 co36) (.slice Ao15 t882.length co15) t882) ∧ Aside0 (Kd.Q (Kd.int .i64) 3 w' w.heap.size (fun k_ => nb k_ Ao32 t907 co32 ∧ some k_ ≠ (v912 : Value).ownBlock ∧ some k_ ≠ (v919 : Value).ownBlock ∧ nb k_ Ao15 t882 co15 ∧ nb k_ Ao28 t904 co28 ∧ nb k_ Ao36 t914 co36) (.slice Ao23 t894.length co23) t894) ∧ Aside0 (Kd.Q (Kd.int .i64) 3 w' w.heap.size (fun k_ => nb k_ Ao32 t907 co32 ∧ some k_ ≠ (v912 : Value).ownBlock ∧ some k_ ≠ (v919 : Value).ownBlock ∧ nb k_ Ao15 t882 co15 ∧ nb k_ Ao23 t894 co23 ∧ nb k_ Ao36 t914 co36) (.slice Ao28 t904.length co28) t904) ∧ Aside0 (Kd.Q (Kd.int .i64) 3 w' w.heap.size (fun k_ => nb k_ Ao32 t907 co32 ∧ some k_ ≠ (v912 : Value).ownBlock ∧ some k_ ≠ (v919 : Value).ownBlock ∧ nb k_ Ao15 t882 co15 ∧ nb k_ Ao23 t894 co23 ∧ nb k_ Ao28 t904 co28) (.slice Ao36 t914.length co36) t914) ∧ Aside0 (w'.heap[gb889]? = some (.cells #[(.slice Ao15 t882.length co15)] 26 (0, 0))) ∧ Aside0 (w'.heap[gb903]? = some (.cells #[(.slice Ao23 t894.length co23)] 26 (0, 0))) ∧ Aside0 (w'.heap[gb910]? = some (.cells #[(.slice Ao28 t904.length co28)] 26 (0, 0))) ∧ Aside0 (w'.heap[gb917]? = some (.cells #[(.slice Ao36 t914.length co36)] 26 (0, 0))) ∧ Aside0 (Below w.heap.size w w'))
          case atStart => exact ⟨(true), (0), rr, rr, H', ⟨Nat.le_refl _⟩, ⟨ro HO_12.out⟩, ⟨ro HO_13.out⟩, ⟨ro HO_15.out⟩, ⟨qo HO_890000.out⟩, ⟨qo HO_904000.out⟩, ⟨qo HO_911000.out⟩, ⟨qo HO_918000.out⟩, ⟨bo BK889.out⟩, ⟨bo BK903.out⟩, ⟨bo BK910.out⟩, ⟨bo BK917.out⟩, ⟨bw⟩⟩
          case round =>
           clear H'
           try clear c48; try clear c134; try clear c134b0; try clear c134b1; try clear c145b0; try clear c146; try clear c146b0; try clear c146b1; try clear c147; try clear c147b0; try clear c147b1; try clear c148; try clear c148b0; try clear c148b1; try clear c149; try clear c149b0; try clear c151b0; try clear c152b0; try clear hcz140_0; try clear hfz140_0; try clear hx949_0; try clear hx950_0; try clear p949; try clear p950; try clear q949; try clear q950
           obtain ⟨x17_5, x18_5, rfl, rfl, HA, HK5, HO_12, HO_13, HO_15, HO_890000, HO_904000, HO_911000, HO_918000, BK889, BK903, BK910, BK917, HB⟩ := hrel
           cases gk with
           | zero => exact absurd HA.out (by simp [laws_FnIdeals.l1])
           | succ k5 =>
            have H := HA.out
            clear HA
            simp only [laws_FnIdeals.l1] at H
            replace H := gi H; obtain ⟨c158b0, H⟩ | ⟨c158b0, H⟩ := H
            ·replace H := gb H; obtain ⟨rfl, H⟩ | ⟨rfl, H⟩ := H
             ·obtain ⟨y951, hy951⟩ : ∃ y_ : List Int, y_ = (([0] : List Int)) := ⟨_, rfl⟩
              replace H : (if 0 ≤ x18_5 then ((impl_InIdeal.f k5 t904 y951 (wrap64 (x16_3 + (rd t907 x18_5)))).bind fun t955 => (laws_FnIdeals.l1 k5 t907 t911 t918 x16_3 t955 (wrap64 (x18_5 + 1)) t904 t914)) else (none)) = some true := by first | (rw [hy951]; with_reducible first | exact H | exact bs H) | (with_reducible first | exact bs H | exact H) | (rw [hy951]; exact H) | exact H
              have Ny951 := am hy951
              clear hy951
              replace H := gd H; obtain ⟨c160b0, H⟩ := H
              replace H := ga H; obtain ⟨t955, A161, H⟩ := H
              have H' := am H
              clear H
              try go_wp2
              replace HO_12 := am (Kd.R_drew HO_12.out)
              replace HO_13 := am (Kd.R_drew HO_13.out)
              replace HO_15 := am (Kd.R_drew HO_15.out)
              replace HO_890000 := am (Kd.Q_drew HO_890000.out)
              replace HO_904000 := am (Kd.Q_drew HO_904000.out)
              replace HO_911000 := am (Kd.Q_drew HO_911000.out)
              replace HO_918000 := am (Kd.Q_drew HO_918000.out)
              replace BK889 := bd BK889
              replace BK903 := bd BK903
              replace BK910 := bd BK910
              replace BK917 := bd BK917
              replace HB := am (below_drew1 HB.out)
              obtain ⟨⟨ad954, e954, hx954_0⟩, p954, q954⟩ := pq (Kd.at_int (Kd.R_reads' HO_12.out).2.2 x18_5)
              cases e954
              refine start_ (n := 13) (S := fun w' => w'.cell? ⟨gb910, 0, none⟩ = some (.slice Ao28 t904.length co28) ∧ w'.cell? (ad954.add (x18_5).toNat) = some (.int .i64 (rd t907 x18_5))) (ds := []) (yz 13 0) (by kernel_rfl) rfl rfl ⟨bc BK910 0 _, hx954_0⟩ (fun hHeld => ?_); refine with_tabW laws_FnIdeals.tab22 laws_FnIdeals.bits22 (fun HT_ HW_ => ?_)
              generalize wr.drew = w162 at HO_12 HO_13 HO_15 HO_890000 HO_904000 HO_911000 HO_918000 BK889 BK903 BK910 BK917 HB hx954_0 hHeld ⊢
              refine pa 0 (some 153) (yz 13 1) HT_ ?_
              refine pa 1 (some 154) (yz 13 3) HT_ ?_
              refine pa 4 (some 157) (yz 13 19) HT_ ?_
              refine pa 5 (some 158) (yz 13 51) HT_ ?_
              refine pa 6 (some 159) (yz 13 115) HT_ ?_
              refine pa 7 (some 160) (yz 13 243) HT_ ?_
              refine tk 2 (some 155) (yz 13 247) HT_ HW_ hHeld ?_
              refine tk 8 (some 161) (yz 13 503) HT_ HW_ hHeld ?_
              refine pa 9 (some 162) (yz 13 1015) HT_ ?_
              refine oa 3 (some 156) (yz 13 1023) HT_ (fun K hK => ?_)
              refine Kd.R_lit_step (Kd.int .i64) _ 3 ?hg (N := 156) ?hd (xs := ([0] : List Int)) (inner := [.int .i64 0]) (ok := fun _ => True) (okp := fun _ => True) ?hr ?hp (fun _ hk => hk) trivial (Below.refl _ _) (Nat.le_refl _) (by simp) ?_; (case hd => rfl); (case hg => rfl); (case hr => first | (go_simp; done) | (go_simp; rfl)); (case hp => exact (Reps.one (show Kd.M (Kd.int .i64) _ _ _ 0 [.int .i64 0] from rfl) (Reps.none _ _)))
              intro v952 w163 ho164 hb hg_ hnew_
              have HS1_ := (hb.cell (World.block_lt_of_cell? _ _ (hHeld.2))).trans (hHeld.2)
              clear hg_ hnew_
              (first | rw [← Ny951.out] at ho164 | (simp only [Int.reduceToNat] at ho164; rw [← Ny951.out] at ho164))
              have HO953 := am (Kd.R_lower (Kd.R_new' (Kd.R_new' (Kd.R_new' (Kd.R_new' (Kd.R_new' (Kd.R_new' (Kd.R_new' ho164 (Kd.R_lt (ro HO_12.out))) (Kd.R_lt (ro HO_13.out))) (Kd.R_lt (ro HO_15.out))) (Kd.Q_lt (qo HO_890000.out))) (Kd.Q_lt (qo HO_904000.out))) (Kd.Q_lt (qo HO_911000.out))) (Kd.Q_lt (qo HO_918000.out))) (below_size bw))
              replace HO_12 := am (Kd.R_elder' (ro HO_12.out) (Kd.R_base ho164) hb)
              replace HO_13 := am (Kd.R_elder' (ro HO_13.out) (Kd.R_base ho164) hb)
              replace HO_15 := am (Kd.R_elder' (ro HO_15.out) (Kd.R_base ho164) hb)
              replace HO_890000 := am (Kd.Q_elder' (qo HO_890000.out) (Kd.R_base ho164) hb)
              replace HO_904000 := am (Kd.Q_elder' (qo HO_904000.out) (Kd.R_base ho164) hb)
              replace HO_911000 := am (Kd.Q_elder' (qo HO_911000.out) (Kd.R_base ho164) hb)
              replace HO_918000 := am (Kd.Q_elder' (qo HO_918000.out) (Kd.R_base ho164) hb)
              replace BK889 := kb BK889 hb
              replace BK903 := kb BK903 hb
              replace BK910 := kb BK910 hb
              replace BK917 := kb BK917 hb
              replace HB := am (below_step bw hb)
              clear hb ho164
              obtain ⟨Ao165, co165, eo165⟩ := Kd.R_slice HO953.out
              (first | subst eo165 | (injection eo165 with f1_ f2_ f3_; have f4_ := f1_.symm; have f5_ := f3_.symm; clear f1_ f2_ f3_; subst f4_; subst f5_))
              refine hK.out _ _ ⟨bc BK910 0 _, HS1_⟩ (fun hHeld => ?_)
              clear hK K
              refine nm (some 156) ?_
              refine oa 10 (some 163) (yz 13 2047) HT_ (fun K hK => ?_)
              refine goes_ Tryz.func7 (by kernel_rfl) rfl #[.agg #[.slice Ao28 t904.length co28], .slice Ao165 y951.length co165, .int .i64 (wrap64 (x16_3 + (rd t907 x18_5)))] (by rfl) rfl rfl (by (try simp only [List.map_toArray, List.map_cons, List.map_nil]); first | done | rfl | (simp only [List.length_drop, List.length_take]; rfl)) ?_
              with_reducible refine (impl_InIdeal.calls k5 _ _ t904 _ _ y951 (wrap64 (x16_3 + (rd t907 x18_5))) t955 _ ?side1 ?side2 ?side3 ?side4 A161.out).mono ?_
              (case side1 => exact co (Kd.Q_reads' HO_911000.out).2.2)
              (case side2 => exact (Kd.Q_reads' HO_911000.out).2.1)
              (case side3 => exact co (Kd.R_reads' HO953.out).2.2)
              (case side4 => exact (Kd.R_reads' HO953.out).2.1)
              rintro e w166 ⟨rfl, hb⟩
              have HS1_ := (hb.cell (World.block_lt_of_cell? _ _ (hHeld.2))).trans (hHeld.2)
              refine ⟨_, rfl, ?_⟩
              replace HO_12 := rK HO_12 hb
              replace HO_13 := rK HO_13 hb
              replace HO_15 := rK HO_15 hb
              replace HO_890000 := qK HO_890000 hb
              replace HO_904000 := qK HO_904000 hb
              replace HO_911000 := qK HO_911000 hb
              replace HO_918000 := qK HO_918000 hb
              replace HO953 := rK HO953 hb
              replace BK889 := kb BK889 hb
              replace BK903 := kb BK903 hb
              replace BK910 := kb BK910 hb
              replace BK917 := kb BK917 hb
              replace HB := am (below_step bw hb)
              clear hb
              refine hK.out _ _ ⟨bc BK910 0 _, HS1_⟩ (fun hHeld => ?_)
              clear hK K
              refine nm (some 163) ?_
              refine pa 11 (some 164) (yz 13 4095) HT_ ?_
              refine pa 12 (some 17) (yz 13 8191) HT_ ?_
              refine done_ (done_of HT_.out (by kernel_rfl)) ?_
              try go_wp2
              go_roundg k5
              case measure => have := HJ11.out; have := HJ132.out; have := HK3.out; have := HJ143.out; have := HK5.out; omega
              case rel => exact ⟨(t955), (wrap64 (x18_5 + 1)), rr, rr, H', ⟨by have := HJ11.out; have := HJ132.out; have := HK3.out; have := HJ143.out; have := HK5.out; omega⟩, ⟨by (with_reducible repeat (first | apply Kd.R_alloc | apply Kd.R_drewN | apply Kd.R_drew)); exact Kd.R_mono HO_12.out (fun _ hk => ⟨hk.1.1, ⟨hk.1.2.1, ⟨hk.1.2.2.1, ⟨hk.1.2.2.2.1, ⟨hk.1.2.2.2.2.1, hk.1.2.2.2.2.2⟩⟩⟩⟩⟩)⟩, ⟨by (with_reducible repeat (first | apply Kd.R_alloc | apply Kd.R_drewN | apply Kd.R_drew)); exact Kd.R_mono HO_13.out (fun _ hk => ⟨hk.1.1, ⟨hk.1.2.1, ⟨hk.1.2.2.1, ⟨hk.1.2.2.2.1, ⟨hk.1.2.2.2.2.1, hk.1.2.2.2.2.2⟩⟩⟩⟩⟩)⟩, ⟨by (with_reducible repeat (first | apply Kd.R_alloc | apply Kd.R_drewN | apply Kd.R_drew)); exact Kd.R_mono HO_15.out (fun _ hk => ⟨hk.1.1, ⟨hk.1.2.1, ⟨hk.1.2.2.1, ⟨hk.1.2.2.2.1, ⟨hk.1.2.2.2.2.1, hk.1.2.2.2.2.2⟩⟩⟩⟩⟩)⟩, ⟨by (with_reducible repeat (first | apply Kd.Q_alloc | apply Kd.Q_drewN | apply Kd.Q_drew)); exact Kd.Q_mono HO_890000.out (fun _ hk => ⟨hk.1.1, ⟨hk.1.2.1, ⟨hk.1.2.2.1, ⟨hk.1.2.2.2.1, ⟨hk.1.2.2.2.2.1, hk.1.2.2.2.2.2⟩⟩⟩⟩⟩)⟩, ⟨by (with_reducible repeat (first | apply Kd.Q_alloc | apply Kd.Q_drewN | apply Kd.Q_drew)); exact Kd.Q_mono HO_904000.out (fun _ hk => ⟨hk.1.1, ⟨hk.1.2.1, ⟨hk.1.2.2.1, ⟨hk.1.2.2.2.1, ⟨hk.1.2.2.2.2.1, hk.1.2.2.2.2.2⟩⟩⟩⟩⟩)⟩, ⟨by (with_reducible repeat (first | apply Kd.Q_alloc | apply Kd.Q_drewN | apply Kd.Q_drew)); exact Kd.Q_mono HO_911000.out (fun _ hk => ⟨hk.1.1, ⟨hk.1.2.1, ⟨hk.1.2.2.1, ⟨hk.1.2.2.2.1, ⟨hk.1.2.2.2.2.1, hk.1.2.2.2.2.2⟩⟩⟩⟩⟩)⟩, ⟨by (with_reducible repeat (first | apply Kd.Q_alloc | apply Kd.Q_drewN | apply Kd.Q_drew)); exact Kd.Q_mono HO_918000.out (fun _ hk => ⟨hk.1.1, ⟨hk.1.2.1, ⟨hk.1.2.2.1, ⟨hk.1.2.2.2.1, ⟨hk.1.2.2.2.2.1, hk.1.2.2.2.2.2⟩⟩⟩⟩⟩)⟩, ⟨bo BK889.out⟩, ⟨bo BK903.out⟩, ⟨bo BK910.out⟩, ⟨bo BK917.out⟩, ⟨bw⟩⟩
             have H' := am H
             clear H
             try go_wp2
             replace HO_12 := am (Kd.R_drew HO_12.out)
             replace HO_13 := am (Kd.R_drew HO_13.out)
             replace HO_15 := am (Kd.R_drew HO_15.out)
             replace HO_890000 := am (Kd.Q_drew HO_890000.out)
             replace HO_904000 := am (Kd.Q_drew HO_904000.out)
             replace HO_911000 := am (Kd.Q_drew HO_911000.out)
             replace HO_918000 := am (Kd.Q_drew HO_918000.out)
             replace BK889 := bd BK889
             replace BK903 := bd BK903
             replace BK910 := bd BK910
             replace BK917 := bd BK917
             replace HB := am (below_drew1 HB.out)
             refine start_ (n := 13) (S := fun w' => True) (ds := []) (yz 13 0) (by kernel_rfl) rfl rfl trivial (fun hHeld => ?_); refine with_tabW laws_FnIdeals.tab22 laws_FnIdeals.bits22 (fun HT_ HW_ => ?_)
             generalize wr.drew = w167 at HO_12 HO_13 HO_15 HO_890000 HO_904000 HO_911000 HO_918000 BK889 BK903 BK910 BK917 HB hHeld ⊢
             refine pa 0 (some 153) (yz 13 1) HT_ ?_
             refine pa 1 (some 154) (yz 13 3) HT_ ?_
             refine pu 2 (some 155) (yz 13 7) HT_ ?_
             refine pu 3 (some 156) (yz 13 15) HT_ ?_
             refine pu 4 (some 157) (yz 13 31) HT_ ?_
             refine pu 5 (some 158) (yz 13 63) HT_ ?_
             refine pu 6 (some 159) (yz 13 127) HT_ ?_
             refine pu 7 (some 160) (yz 13 255) HT_ ?_
             refine pu 8 (some 161) (yz 13 511) HT_ ?_
             refine pu 9 (some 162) (yz 13 1023) HT_ ?_
             refine pu 10 (some 163) (yz 13 2047) HT_ ?_
             refine pa 11 (some 164) (yz 13 4095) HT_ ?_
             refine pa 12 (some 17) (yz 13 8191) HT_ ?_
             refine done_ (done_of HT_.out (by kernel_rfl)) ?_
             try go_wp2
             go_roundg k5
             case measure => have := HJ11.out; have := HJ132.out; have := HK3.out; have := HJ143.out; have := HK5.out; omega
             case rel => exact ⟨(false), (wrap64 (x18_5 + 1)), rr, rr, H', ⟨by have := HJ11.out; have := HJ132.out; have := HK3.out; have := HJ143.out; have := HK5.out; omega⟩, ⟨ro HO_12.out⟩, ⟨ro HO_13.out⟩, ⟨ro HO_15.out⟩, ⟨qo HO_890000.out⟩, ⟨qo HO_904000.out⟩, ⟨qo HO_911000.out⟩, ⟨qo HO_918000.out⟩, ⟨bo BK889.out⟩, ⟨bo BK903.out⟩, ⟨bo BK910.out⟩, ⟨bo BK917.out⟩, ⟨bw⟩⟩
            replace H := ga H; obtain ⟨t956, A168, H⟩ := H
            by_cases c169 : (x17_5 != t956) = true
            ·rw [if_pos c169] at H
             have c169b0 : (x17_5 != t956) = true := c169
             (try (have c169b1 : decide (x17_5 = t956) = false := by simpa using c169))
             (try (have c169b2 : (x17_5 == t956) = false := by simpa using c169))
             (try (have c169b3 : ¬ (x17_5 = t956) := by simpa using c169))
             clear c169
             exact absurd (Option.some.inj H) (by decide)
            rw [if_neg c169] at H
            have c169b0 : (x17_5 != t956) = false := by simpa using c169
            (try (have c169b1 : decide (x17_5 = t956) = true := by simpa using c169))
            (try (have c169b2 : (x17_5 == t956) = true := by simpa using c169))
            clear c169
            have H' := am H
            clear H
            have hnb176 := NB910_889.out
            have hnc176 := NB889_910.out
            have hnb177 := NB910_903.out
            have hnc177 := NB903_910.out
            have hnb178 := NB910_917.out
            have hnc178 := NB917_910.out
            have hcz179_0 := bc BK910 0 (.slice Ao28 t904.length co28)
            have hfz179_0 := blk_frozen BK910.out 0
            obtain ⟨Ao180, co180, eo180⟩ := Kd.R_slice HO_13.out
            subst eo180
            go_wp2_with (first | ((with_reducible refine gate_callee (f := 7) rfl ?_); refine goesL_ (some 169) rfl rfl Tryz.func7 (by kernel_rfl) rfl #[.agg #[.slice Ao28 t904.length co28], .slice Ao180 t911.length co180, .int .i64 x16_3] rfl (by (try simp only [List.map_toArray, List.map_cons, List.map_nil]); first | done | rfl | (simp only [List.length_drop, List.length_take]; rfl)) ?_; (with_reducible refine (impl_InIdeal.calls k5 _ _ t904 _ _ t911 x16_3 t956 _ ?side1 ?side2 ?side3 ?side4 A168.out).mono ?_); (case side1 => exact co (Kd.Q_reads' HO_911000.out).2.2); (case side2 => exact (Kd.Q_reads' HO_911000.out).2.1); (case side3 => exact co (Kd.R_reads' HO_13.out).2.2); (case side4 => exact (Kd.R_reads' HO_13.out).2.1); rintro e w181 ⟨rfl, hb⟩; refine ⟨_, rfl, ?_⟩; replace HO_12 := rK HO_12 hb; replace HO_13 := rK HO_13 hb; replace HO_15 := rK HO_15 hb; replace HO_890000 := qK HO_890000 hb; replace HO_904000 := qK HO_904000 hb; replace HO_911000 := qK HO_911000 hb; replace HO_918000 := qK HO_918000 hb; replace BK889 := kb BK889 hb; replace BK903 := kb BK903 hb; replace BK910 := kb BK910 hb; replace BK917 := kb BK917 hb; replace HB := am (below_step bw hb); clear hb))
            go_roundg k5
            case measure => have := HJ11.out; have := HJ132.out; have := HK3.out; have := HJ143.out; have := HK5.out; omega
            case rel => exact ⟨(wrap64 (x16_3 + 7)), rr, H', ⟨by have := HJ11.out; have := HJ132.out; have := HK3.out; have := HJ143.out; have := HK5.out; omega⟩, ⟨ro HO_12.out⟩, ⟨ro HO_13.out⟩, ⟨ro HO_15.out⟩, ⟨qo HO_890000.out⟩, ⟨qo HO_904000.out⟩, ⟨qo HO_911000.out⟩, ⟨qo HO_918000.out⟩, ⟨bo BK889.out⟩, ⟨bo BK903.out⟩, ⟨bo BK910.out⟩, ⟨bo BK917.out⟩, ⟨bw⟩⟩
         replace H := ga H; obtain ⟨t957, A182, H⟩ := H
         replace H := gb H; obtain ⟨rfl, H⟩ | ⟨rfl, H⟩ := H
         ·replace H := ga H; obtain ⟨t958, A184, H⟩ := H
          have H' := am H
          clear H
          have hnb185 := NB917_889.out
          have hnc185 := NB889_917.out
          have hnb186 := NB917_903.out
          have hnc186 := NB903_917.out
          have hnb187 := NB917_910.out
          have hnc187 := NB910_917.out
          have hcz188_0 := bc BK917 0 (.slice Ao36 t914.length co36)
          have hfz188_0 := blk_frozen BK917.out 0
          go_wp2_with (first | ((with_reducible refine gate_callee (f := 21) rfl ?_); refine goesL_ (some 172) rfl rfl Tryz.func21 (by kernel_rfl) rfl #[.agg #[.slice Ao36 t914.length co36]] rfl (by (try simp only [List.map_toArray, List.map_cons, List.map_nil]); first | done | rfl | (simp only [List.length_drop, List.length_take]; rfl)) ?_; (with_reducible refine (spec_IsSemigroup.calls kj143 _ _ t914 true _ ?side1 ?side2 A182.out).mono ?_); (case side1 => exact co (Kd.Q_reads' HO_918000.out).2.2); (case side2 => exact (Kd.Q_reads' HO_918000.out).2.1); rintro e w189 ⟨rfl, hb⟩; refine ⟨_, rfl, ?_⟩; replace HO_12 := rK HO_12 hb; replace HO_13 := rK HO_13 hb; replace HO_15 := rK HO_15 hb; replace HO_890000 := qK HO_890000 hb; replace HO_904000 := qK HO_904000 hb; replace HO_911000 := qK HO_911000 hb; replace HO_918000 := qK HO_918000 hb; replace BK889 := kb BK889 hb; replace BK903 := kb BK903 hb; replace BK910 := kb BK910 hb; replace BK917 := kb BK917 hb; replace HB := am (below_step bw hb); clear hb; have hcz190_0 := bc BK917 0 (.slice Ao36 t914.length co36); have hfz190_0 := blk_frozen BK917.out 0) | ((with_reducible refine gate_callee (f := 22) rfl ?_); refine goesL_ (some 178) rfl rfl Tryz.func22 (by kernel_rfl) rfl #[.agg #[.slice Ao36 t914.length co36]] rfl (by (try simp only [List.map_toArray, List.map_cons, List.map_nil]); first | done | rfl | (simp only [List.length_drop, List.length_take]; rfl)) ?_; (with_reducible refine (spec_FrobeniusOf.calls kj143 _ _ t914 t958 _ ?side1 ?side2 A184.out).mono ?_); (case side1 => exact co (Kd.Q_reads' HO_918000.out).2.2); (case side2 => exact (Kd.Q_reads' HO_918000.out).2.1); rintro e w191 ⟨rfl, hb⟩; refine ⟨_, rfl, ?_⟩; replace HO_12 := rK HO_12 hb; replace HO_13 := rK HO_13 hb; replace HO_15 := rK HO_15 hb; replace HO_890000 := qK HO_890000 hb; replace HO_904000 := qK HO_904000 hb; replace HO_911000 := qK HO_911000 hb; replace HO_918000 := qK HO_918000 hb; replace BK889 := kb BK889 hb; replace BK903 := kb BK903 hb; replace BK910 := kb BK910 hb; replace BK917 := kb BK917 hb; replace HB := am (below_step bw hb); clear hb))
          go_loopg [20] kj143 (fun kq v20 w' => ∃ (x20_5 : Int), v20 = .int .i64 x20_5 ∧ Aside0 (laws_FnIdeals.l2 kq t918 t958 x20_5 t914 = some true) ∧ Aside0 (kq ≤ kj143) ∧ Aside0 (Kd.R (Kd.int .i64) 3 w' w.heap.size (fun k_ => nb k_ Ao15 t882 co15 ∧ nb k_ Ao23 t894 co23 ∧ nb k_ Ao28 t904 co28 ∧ nb k_ Ao36 t914 co36) v919 t918) ∧ Aside0 (Kd.Q (Kd.int .i64) 3 w' w.heap.size (fun k_ => some k_ ≠ (v919 : Value).ownBlock ∧ nb k_ Ao23 t894 co23 ∧ nb k_ Ao28 t904 co28 ∧ nb k_ Ao36 t914 co36) (.slice Ao15 t882.length co15) t882) ∧ Aside0 (Kd.Q (Kd.int .i64) 3 w' w.heap.size (fun k_ => some k_ ≠ (v919 : Value).ownBlock ∧ nb k_ Ao15 t882 co15 ∧ nb k_ Ao28 t904 co28 ∧ nb k_ Ao36 t914 co36) (.slice Ao23 t894.length co23) t894) ∧ Aside0 (Kd.Q (Kd.int .i64) 3 w' w.heap.size (fun k_ => some k_ ≠ (v919 : Value).ownBlock ∧ nb k_ Ao15 t882 co15 ∧ nb k_ Ao23 t894 co23 ∧ nb k_ Ao36 t914 co36) (.slice Ao28 t904.length co28) t904) ∧ Aside0 (Kd.Q (Kd.int .i64) 3 w' w.heap.size (fun k_ => some k_ ≠ (v919 : Value).ownBlock ∧ nb k_ Ao15 t882 co15 ∧ nb k_ Ao23 t894 co23 ∧ nb k_ Ao28 t904 co28) (.slice Ao36 t914.length co36) t914) ∧ Aside0 (w'.heap[gb889]? = some (.cells #[(.slice Ao15 t882.length co15)] 26 (0, 0))) ∧ Aside0 (w'.heap[gb903]? = some (.cells #[(.slice Ao23 t894.length co23)] 26 (0, 0))) ∧ Aside0 (w'.heap[gb910]? = some (.cells #[(.slice Ao28 t904.length co28)] 26 (0, 0))) ∧ Aside0 (w'.heap[gb917]? = some (.cells #[(.slice Ao36 t914.length co36)] 26 (0, 0))) ∧ Aside0 (Below w.heap.size w w'))
          case atStart => exact ⟨((-5)), rr, H', ⟨Nat.le_refl _⟩, ⟨by (with_reducible repeat (first | apply Kd.R_alloc | apply Kd.R_drewN | apply Kd.R_drew)); exact Kd.R_mono HO_15.out (fun _ hk => ⟨hk.2.2.1, ⟨hk.2.2.2.1, ⟨hk.2.2.2.2.1, hk.2.2.2.2.2⟩⟩⟩)⟩, ⟨by (with_reducible repeat (first | apply Kd.Q_alloc | apply Kd.Q_drewN | apply Kd.Q_drew)); exact Kd.Q_mono HO_890000.out (fun _ hk => ⟨hk.2.2.1, ⟨hk.2.2.2.1, ⟨hk.2.2.2.2.1, hk.2.2.2.2.2⟩⟩⟩)⟩, ⟨by (with_reducible repeat (first | apply Kd.Q_alloc | apply Kd.Q_drewN | apply Kd.Q_drew)); exact Kd.Q_mono HO_904000.out (fun _ hk => ⟨hk.2.2.1, ⟨hk.2.2.2.1, ⟨hk.2.2.2.2.1, hk.2.2.2.2.2⟩⟩⟩)⟩, ⟨by (with_reducible repeat (first | apply Kd.Q_alloc | apply Kd.Q_drewN | apply Kd.Q_drew)); exact Kd.Q_mono HO_911000.out (fun _ hk => ⟨hk.2.2.1, ⟨hk.2.2.2.1, ⟨hk.2.2.2.2.1, hk.2.2.2.2.2⟩⟩⟩)⟩, ⟨by (with_reducible repeat (first | apply Kd.Q_alloc | apply Kd.Q_drewN | apply Kd.Q_drew)); exact Kd.Q_mono HO_918000.out (fun _ hk => ⟨hk.2.2.1, ⟨hk.2.2.2.1, ⟨hk.2.2.2.2.1, hk.2.2.2.2.2⟩⟩⟩)⟩, ⟨bo BK889.out⟩, ⟨bo BK903.out⟩, ⟨bo BK910.out⟩, ⟨bo BK917.out⟩, ⟨bw⟩⟩
          case round =>
           clear H'
           try clear c48; try clear c134; try clear c134b0; try clear c134b1; try clear c145b0; try clear c146; try clear c146b0; try clear c146b1; try clear c147; try clear c147b0; try clear c147b1; try clear c148; try clear c148b0; try clear c148b1; try clear c149; try clear c149b0; try clear c151b0; try clear c152b0; try clear c158b0; try clear c160b0; try clear c169; try clear c169b0; try clear c169b1; try clear c169b2; try clear hcz140_0; try clear hcz179_0; try clear hcz188_0; try clear hcz190_0; try clear hfz140_0; try clear hfz179_0; try clear hfz188_0; try clear hfz190_0; try clear hx949_0; try clear hx950_0; try clear hx954_0; try clear p949; try clear p950; try clear p954; try clear q949; try clear q950; try clear q954
           obtain ⟨x20_5, rfl, HA, HK5, HO_15, HO_890000, HO_904000, HO_911000, HO_918000, BK889, BK903, BK910, BK917, HB⟩ := hrel
           cases gk with
           | zero => exact absurd HA.out (by simp [laws_FnIdeals.l2])
           | succ k5 =>
            have H := HA.out
            clear HA
            simp only [laws_FnIdeals.l2] at H
            have HC192 := am H
            clear H
            go_upto_region 29 with (fail)
            go_cut [187] (fun v187 wc => ∃ (kq : Nat) (x187_191 : Bool), v187 = .bool x187_191 ∧ Aside0 (laws_FnIdeals.j6 kq t918 t958 x20_5 x187_191 t914 = some true) ∧ Aside0 (kq ≤ k5) ∧ Aside0 (Kd.R (Kd.int .i64) 3 wc w.heap.size (fun k_ => nb k_ Ao15 t882 co15 ∧ nb k_ Ao23 t894 co23 ∧ nb k_ Ao28 t904 co28 ∧ nb k_ Ao36 t914 co36) v919 t918) ∧ Aside0 (Kd.Q (Kd.int .i64) 3 wc w.heap.size (fun k_ => some k_ ≠ (v919 : Value).ownBlock ∧ nb k_ Ao23 t894 co23 ∧ nb k_ Ao28 t904 co28 ∧ nb k_ Ao36 t914 co36) (.slice Ao15 t882.length co15) t882) ∧ Aside0 (Kd.Q (Kd.int .i64) 3 wc w.heap.size (fun k_ => some k_ ≠ (v919 : Value).ownBlock ∧ nb k_ Ao15 t882 co15 ∧ nb k_ Ao28 t904 co28 ∧ nb k_ Ao36 t914 co36) (.slice Ao23 t894.length co23) t894) ∧ Aside0 (Kd.Q (Kd.int .i64) 3 wc w.heap.size (fun k_ => some k_ ≠ (v919 : Value).ownBlock ∧ nb k_ Ao15 t882 co15 ∧ nb k_ Ao23 t894 co23 ∧ nb k_ Ao36 t914 co36) (.slice Ao28 t904.length co28) t904) ∧ Aside0 (Kd.Q (Kd.int .i64) 3 wc w.heap.size (fun k_ => some k_ ≠ (v919 : Value).ownBlock ∧ nb k_ Ao15 t882 co15 ∧ nb k_ Ao23 t894 co23 ∧ nb k_ Ao28 t904 co28) (.slice Ao36 t914.length co36) t914) ∧ Aside0 (wc.heap[gb889]? = some (.cells #[(.slice Ao15 t882.length co15)] 26 (0, 0))) ∧ Aside0 (wc.heap[gb903]? = some (.cells #[(.slice Ao23 t894.length co23)] 26 (0, 0))) ∧ Aside0 (wc.heap[gb910]? = some (.cells #[(.slice Ao28 t904.length co28)] 26 (0, 0))) ∧ Aside0 (wc.heap[gb917]? = some (.cells #[(.slice Ao36 t914.length co36)] 26 (0, 0))) ∧ Aside0 (Below w.heap.size w wc))
            case first =>
             have H := HC192.out
             clear HC192
             replace H := gi H; obtain ⟨c193b0, H⟩ | ⟨c193b0, H⟩ := H
             ·(first | rw [c193b0] | (simp only [i64_w, i32_w]; rw [c193b0]) | skip)
              have H' := am H
              clear H
              obtain ⟨Ao194, co194, eo194⟩ := Kd.R_slice HO_15.out
              subst eo194
              go_wp2
              go_meet
              case rel => exact ⟨_, (decide ((t918.length : Int) ≤ 20)), rr, H', ⟨by have := HJ11.out; have := HJ132.out; have := HK3.out; have := HJ143.out; have := HK5.out; first | omega | exact Nat.le_refl _⟩, ⟨ro HO_15.out⟩, ⟨qo HO_890000.out⟩, ⟨qo HO_904000.out⟩, ⟨qo HO_911000.out⟩, ⟨qo HO_918000.out⟩, ⟨bo BK889.out⟩, ⟨bo BK903.out⟩, ⟨bo BK910.out⟩, ⟨bo BK917.out⟩, ⟨bw⟩⟩
             ·(first | rw [c193b0] | (simp only [i64_w, i32_w]; rw [c193b0]) | skip)
              have H' := am H
              clear H
              go_wp2
              go_meet
              case rel => exact ⟨_, (false), rr, H', ⟨by have := HJ11.out; have := HJ132.out; have := HK3.out; have := HJ143.out; have := HK5.out; first | omega | exact Nat.le_refl _⟩, ⟨ro HO_15.out⟩, ⟨qo HO_890000.out⟩, ⟨qo HO_904000.out⟩, ⟨qo HO_911000.out⟩, ⟨qo HO_918000.out⟩, ⟨bo BK889.out⟩, ⟨bo BK903.out⟩, ⟨bo BK910.out⟩, ⟨bo BK917.out⟩, ⟨bw⟩⟩
            case rest =>
             clear HC192
             try clear c48; try clear c134; try clear c134b0; try clear c134b1; try clear c145b0; try clear c146; try clear c146b0; try clear c146b1; try clear c147; try clear c147b0; try clear c147b1; try clear c148; try clear c148b0; try clear c148b1; try clear c149; try clear c149b0; try clear c151b0; try clear c152b0; try clear c158b0; try clear c160b0; try clear c169; try clear c169b0; try clear c169b1; try clear c169b2; try clear c193b0; try clear hcz140_0; try clear hcz179_0; try clear hcz188_0; try clear hcz190_0; try clear hfz140_0; try clear hfz179_0; try clear hfz188_0; try clear hfz190_0; try clear hx949_0; try clear hx950_0; try clear hx954_0; try clear p949; try clear p950; try clear p954; try clear q949; try clear q950; try clear q954
             obtain ⟨kq, x187_191, rfl, HA, HJ191, HO_15, HO_890000, HO_904000, HO_911000, HO_918000, BK889, BK903, BK910, BK917, HB⟩ := hcut
             cases kq with
             | zero => exact absurd HA.out (by simp [laws_FnIdeals.j6])
             | succ kj191 =>
              have H := HA.out
              clear HA
              simp only [laws_FnIdeals.j6] at H
              replace H := gb H; obtain ⟨rfl, H⟩ | ⟨rfl, H⟩ := H
              ·replace H := ga H; obtain ⟨t960, A196, H⟩ := H
               replace H := gj H; obtain ⟨c197, H⟩ | ⟨c197, H⟩ := H
               ·have c197b0 : decide (0 ≤ (wrap64 (t958 - x20_5))) = true := decide_eq_true c197
                clear c197
                replace H := ga H; obtain ⟨t961, A198, H⟩ := H
                by_cases c199 : (t960 == t961) = true
                ·rw [if_pos c199] at H
                 have c199b0 : (t960 == t961) = true := c199
                 (try (have c199b1 : decide (t960 = t961) = true := by simpa using c199))
                 (try (have c199b2 : (t960 == t961) = true := by simpa using c199))
                 clear c199
                 exact absurd (Option.some.inj H) (by decide)
                rw [if_neg c199] at H
                have c199b0 : (t960 == t961) = false := by simpa using c199
                (try (have c199b1 : decide (t960 = t961) = false := by simpa using c199))
                (try (have c199b2 : (t960 == t961) = false := by simpa using c199))
                (try (have c199b3 : ¬ (t960 = t961) := by simpa using c199))
                clear c199
                have H' := am H
                clear H
                have hnb208 := NB917_889.out
                have hnc208 := NB889_917.out
                have hnb209 := NB917_903.out
                have hnc209 := NB903_917.out
                have hnb210 := NB917_910.out
                have hnc210 := NB910_917.out
                have hcz211_0 := bc BK917 0 (.slice Ao36 t914.length co36)
                have hfz211_0 := blk_frozen BK917.out 0
                obtain ⟨Ao212, co212, eo212⟩ := Kd.R_slice HO_15.out
                subst eo212
                go_wp2_with (first | ((with_reducible refine gate_callee (f := 7) rfl ?_); refine goesL_ (some 193) rfl rfl Tryz.func7 (by kernel_rfl) rfl #[.agg #[.slice Ao36 t914.length co36], .slice Ao212 t918.length co212, .int .i64 x20_5] rfl (by (try simp only [List.map_toArray, List.map_cons, List.map_nil]); first | done | rfl | (simp only [List.length_drop, List.length_take]; rfl)) ?_; (with_reducible refine (impl_InIdeal.calls kj191 _ _ t914 _ _ t918 x20_5 t960 _ ?side1 ?side2 ?side3 ?side4 A196.out).mono ?_); (case side1 => exact co (Kd.Q_reads' HO_918000.out).2.2); (case side2 => exact (Kd.Q_reads' HO_918000.out).2.1); (case side3 => exact co (Kd.R_reads' HO_15.out).2.2); (case side4 => exact (Kd.R_reads' HO_15.out).2.1); rintro e w213 ⟨rfl, hb⟩; refine ⟨_, rfl, ?_⟩; replace HO_15 := rK HO_15 hb; replace HO_890000 := qK HO_890000 hb; replace HO_904000 := qK HO_904000 hb; replace HO_911000 := qK HO_911000 hb; replace HO_918000 := qK HO_918000 hb; replace BK889 := kb BK889 hb; replace BK903 := kb BK903 hb; replace BK910 := kb BK910 hb; replace BK917 := kb BK917 hb; replace HB := am (below_step bw hb); clear hb; have hcz214_0 := bc BK917 0 (.slice Ao36 t914.length co36); have hfz214_0 := blk_frozen BK917.out 0) | (go_at_call 23; (with_reducible refine (spec_Contains.calls kj191 _ _ t914 (wrap64 (t958 - x20_5)) t961 _ ?side1 ?side2 A198.out).mono ?_); (case side1 => exact co (Kd.Q_reads' HO_918000.out).2.2); (case side2 => exact (Kd.Q_reads' HO_918000.out).2.1); rintro e w215 ⟨rfl, hb⟩; replace HO_15 := rK HO_15 hb; replace HO_890000 := qK HO_890000 hb; replace HO_904000 := qK HO_904000 hb; replace HO_911000 := qK HO_911000 hb; replace HO_918000 := qK HO_918000 hb; replace BK889 := kb BK889 hb; replace BK903 := kb BK903 hb; replace BK910 := kb BK910 hb; replace BK917 := kb BK917 hb; replace HB := am (below_step bw hb); clear hb))
                go_roundg kj191
                case measure => have := HJ11.out; have := HJ132.out; have := HK3.out; have := HJ143.out; have := HK5.out; have := HJ191.out; omega
                case rel => exact ⟨(wrap64 (x20_5 + 1)), rr, H', ⟨by have := HJ11.out; have := HJ132.out; have := HK3.out; have := HJ143.out; have := HK5.out; have := HJ191.out; omega⟩, ⟨ro HO_15.out⟩, ⟨qo HO_890000.out⟩, ⟨qo HO_904000.out⟩, ⟨qo HO_911000.out⟩, ⟨qo HO_918000.out⟩, ⟨bo BK889.out⟩, ⟨bo BK903.out⟩, ⟨bo BK910.out⟩, ⟨bo BK917.out⟩, ⟨bw⟩⟩
               have c197b0 : decide (0 ≤ (wrap64 (t958 - x20_5))) = false := decide_eq_false c197
               clear c197
               by_cases c216 : (t960 == false) = true
               ·rw [if_pos c216] at H
                have c216b0 : (t960 == false) = true := c216
                (try (have c216b1 : decide (t960 = false) = true := by simpa using c216))
                (try (have c216b2 : (t960 == false) = true := by simpa using c216))
                clear c216
                exact absurd (Option.some.inj H) (by decide)
               rw [if_neg c216] at H
               have c216b0 : (t960 == false) = false := by simpa using c216
               (try (have c216b1 : decide (t960 = false) = false := by simpa using c216))
               (try (have c216b2 : (t960 == false) = false := by simpa using c216))
               (try (have c216b3 : ¬ (t960 = false) := by simpa using c216))
               clear c216
               have H' := am H
               clear H
               have hnb223 := NB917_889.out
               have hnc223 := NB889_917.out
               have hnb224 := NB917_903.out
               have hnc224 := NB903_917.out
               have hnb225 := NB917_910.out
               have hnc225 := NB910_917.out
               have hcz226_0 := bc BK917 0 (.slice Ao36 t914.length co36)
               have hfz226_0 := blk_frozen BK917.out 0
               obtain ⟨Ao227, co227, eo227⟩ := Kd.R_slice HO_15.out
               subst eo227
               go_wp2_with (first | ((with_reducible refine gate_callee (f := 7) rfl ?_); refine goesL_ (some 193) rfl rfl Tryz.func7 (by kernel_rfl) rfl #[.agg #[.slice Ao36 t914.length co36], .slice Ao227 t918.length co227, .int .i64 x20_5] rfl (by (try simp only [List.map_toArray, List.map_cons, List.map_nil]); first | done | rfl | (simp only [List.length_drop, List.length_take]; rfl)) ?_; (with_reducible refine (impl_InIdeal.calls kj191 _ _ t914 _ _ t918 x20_5 t960 _ ?side1 ?side2 ?side3 ?side4 A196.out).mono ?_); (case side1 => exact co (Kd.Q_reads' HO_918000.out).2.2); (case side2 => exact (Kd.Q_reads' HO_918000.out).2.1); (case side3 => exact co (Kd.R_reads' HO_15.out).2.2); (case side4 => exact (Kd.R_reads' HO_15.out).2.1); rintro e w228 ⟨rfl, hb⟩; refine ⟨_, rfl, ?_⟩; replace HO_15 := rK HO_15 hb; replace HO_890000 := qK HO_890000 hb; replace HO_904000 := qK HO_904000 hb; replace HO_911000 := qK HO_911000 hb; replace HO_918000 := qK HO_918000 hb; replace BK889 := kb BK889 hb; replace BK903 := kb BK903 hb; replace BK910 := kb BK910 hb; replace BK917 := kb BK917 hb; replace HB := am (below_step bw hb); clear hb))
               go_roundg kj191
               case measure => have := HJ11.out; have := HJ132.out; have := HK3.out; have := HJ143.out; have := HK5.out; have := HJ191.out; omega
               case rel => exact ⟨(wrap64 (x20_5 + 1)), rr, H', ⟨by have := HJ11.out; have := HJ132.out; have := HK3.out; have := HJ143.out; have := HK5.out; have := HJ191.out; omega⟩, ⟨ro HO_15.out⟩, ⟨qo HO_890000.out⟩, ⟨qo HO_904000.out⟩, ⟨qo HO_911000.out⟩, ⟨qo HO_918000.out⟩, ⟨bo BK889.out⟩, ⟨bo BK903.out⟩, ⟨bo BK910.out⟩, ⟨bo BK917.out⟩, ⟨bw⟩⟩
              replace H := ga H; obtain ⟨t959, A229, H⟩ := H
              have HRE_ := Option.some.inj H
              obtain ⟨Ao230, co230, eo230⟩ := Kd.R_slice HO_15.out
              subst eo230
              have hnb231 := NB917_889.out
              have hnc231 := NB889_917.out
              have hnb232 := NB917_903.out
              have hnc232 := NB903_917.out
              have hnb233 := NB917_910.out
              have hnc233 := NB910_917.out
              have hcz234_0 := bc BK917 0 (.slice Ao36 t914.length co36)
              have hfz234_0 := blk_frozen BK917.out 0
              go_wp2_with (first | ((with_reducible refine gate_callee (f := 24) rfl ?_); refine goesL_ (some 210) rfl rfl Tryz.func24 (by kernel_rfl) rfl #[.agg #[.slice Ao36 t914.length co36]] rfl (by (try simp only [List.map_toArray, List.map_cons, List.map_nil]); first | done | rfl | (simp only [List.length_drop, List.length_take]; rfl)) ?_; (with_reducible refine (spec_IsSymmetric.calls kj191 _ _ t914 t959 _ ?side1 ?side2 A229.out).mono ?_); (case side1 => exact co (Kd.Q_reads' HO_918000.out).2.2); (case side2 => exact (Kd.Q_reads' HO_918000.out).2.1); rintro e w235 ⟨rfl, hb⟩; refine ⟨_, rfl, ?_⟩; replace HO_15 := rK HO_15 hb; replace HO_890000 := qK HO_890000 hb; replace HO_904000 := qK HO_904000 hb; replace HO_911000 := qK HO_911000 hb; replace HO_918000 := qK HO_918000 hb; replace BK889 := kb BK889 hb; replace BK903 := kb BK903 hb; replace BK910 := kb BK910 hb; replace BK917 := kb BK917 hb; replace HB := am (below_step bw hb); clear hb))
              go_ret
              exact ⟨re, bw⟩
         have HRE_ := Option.some.inj H
         have hnb236 := NB917_889.out
         have hnc236 := NB889_917.out
         have hnb237 := NB917_903.out
         have hnc237 := NB903_917.out
         have hnb238 := NB917_910.out
         have hnc238 := NB910_917.out
         have hcz239_0 := bc BK917 0 (.slice Ao36 t914.length co36)
         have hfz239_0 := blk_frozen BK917.out 0
         go_wp2_with (first | ((with_reducible refine gate_callee (f := 21) rfl ?_); refine goesL_ (some 172) rfl rfl Tryz.func21 (by kernel_rfl) rfl #[.agg #[.slice Ao36 t914.length co36]] rfl (by (try simp only [List.map_toArray, List.map_cons, List.map_nil]); first | done | rfl | (simp only [List.length_drop, List.length_take]; rfl)) ?_; (with_reducible refine (spec_IsSemigroup.calls kj143 _ _ t914 false _ ?side1 ?side2 A182.out).mono ?_); (case side1 => exact co (Kd.Q_reads' HO_918000.out).2.2); (case side2 => exact (Kd.Q_reads' HO_918000.out).2.1); rintro e w240 ⟨rfl, hb⟩; refine ⟨_, rfl, ?_⟩; replace HO_12 := rK HO_12 hb; replace HO_13 := rK HO_13 hb; replace HO_15 := rK HO_15 hb; replace HO_890000 := qK HO_890000 hb; replace HO_904000 := qK HO_904000 hb; replace HO_911000 := qK HO_911000 hb; replace HO_918000 := qK HO_918000 hb; replace BK889 := kb BK889 hb; replace BK903 := kb BK903 hb; replace BK910 := kb BK910 hb; replace BK917 := kb BK917 hb; replace HB := am (below_step bw hb); clear hb; obtain ⟨Ao241, co241, eo241⟩ := Kd.R_slice HO_15.out; subst eo241))
         go_ret
         exact ⟨re, bw⟩

/-- THE ONE PURE STATEMENT of laws_FnIdeals: yours. -/
def laws_FnIdeals.Pure : Prop := ∀ (l0 : List Int), l0.length ≤ maxLen → l0.length * 1 ≤ 140737488351232 → (∀ x ∈ l0, (Lit.int .u8 x).wf = true) → ∃ k, laws_FnIdeals.f k l0 = some true
end Go.Proofs.YtkfplkdchkmgbaaGreat.C
