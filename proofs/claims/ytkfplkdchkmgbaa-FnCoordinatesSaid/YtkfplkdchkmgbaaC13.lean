/- Contracts of functions of the program: laws_FnCoordinates. -/
import Derived.Test.YtkfplkdchkmgbaaC0
import Derived.Test.YtkfplkdchkmgbaaC1
import Derived.Test.YtkfplkdchkmgbaaC3
import Derived.Test.YtkfplkdchkmgbaaC6
import Derived.Test.YtkfplkdchkmgbaaC8
import Derived.Test.YtkfplkdchkmgbaaC10
import Derived.Test.YtkfplkdchkmgbaaC11
import Derived.Test.YtkfplkdchkmgbaaC12
namespace Go.Proofs.Ytkfplkdchkmgbaa.C
open Go.RowKit Go.Proofs.YtkfplkdchkmgbaaW.PrintWords Go.Proofs.YtkfplkdchkmgbaaW.PrintLast Go.Proofs.YtkfplkdchkmgbaaW.PrintMore
attribute [local go_sem] max2_int min2_int max_two min_two max_three min_three max_four min_four
set_option linter.unusedVariables false
set_option linter.unusedSimpArgs false

attribute [local go_sem high] eqA33
/-! ### laws_FnCoordinates: function 3 -/
def laws_FnCoordinates.j0 : Nat → List Int → Bool → List Int → Option (Bool)
 | 0, _, _, _ => none
 | k + 1, x4, x85, x862000 => if x85 = true then (some false) else ((impl_FromCoordinates.f k x4).bind fun bt895 => ((spec_IsSemigroup.f k x862000).bind fun t900 => (if t900 = true then (if bt895.2 = true then ((spec_EqualSemigroup.f k bt895.1 x862000).bind fun t901 => (if t901 = true then ((laws_total.f k x4).bind fun t902 => ((spec_GenusOf.f k x862000).bind fun t903 => (some (t902 == t903)))) else (some false))) else (some false)) else (some true))))
def laws_FnCoordinates.f (k : Nat) (l0 : List Int) : Option (Bool) := (laws_big.f l0).bind fun t857 => (if t857 = true then (some true) else ((spec_DrawCoordinatesOf.f k l0).bind fun t858 => ((impl_CoordinatesOf.f k t858).bind fun t862 => ((spec_DrawFromCoordinates.f k l0).bind fun t865 => ((impl_FromCoordinates.f k t865).bind fun bt868 => ((spec_FromCoordinates.f k t865).bind fun bt873 => ((impl_CoordinateClash.f k t865).bind fun bt878 => ((spec_CoordinateClash.f k t865).bind fun bt882 => ((spec_CoordinatesOf.f k t858).bind fun t886 => ((laws_sameInts.f k t862 t886).bind fun t889 => (if t889 = true then (if (bt868.2 != bt873.2) = true then (laws_FnCoordinates.j0 k t862 true t858) else ((spec_EqualSemigroup.f k bt868.1 bt873.1).bind fun t890 => (if t890 = true then (if (!(bt878.1 == bt882.1) || (!(bt878.2.1 == bt882.2.1))) = true then (laws_FnCoordinates.j0 k t862 true t858) else (if (bt878.2.2 != bt882.2.2) = true then (laws_FnCoordinates.j0 k t862 true t858) else (if bt878.2.2 = true then (if bt868.2 = true then (laws_FnCoordinates.j0 k t862 true t858) else (laws_FnCoordinates.j0 k t862 false t858)) else (if bt868.2 = true then ((impl_CoordinatesOf.f k bt868.1).bind fun t891 => ((laws_sameInts.f k t891 t865).bind fun t894 => (laws_FnCoordinates.j0 k t862 (!t894) t858))) else (laws_FnCoordinates.j0 k t862 false t858))))) else (laws_FnCoordinates.j0 k t862 true t858)))) else (laws_FnCoordinates.j0 k t862 true t858))))))))))))
def laws_FnCoordinates.T13 : Bool × List (List Nat × List Nat) := (true, [([], []), ([0], [0]), ([1], [1]), ([2, 1], [2]), ([3], [3]), ([4, 3, 3], [3, 4]), ([5], [5]), ([5], [5]), ([6, 7, 5, 5], [5, 6, 7]), ([5, 8, 3], [3, 5, 8]), ([9, 8, 3], [3, 9]), ([10], [10]), ([11, 10, 10], [10, 11]), ([10], [10]), ([13, 12, 10], [10, 13]), ([12, 14, 10], [10, 12, 14]), ([10, 15, 3], [3, 10, 15]), ([3, 16], [3, 16]), ([17, 14, 0, 1, 2, 3, 4, 5, 6, 7, 8, 9, 10, 11, 12, 13, 14, 15, 16, 17], [17])])
def laws_FnCoordinates.B13 : List Nat := [0, 1, 3, 7, 15, 31, 63, 63, 255, 511, 1023, 2047, 4095, 2047, 16383, 32767, 65535, 131071, 262143]
theorem laws_FnCoordinates.tab13 : rtab .any (opsOf Try.f3 13) = laws_FnCoordinates.T13 := by kernel_rfl
theorem laws_FnCoordinates.bits13 : waitsOk laws_FnCoordinates.T13.2 laws_FnCoordinates.B13 = true := by kernel_rfl
theorem laws_FnCoordinates.j0_no {k : Nat} : ∀ {a0} {a2}, laws_FnCoordinates.j0 k a0 true a2 ≠ some true := by
 intros
 cases k <;> simp [laws_FnCoordinates.j0]
set_option maxHeartbeats 8000000 in
set_option maxRecDepth 100000 in
theorem laws_FnCoordinates.calls (k : Nat) (A0 : Option Addr) (c0 : Nat) (l0 : List Int) (w : World) (hr0 : Kd.C (Kd.int .u8) w A0 l0.length l0) (hc0 : l0.length ≤ c0) (h : laws_FnCoordinates.f k l0 = some true) :
  Calls Try.prog 3 #[.slice A0 l0.length c0] w fun e w' => e = .returned (.bool true) ∧ Below w.heap.size w w' := by
 have hu26 := Try.underlying26
 have hu33 := Try.underlying33
 have HR0 := am hr0
 have HC0 := am hc0
 clear hr0 hc0
 have HB := am (Below.refl w.heap.size w)
 have H : ((laws_big.f l0).bind fun t857 => (if t857 = true then (some true) else ((spec_DrawCoordinatesOf.f k l0).bind fun t858 => ((impl_CoordinatesOf.f k t858).bind fun t862 => ((spec_DrawFromCoordinates.f k l0).bind fun t865 => ((impl_FromCoordinates.f k t865).bind fun bt868 => ((spec_FromCoordinates.f k t865).bind fun bt873 => ((impl_CoordinateClash.f k t865).bind fun bt878 => ((spec_CoordinateClash.f k t865).bind fun bt882 => ((spec_CoordinatesOf.f k t858).bind fun t886 => ((laws_sameInts.f k t862 t886).bind fun t889 => (if t889 = true then (if (bt868.2 != bt873.2) = true then (laws_FnCoordinates.j0 k t862 true t858) else ((spec_EqualSemigroup.f k bt868.1 bt873.1).bind fun t890 => (if t890 = true then (if (!(bt878.1 == bt882.1) || (!(bt878.2.1 == bt882.2.1))) = true then (laws_FnCoordinates.j0 k t862 true t858) else (if (bt878.2.2 != bt882.2.2) = true then (laws_FnCoordinates.j0 k t862 true t858) else (if bt878.2.2 = true then (if bt868.2 = true then (laws_FnCoordinates.j0 k t862 true t858) else (laws_FnCoordinates.j0 k t862 false t858)) else (if bt868.2 = true then ((impl_CoordinatesOf.f k bt868.1).bind fun t891 => ((laws_sameInts.f k t891 t865).bind fun t894 => (laws_FnCoordinates.j0 k t862 (!t894) t858))) else (laws_FnCoordinates.j0 k t862 false t858))))) else (laws_FnCoordinates.j0 k t862 true t858)))) else (laws_FnCoordinates.j0 k t862 true t858))))))))))))) = some true := h
 clear h
 replace H := ga H; obtain ⟨t857, A2, H⟩ := H
 by_cases c3 : t857 = true
 ·subst c3
  have H1 : (some true) = some true := rfl
  clear H
  have H := H1
  clear H1
  skip
  go_enter Try.func3, Try.ntmps3
  go_wp2_with (first | ((with_reducible refine gate_callee (f := 12) rfl ?_); refine gl (some 17) Try.func12 #[.slice A0 l0.length c0] ?_; (with_reducible refine (laws_big.calls _ _ l0 true _ ?side1 ?side2 A2.out).mono ?_); (case side1 => exact co HR0.out); (case side2 => exact HC0.out); rintro e w' ⟨rfl, ⟨nd, rfl⟩⟩; refine ⟨_, rfl, ?_⟩))
  go_ret
  exact ⟨re, bw⟩
 replace c3 := Bool.eq_false_iff.mpr c3
 subst c3
 have H1 : ((spec_DrawCoordinatesOf.f k l0).bind fun t858 => ((impl_CoordinatesOf.f k t858).bind fun t862 => ((spec_DrawFromCoordinates.f k l0).bind fun t865 => ((impl_FromCoordinates.f k t865).bind fun bt868 => ((spec_FromCoordinates.f k t865).bind fun bt873 => ((impl_CoordinateClash.f k t865).bind fun bt878 => ((spec_CoordinateClash.f k t865).bind fun bt882 => ((spec_CoordinatesOf.f k t858).bind fun t886 => ((laws_sameInts.f k t862 t886).bind fun t889 => (if t889 = true then (if (bt868.2 != bt873.2) = true then (laws_FnCoordinates.j0 k t862 true t858) else ((spec_EqualSemigroup.f k bt868.1 bt873.1).bind fun t890 => (if t890 = true then (if (!(bt878.1 == bt882.1) || (!(bt878.2.1 == bt882.2.1))) = true then (laws_FnCoordinates.j0 k t862 true t858) else (if (bt878.2.2 != bt882.2.2) = true then (laws_FnCoordinates.j0 k t862 true t858) else (if bt878.2.2 = true then (if bt868.2 = true then (laws_FnCoordinates.j0 k t862 true t858) else (laws_FnCoordinates.j0 k t862 false t858)) else (if bt868.2 = true then ((impl_CoordinatesOf.f k bt868.1).bind fun t891 => ((laws_sameInts.f k t891 t865).bind fun t894 => (laws_FnCoordinates.j0 k t862 (!t894) t858))) else (laws_FnCoordinates.j0 k t862 false t858))))) else (laws_FnCoordinates.j0 k t862 true t858)))) else (laws_FnCoordinates.j0 k t862 true t858))))))))))) = some true := by rw [if_neg (show ¬ (false = true) by decide)] at H; exact H
 clear H
 have H := H1
 clear H1
 replace H := ga H; obtain ⟨t858, A4, H⟩ := H
 replace H := ga H; obtain ⟨t862, A5, H⟩ := H
 replace H := ga H; obtain ⟨t865, A6, H⟩ := H
 replace H := ga H; obtain ⟨⟨t868, t871⟩, A7, H⟩ := H
 replace H : ((spec_FromCoordinates.f k t865).bind fun bt873 => ((impl_CoordinateClash.f k t865).bind fun bt878 => ((spec_CoordinateClash.f k t865).bind fun bt882 => ((spec_CoordinatesOf.f k t858).bind fun t886 => ((laws_sameInts.f k t862 t886).bind fun t889 => (if t889 = true then (if (t871 != bt873.2) = true then (laws_FnCoordinates.j0 k t862 true t858) else ((spec_EqualSemigroup.f k t868 bt873.1).bind fun t890 => (if t890 = true then (if (!(bt878.1 == bt882.1) || (!(bt878.2.1 == bt882.2.1))) = true then (laws_FnCoordinates.j0 k t862 true t858) else (if (bt878.2.2 != bt882.2.2) = true then (laws_FnCoordinates.j0 k t862 true t858) else (if bt878.2.2 = true then (if t871 = true then (laws_FnCoordinates.j0 k t862 true t858) else (laws_FnCoordinates.j0 k t862 false t858)) else (if t871 = true then ((impl_CoordinatesOf.f k t868).bind fun t891 => ((laws_sameInts.f k t891 t865).bind fun t894 => (laws_FnCoordinates.j0 k t862 (!t894) t858))) else (laws_FnCoordinates.j0 k t862 false t858))))) else (laws_FnCoordinates.j0 k t862 true t858)))) else (laws_FnCoordinates.j0 k t862 true t858))))))) = some true := H
 replace H := ga H; obtain ⟨⟨t873, t876⟩, A8, H⟩ := H
 replace H : ((impl_CoordinateClash.f k t865).bind fun bt878 => ((spec_CoordinateClash.f k t865).bind fun bt882 => ((spec_CoordinatesOf.f k t858).bind fun t886 => ((laws_sameInts.f k t862 t886).bind fun t889 => (if t889 = true then (if (t871 != t876) = true then (laws_FnCoordinates.j0 k t862 true t858) else ((spec_EqualSemigroup.f k t868 t873).bind fun t890 => (if t890 = true then (if (!(bt878.1 == bt882.1) || (!(bt878.2.1 == bt882.2.1))) = true then (laws_FnCoordinates.j0 k t862 true t858) else (if (bt878.2.2 != bt882.2.2) = true then (laws_FnCoordinates.j0 k t862 true t858) else (if bt878.2.2 = true then (if t871 = true then (laws_FnCoordinates.j0 k t862 true t858) else (laws_FnCoordinates.j0 k t862 false t858)) else (if t871 = true then ((impl_CoordinatesOf.f k t868).bind fun t891 => ((laws_sameInts.f k t891 t865).bind fun t894 => (laws_FnCoordinates.j0 k t862 (!t894) t858))) else (laws_FnCoordinates.j0 k t862 false t858))))) else (laws_FnCoordinates.j0 k t862 true t858)))) else (laws_FnCoordinates.j0 k t862 true t858)))))) = some true := H
 replace H := ga H; obtain ⟨⟨t878, t879, t880⟩, A9, H⟩ := H
 replace H : ((spec_CoordinateClash.f k t865).bind fun bt882 => ((spec_CoordinatesOf.f k t858).bind fun t886 => ((laws_sameInts.f k t862 t886).bind fun t889 => (if t889 = true then (if (t871 != t876) = true then (laws_FnCoordinates.j0 k t862 true t858) else ((spec_EqualSemigroup.f k t868 t873).bind fun t890 => (if t890 = true then (if (!(t878 == bt882.1) || (!(t879 == bt882.2.1))) = true then (laws_FnCoordinates.j0 k t862 true t858) else (if (t880 != bt882.2.2) = true then (laws_FnCoordinates.j0 k t862 true t858) else (if t880 = true then (if t871 = true then (laws_FnCoordinates.j0 k t862 true t858) else (laws_FnCoordinates.j0 k t862 false t858)) else (if t871 = true then ((impl_CoordinatesOf.f k t868).bind fun t891 => ((laws_sameInts.f k t891 t865).bind fun t894 => (laws_FnCoordinates.j0 k t862 (!t894) t858))) else (laws_FnCoordinates.j0 k t862 false t858))))) else (laws_FnCoordinates.j0 k t862 true t858)))) else (laws_FnCoordinates.j0 k t862 true t858))))) = some true := H
 replace H := ga H; obtain ⟨⟨t882, t883, t884⟩, A10, H⟩ := H
 replace H : ((spec_CoordinatesOf.f k t858).bind fun t886 => ((laws_sameInts.f k t862 t886).bind fun t889 => (if t889 = true then (if (t871 != t876) = true then (laws_FnCoordinates.j0 k t862 true t858) else ((spec_EqualSemigroup.f k t868 t873).bind fun t890 => (if t890 = true then (if (!(t878 == t882) || (!(t879 == t883))) = true then (laws_FnCoordinates.j0 k t862 true t858) else (if (t880 != t884) = true then (laws_FnCoordinates.j0 k t862 true t858) else (if t880 = true then (if t871 = true then (laws_FnCoordinates.j0 k t862 true t858) else (laws_FnCoordinates.j0 k t862 false t858)) else (if t871 = true then ((impl_CoordinatesOf.f k t868).bind fun t891 => ((laws_sameInts.f k t891 t865).bind fun t894 => (laws_FnCoordinates.j0 k t862 (!t894) t858))) else (laws_FnCoordinates.j0 k t862 false t858))))) else (laws_FnCoordinates.j0 k t862 true t858)))) else (laws_FnCoordinates.j0 k t862 true t858)))) = some true := H
 have HC11 := am H
 clear H
 go_enter Try.func3, Try.ntmps3
 go_upto_region 10 with (first | ((with_reducible refine gate_callee (f := 12) rfl ?_); refine gl (some 17) Try.func12 #[.slice A0 l0.length c0] ?_; (with_reducible refine (laws_big.calls _ _ l0 false _ ?side1 ?side2 A2.out).mono ?_); (case side1 => exact co HR0.out); (case side2 => exact HC0.out); rintro e w' ⟨rfl, ⟨nd, rfl⟩⟩; refine ⟨_, rfl, ?_⟩) | ((with_reducible refine gate_callee (f := 13) rfl ?_); refine gl (some 19) Try.func13 #[.slice A0 l0.length c0] ?_; (with_reducible refine (spec_DrawCoordinatesOf.calls k _ _ l0 t858 _ ?side1 ?side2 A4.out).mono ?_); (case side1 => exact co HR0.out); (case side2 => exact HC0.out); rintro e w12 ⟨v859, rfl, ho0, hb⟩; refine ⟨_, rfl, ?_⟩; have HO860 := am (Kd.Q_lower ho0 (below_size bw)); replace HB := am (below_step bw hb); clear hb ho0) | ((with_reducible refine gate_dst (N := 3) rfl ?_); refine bx 3 #[.slice none 0 0] 26 ?_; intro gb861 hg w13 hbox hb; replace HO860 := qK HO860 hb; have BK861 := am (hbox); have GW861 := am (gs hg : w.heap.size ≤ gb861); have GE861 := GW861; replace HB := am (below_step bw hb); clear hb hbox hg; obtain ⟨Ao14, co14, eo14, _⟩ := Kd.Q_slice HO860.out; subst eo14; have hcz15_0 := bc BK861 0 (.slice none 0 0); have hfz15_0 := blk_frozen BK861.out 0) | ((with_reducible refine gate_callee (f := 14) rfl ?_); refine gl (some 21) Try.func14 #[.agg #[.slice Ao14 t858.length co14]] ?_; (with_reducible refine (impl_CoordinatesOf.calls k _ _ t858 t862 _ ?side1 ?side2 A5.out).mono ?_); (case side1 => refine (Kd.Q_reads' (e := 3) (base := w.heap.size) (ok := fun k_ => True) (n := t858.length) (c := co14) ?_).2.2; exact (qF HO860 BK861 (.slice Ao14 t858.length co14))); (case side2 => exact (Kd.Q_reads' HO860.out).2.1); rintro e w16 ⟨v863, rfl, ho0, hb⟩; refine ⟨_, rfl, ?_⟩; have HO864 := am (Kd.R_lower (Kd.R_new' ho0 (Kd.Q_lt (qF HO860 BK861 (.slice Ao14 t858.length co14)))) (below_size bw)); replace HO860 := am (Kd.Q_elder' (qF HO860 BK861 (.slice Ao14 t858.length co14)) (Kd.R_base ho0) hb); replace BK861 := am (blk_below (g := gb861) (o := .cells #[.slice Ao14 t858.length co14] 26 (0, 0)) (by (with_reducible repeat (first | refine blk_drewN ?_ _ | refine blk_drew ?_ | refine blk_alloc ?_ _)); refine blk_put (cs := #[.slice none 0 0]) ?_ 0 _ rfl; (with_reducible repeat (first | refine blk_drewN ?_ _ | refine blk_drew ?_ | refine blk_alloc ?_ _)); exact BK861.out) hb); replace HB := am (below_step bw hb); clear hb ho0) | ((with_reducible refine gate_callee (f := 15) rfl ?_); refine gl (some 23) Try.func15 #[.slice A0 l0.length c0] ?_; (with_reducible refine (spec_DrawFromCoordinates.calls k _ _ l0 t865 _ ?side1 ?side2 A6.out).mono ?_); (case side1 => exact co (Kd.C_below HR0.out HB.out)); (case side2 => exact HC0.out); rintro e w17 ⟨v866, rfl, ho0, hb⟩; refine ⟨_, rfl, ?_⟩; have HO867 := am (Kd.R_lower (Kd.R_new' (Kd.R_new' ho0 (Kd.Q_lt (qo HO860.out))) (Kd.R_lt (ro HO864.out))) (below_size bw)); replace HO860 := am (Kd.Q_elder' (qo HO860.out) (Kd.R_base ho0) hb); replace HO864 := am (Kd.R_elder' (ro HO864.out) (Kd.R_base ho0) hb); replace BK861 := kb BK861 hb; replace HB := am (below_step bw hb); clear hb ho0; obtain ⟨Ao18, co18, eo18⟩ := Kd.R_slice HO867.out; subst eo18) | ((with_reducible refine gate_callee (f := 16) rfl ?_); refine gl (some 26) Try.func16 #[.slice Ao18 t865.length co18] ?_; (with_reducible refine (impl_FromCoordinates.calls k _ _ t865 t868 t871 _ ?side1 ?side2 A7.out).mono ?_); (case side1 => exact co (Kd.R_reads' HO867.out).2.2); (case side2 => exact (Kd.R_reads' HO867.out).2.1); rintro e w19 ⟨v869, rfl, ho0, hb⟩; refine ⟨_, rfl, ?_⟩; have HO870 := am (Kd.R_lower (Kd.R_new' (Kd.R_new' (Kd.R_new' ho0 (Kd.Q_lt (qo HO860.out))) (Kd.R_lt (ro HO864.out))) (Kd.R_lt (ro HO867.out))) (below_size bw)); replace HO860 := am (Kd.Q_elder' (qo HO860.out) (Kd.R_base ho0) hb); replace HO864 := am (Kd.R_elder' (ro HO864.out) (Kd.R_base ho0) hb); replace HO867 := am (Kd.R_elder' (ro HO867.out) (Kd.R_base ho0) hb); replace BK861 := kb BK861 hb; replace HB := am (below_step bw hb); clear hb ho0) | ((with_reducible refine gate_dst (N := 6) rfl ?_); refine bx 6 #[.slice none 0 0] 26 ?_; intro gb872 hg w20 hbox hb; replace HO860 := qK HO860 hb; replace HO864 := rK HO864 hb; replace HO867 := rK HO867 hb; replace HO870 := rK HO870 hb; have BK872 := am (hbox); have GW872 := am (gs hg : w.heap.size ≤ gb872); have GE872 := GW872; replace HB := am (below_step bw hb); have NB861_872 := nl hg BK861; have NB872_861 := ns NB861_872; replace BK861 := kb BK861 hb; clear hb hbox hg; obtain ⟨Ao21, co21, eo21⟩ := Kd.R_slice HO870.out; subst eo21; have hnb22 := NB872_861.out; have hnc22 := NB861_872.out; have hcz23_0 := bc BK872 0 (.slice none 0 0); have hfz23_0 := blk_frozen BK872.out 0) | ((with_reducible refine gate_callee (f := 17) rfl ?_); refine gl (some 31) Try.func17 #[.slice Ao18 t865.length co18] ?_; (with_reducible refine (spec_FromCoordinates.calls k _ _ t865 t873 t876 _ ?side1 ?side2 A8.out).mono ?_); (case side1 => refine (Kd.R_reads' (e := 3) (base := w.heap.size) (ok := fun k_ => (((True ∧ nb k_ Ao14 t858 co14) ∧ some k_ ≠ (v863 : Value).ownBlock) ∧ nb k_ Ao21 t868 co21)) (n := t865.length) (c := co18) ?_).2.2; exact (rF HO867 BK872 (.slice Ao21 t868.length co21))); (case side2 => exact (Kd.R_reads' HO867.out).2.1); rintro e w24 ⟨v874, rfl, ho0, hb⟩; refine ⟨_, rfl, ?_⟩; have HO875 := am (Kd.R_lower (Kd.R_new' (Kd.R_new' (Kd.R_new' (Kd.R_new' ho0 (Kd.Q_lt (qF HO860 BK872 (.slice Ao21 t868.length co21)))) (Kd.R_lt (rF HO864 BK872 (.slice Ao21 t868.length co21)))) (Kd.R_lt (rF HO867 BK872 (.slice Ao21 t868.length co21)))) (Kd.R_lt (rF HO870 BK872 (.slice Ao21 t868.length co21)))) (below_size bw)); replace HO860 := am (Kd.Q_elder' (qF HO860 BK872 (.slice Ao21 t868.length co21)) (Kd.R_base ho0) hb); replace HO864 := am (Kd.R_elder' (rF HO864 BK872 (.slice Ao21 t868.length co21)) (Kd.R_base ho0) hb); replace HO867 := am (Kd.R_elder' (rF HO867 BK872 (.slice Ao21 t868.length co21)) (Kd.R_base ho0) hb); replace HO870 := am (Kd.R_elder' (rF HO870 BK872 (.slice Ao21 t868.length co21)) (Kd.R_base ho0) hb); replace BK861 := kb BK861 hb; replace BK872 := am (blk_below (g := gb872) (o := .cells #[.slice Ao21 t868.length co21] 26 (0, 0)) (by (with_reducible repeat (first | refine blk_drewN ?_ _ | refine blk_drew ?_ | refine blk_alloc ?_ _)); refine blk_put (cs := #[.slice none 0 0]) ?_ 0 _ rfl; (with_reducible repeat (first | refine blk_drewN ?_ _ | refine blk_drew ?_ | refine blk_alloc ?_ _)); exact BK872.out) hb); replace HB := am (below_step bw hb); clear hb ho0) | ((with_reducible refine gate_dst (N := 8) rfl ?_); refine bx 8 #[.slice none 0 0] 26 ?_; intro gb877 hg w25 hbox hb; replace HO860 := qK HO860 hb; replace HO864 := rK HO864 hb; replace HO867 := rK HO867 hb; replace HO870 := rK HO870 hb; replace HO875 := rK HO875 hb; have BK877 := am (hbox); have GW877 := am (gs hg : w.heap.size ≤ gb877); have GE877 := GW877; replace HB := am (below_step bw hb); have NB861_877 := nl hg BK861; have NB877_861 := ns NB861_877; replace BK861 := kb BK861 hb; have NB872_877 := nl hg BK872; have NB877_872 := ns NB872_877; replace BK872 := kb BK872 hb; clear hb hbox hg; obtain ⟨Ao26, co26, eo26⟩ := Kd.R_slice HO875.out; subst eo26; have hnb27 := NB877_861.out; have hnc27 := NB861_877.out; have hnb28 := NB877_872.out; have hnc28 := NB872_877.out; have hcz29_0 := bc BK877 0 (.slice none 0 0); have hfz29_0 := blk_frozen BK877.out 0) | ((with_reducible refine gate_callee (f := 18) rfl ?_); refine gl (some 36) Try.func18 #[.slice Ao18 t865.length co18] ?_; (with_reducible refine (impl_CoordinateClash.calls k _ _ t865 t878 t879 t880 _ ?side1 ?side2 A9.out).mono ?_); (case side1 => refine (Kd.R_reads' (e := 3) (base := w.heap.size) (ok := fun k_ => ((((True ∧ nb k_ Ao14 t858 co14) ∧ some k_ ≠ (v863 : Value).ownBlock) ∧ nb k_ Ao21 t868 co21) ∧ nb k_ Ao26 t873 co26)) (n := t865.length) (c := co18) ?_).2.2; exact (rF HO867 BK877 (.slice Ao26 t873.length co26))); (case side2 => exact (Kd.R_reads' HO867.out).2.1); rintro e w30 ⟨rfl, hb⟩; refine ⟨_, rfl, ?_⟩; replace HO860 := am (Kd.Q_below (qF HO860 BK877 (.slice Ao26 t873.length co26)) hb); replace HO864 := am (Kd.R_below (rF HO864 BK877 (.slice Ao26 t873.length co26)) hb); replace HO867 := am (Kd.R_below (rF HO867 BK877 (.slice Ao26 t873.length co26)) hb); replace HO870 := am (Kd.R_below (rF HO870 BK877 (.slice Ao26 t873.length co26)) hb); replace HO875 := am (Kd.R_below (rF HO875 BK877 (.slice Ao26 t873.length co26)) hb); replace BK861 := kb BK861 hb; replace BK872 := kb BK872 hb; replace BK877 := am (blk_below (g := gb877) (o := .cells #[.slice Ao26 t873.length co26] 26 (0, 0)) (by (with_reducible repeat (first | refine blk_drewN ?_ _ | refine blk_drew ?_ | refine blk_alloc ?_ _)); refine blk_put (cs := #[.slice none 0 0]) ?_ 0 _ rfl; (with_reducible repeat (first | refine blk_drewN ?_ _ | refine blk_drew ?_ | refine blk_alloc ?_ _)); exact BK877.out) hb); replace HB := am (below_step bw hb); clear hb) | ((with_reducible refine gate_dst (N := 10) rfl ?_); refine bx 10 #[.int .i64 0, .int .i64 0] 33 ?_; intro gb881 hg w31 hbox hb; replace HO860 := qK HO860 hb; replace HO864 := rK HO864 hb; replace HO867 := rK HO867 hb; replace HO870 := rK HO870 hb; replace HO875 := rK HO875 hb; have BK881 := am (hbox); have GW881 := am (gs hg : w.heap.size ≤ gb881); have GE881 := GW881; replace HB := am (below_step bw hb); have NB861_881 := nl hg BK861; have NB881_861 := ns NB861_881; replace BK861 := kb BK861 hb; have NB872_881 := nl hg BK872; have NB881_872 := ns NB872_881; replace BK872 := kb BK872 hb; have NB877_881 := nl hg BK877; have NB881_877 := ns NB877_881; replace BK877 := kb BK877 hb; clear hb hbox hg; have hnb32 := NB881_861.out; have hnc32 := NB861_881.out; have hnb33 := NB881_872.out; have hnc33 := NB872_881.out; have hnb34 := NB881_877.out; have hnc34 := NB877_881.out; have hcz35_0 := bc BK881 0 (.int .i64 0); have hcz35_1 := bc BK881 1 (.int .i64 0); have hfz35_0 := blk_frozen BK881.out 0; have hfz35_1 := blk_frozen BK881.out 1) | ((with_reducible refine gate_callee (f := 19) rfl ?_); refine gl (some 41) Try.func19 #[.slice Ao18 t865.length co18] ?_; (with_reducible refine (spec_CoordinateClash.calls k _ _ t865 t882 t883 t884 _ ?side1 ?side2 A10.out).mono ?_); (case side1 => refine (Kd.R_reads' (e := 3) (base := w.heap.size) (ok := fun k_ => ((((True ∧ nb k_ Ao14 t858 co14) ∧ some k_ ≠ (v863 : Value).ownBlock) ∧ nb k_ Ao21 t868 co21) ∧ nb k_ Ao26 t873 co26)) (n := t865.length) (c := co18) ?_).2.2; exact (by (with_reducible repeat (first | apply Kd.R_alloc | apply Kd.R_drewN | apply Kd.R_drew)); exact (Kd.R_mono (Kd.R_far (p := ⟨gb881, 1, none⟩) (Kd.R_far (p := ⟨gb881, 0, none⟩) (Kd.R_types HO867.out BK881.out (by decide)) (fun _ hk => hk.2) (.int .i64 t878)) (fun _ hk => hk.2) (.int .i64 t879)) (fun _ h_ => h_.1)))); (case side2 => exact (Kd.R_reads' HO867.out).2.1); rintro e w36 ⟨rfl, hb⟩; refine ⟨_, rfl, ?_⟩; replace HO860 := am (Kd.Q_below (by (with_reducible repeat (first | apply Kd.Q_alloc | apply Kd.Q_drewN | apply Kd.Q_drew)); exact (Kd.Q_mono (Kd.Q_far (p := ⟨gb881, 1, none⟩) (Kd.Q_far (p := ⟨gb881, 0, none⟩) (Kd.Q_types HO860.out BK881.out (by decide)) (fun _ hk => hk.2) (.int .i64 t878)) (fun _ hk => hk.2) (.int .i64 t879)) (fun _ h_ => h_.1))) hb); replace HO864 := am (Kd.R_below (by (with_reducible repeat (first | apply Kd.R_alloc | apply Kd.R_drewN | apply Kd.R_drew)); exact (Kd.R_mono (Kd.R_far (p := ⟨gb881, 1, none⟩) (Kd.R_far (p := ⟨gb881, 0, none⟩) (Kd.R_types HO864.out BK881.out (by decide)) (fun _ hk => hk.2) (.int .i64 t878)) (fun _ hk => hk.2) (.int .i64 t879)) (fun _ h_ => h_.1))) hb); replace HO867 := am (Kd.R_below (by (with_reducible repeat (first | apply Kd.R_alloc | apply Kd.R_drewN | apply Kd.R_drew)); exact (Kd.R_mono (Kd.R_far (p := ⟨gb881, 1, none⟩) (Kd.R_far (p := ⟨gb881, 0, none⟩) (Kd.R_types HO867.out BK881.out (by decide)) (fun _ hk => hk.2) (.int .i64 t878)) (fun _ hk => hk.2) (.int .i64 t879)) (fun _ h_ => h_.1))) hb); replace HO870 := am (Kd.R_below (by (with_reducible repeat (first | apply Kd.R_alloc | apply Kd.R_drewN | apply Kd.R_drew)); exact (Kd.R_mono (Kd.R_far (p := ⟨gb881, 1, none⟩) (Kd.R_far (p := ⟨gb881, 0, none⟩) (Kd.R_types HO870.out BK881.out (by decide)) (fun _ hk => hk.2) (.int .i64 t878)) (fun _ hk => hk.2) (.int .i64 t879)) (fun _ h_ => h_.1))) hb); replace HO875 := am (Kd.R_below (by (with_reducible repeat (first | apply Kd.R_alloc | apply Kd.R_drewN | apply Kd.R_drew)); exact (Kd.R_mono (Kd.R_far (p := ⟨gb881, 1, none⟩) (Kd.R_far (p := ⟨gb881, 0, none⟩) (Kd.R_types HO875.out BK881.out (by decide)) (fun _ hk => hk.2) (.int .i64 t878)) (fun _ hk => hk.2) (.int .i64 t879)) (fun _ h_ => h_.1))) hb); replace BK861 := kb BK861 hb; replace BK872 := kb BK872 hb; replace BK877 := kb BK877 hb; replace BK881 := am (blk_below (g := gb881) (o := .cells #[.int .i64 t878, .int .i64 t879] 33 (0, 0)) (by (with_reducible repeat (first | refine blk_drewN ?_ _ | refine blk_drew ?_ | refine blk_alloc ?_ _)); refine blk_put (cs := #[.int .i64 t878, .int .i64 0]) ?_ 1 _ rfl; (with_reducible repeat (first | refine blk_drewN ?_ _ | refine blk_drew ?_ | refine blk_alloc ?_ _)); refine blk_put (cs := #[.int .i64 0, .int .i64 0]) ?_ 0 _ rfl; (with_reducible repeat (first | refine blk_drewN ?_ _ | refine blk_drew ?_ | refine blk_alloc ?_ _)); exact BK881.out) hb); replace HB := am (below_step bw hb); clear hb) | ((with_reducible refine gate_dst (N := 12) rfl ?_); refine bx 12 #[.int .i64 0, .int .i64 0] 33 ?_; intro gb885 hg w37 hbox hb; replace HO860 := qK HO860 hb; replace HO864 := rK HO864 hb; replace HO867 := rK HO867 hb; replace HO870 := rK HO870 hb; replace HO875 := rK HO875 hb; have BK885 := am (hbox); have GW885 := am (gs hg : w.heap.size ≤ gb885); have GE885 := GW885; replace HB := am (below_step bw hb); have NB861_885 := nl hg BK861; have NB885_861 := ns NB861_885; replace BK861 := kb BK861 hb; have NB872_885 := nl hg BK872; have NB885_872 := ns NB872_885; replace BK872 := kb BK872 hb; have NB877_885 := nl hg BK877; have NB885_877 := ns NB877_885; replace BK877 := kb BK877 hb; have NB881_885 := nl hg BK881; have NB885_881 := ns NB881_885; replace BK881 := kb BK881 hb; clear hb hbox hg; have hnb38 := NB885_861.out; have hnc38 := NB861_885.out; have hnb39 := NB885_872.out; have hnc39 := NB872_885.out; have hnb40 := NB885_877.out; have hnc40 := NB877_885.out; have hnb41 := NB885_881.out; have hnc41 := NB881_885.out; have hcz42_0 := bc BK885 0 (.int .i64 0); have hcz42_1 := bc BK885 1 (.int .i64 0); have hfz42_0 := blk_frozen BK885.out 0; have hfz42_1 := blk_frozen BK885.out 1))
 (try simp only [Act.put, List.setIfInBounds_toArray, List.set_cons_zero, List.set_cons_succ])
 go_cut [85] (fun v85 wc => ∃ (kq : Nat) (x85_10 : Bool), v85 = .bool x85_10 ∧ Aside0 (laws_FnCoordinates.j0 kq t862 x85_10 t858 = some true) ∧ Aside0 (kq ≤ k) ∧ Aside0 (Kd.R (Kd.int .i64) 3 wc w.heap.size (fun k_ => nb k_ Ao14 t858 co14 ∧ nb k_ Ao21 t868 co21 ∧ nb k_ Ao26 t873 co26) v863 t862) ∧ Aside0 (Kd.Q (Kd.int .i64) 3 wc w.heap.size (fun k_ => some k_ ≠ (v863 : Value).ownBlock ∧ nb k_ Ao21 t868 co21 ∧ nb k_ Ao26 t873 co26) (.slice Ao14 t858.length co14) t858) ∧ Aside0 (Kd.Q (Kd.int .i64) 3 wc w.heap.size (fun k_ => some k_ ≠ (v863 : Value).ownBlock ∧ nb k_ Ao14 t858 co14 ∧ nb k_ Ao26 t873 co26) (.slice Ao21 t868.length co21) t868) ∧ Aside0 (Kd.Q (Kd.int .i64) 3 wc w.heap.size (fun k_ => some k_ ≠ (v863 : Value).ownBlock ∧ nb k_ Ao14 t858 co14 ∧ nb k_ Ao21 t868 co21) (.slice Ao26 t873.length co26) t873) ∧ Aside0 (wc.heap[gb861]? = some (.cells #[(.slice Ao14 t858.length co14)] 26 (0, 0))) ∧ Aside0 (wc.heap[gb872]? = some (.cells #[(.slice Ao21 t868.length co21)] 26 (0, 0))) ∧ Aside0 (wc.heap[gb877]? = some (.cells #[(.slice Ao26 t873.length co26)] 26 (0, 0))) ∧ Aside0 (wc.heap[gb881]? = some (.cells #[.int .i64 t878, .int .i64 t879] 33 (0, 0))) ∧ Aside0 (wc.heap[gb885]? = some (.cells #[.int .i64 t882, .int .i64 t883] 33 (0, 0))) ∧ Aside0 (Below w.heap.size w wc))
 case first =>
  have H := HC11.out
  clear HC11
  replace H := ga H; obtain ⟨t886, A43, H⟩ := H
  replace H := ga H; obtain ⟨t889, A44, H⟩ := H
  by_cases c45 : t889 = true
  ·subst c45
   have H1 : (if (t871 != t876) = true then (laws_FnCoordinates.j0 k t862 true t858) else ((spec_EqualSemigroup.f k t868 t873).bind fun t890 => (if t890 = true then (if (!(t878 == t882) || (!(t879 == t883))) = true then (laws_FnCoordinates.j0 k t862 true t858) else (if (t880 != t884) = true then (laws_FnCoordinates.j0 k t862 true t858) else (if t880 = true then (if t871 = true then (laws_FnCoordinates.j0 k t862 true t858) else (laws_FnCoordinates.j0 k t862 false t858)) else (if t871 = true then ((impl_CoordinatesOf.f k t868).bind fun t891 => ((laws_sameInts.f k t891 t865).bind fun t894 => (laws_FnCoordinates.j0 k t862 (!t894) t858))) else (laws_FnCoordinates.j0 k t862 false t858))))) else (laws_FnCoordinates.j0 k t862 true t858)))) = some true := by rw [if_pos rfl] at H; exact H
   clear H
   have H := H1
   clear H1
   by_cases c46 : (t871 != t876) = true
   ·rw [if_pos c46] at H
    exact absurd H (laws_FnCoordinates.j0_no)
   rw [if_neg c46] at H
   have c46b0 : (t871 != t876) = false := by simpa using c46
   (try (have c46b1 : decide (t871 = t876) = true := by simpa using c46))
   (try (have c46b2 : (t871 == t876) = true := by simpa using c46))
   clear c46
   (first | rw [c46b0] | (simp only [i64_w, i32_w]; rw [c46b0]) | skip)
   replace H := ga H; obtain ⟨t890, A55, H⟩ := H
   by_cases c56 : t890 = true
   ·subst c56
    have H1 : (if (!(t878 == t882) || (!(t879 == t883))) = true then (laws_FnCoordinates.j0 k t862 true t858) else (if (t880 != t884) = true then (laws_FnCoordinates.j0 k t862 true t858) else (if t880 = true then (if t871 = true then (laws_FnCoordinates.j0 k t862 true t858) else (laws_FnCoordinates.j0 k t862 false t858)) else (if t871 = true then ((impl_CoordinatesOf.f k t868).bind fun t891 => ((laws_sameInts.f k t891 t865).bind fun t894 => (laws_FnCoordinates.j0 k t862 (!t894) t858))) else (laws_FnCoordinates.j0 k t862 false t858))))) = some true := by rw [if_pos rfl] at H; exact H
    clear H
    have H := H1
    clear H1
    by_cases c57 : (!(t878 == t882) || (!(t879 == t883))) = true
    ·rw [if_pos c57] at H
     exact absurd H (laws_FnCoordinates.j0_no)
    rw [if_neg c57] at H
    have c57b0 : (!(t878 == t882) || (!(t879 == t883))) = false := by simpa using c57
    clear c57
    by_cases c77 : (t880 != t884) = true
    ·rw [if_pos c77] at H
     exact absurd H (laws_FnCoordinates.j0_no)
    rw [if_neg c77] at H
    have c77b0 : (t880 != t884) = false := by simpa using c77
    (try (have c77b1 : decide (t880 = t884) = true := by simpa using c77))
    (try (have c77b2 : (t880 == t884) = true := by simpa using c77))
    clear c77
    replace H := gb H; obtain ⟨rfl, H⟩ | ⟨rfl, H⟩ := H
    ·by_cases c98 : t871 = true
     ·subst c98
      exact absurd H (laws_FnCoordinates.j0_no)
     replace c98 := Bool.eq_false_iff.mpr c98
     subst c98
     have H1 : (laws_FnCoordinates.j0 k t862 false t858) = some true := by rw [if_neg (show ¬ (false = true) by decide)] at H; exact H
     clear H
     have H := H1
     clear H1
     have H' := am H
     clear H
     have hnb118 := NB861_872.out
     have hnc118 := NB872_861.out
     have hnb119 := NB861_877.out
     have hnc119 := NB877_861.out
     have hnb120 := NB861_881.out
     have hnc120 := NB881_861.out
     have hnb121 := NB861_885.out
     have hnc121 := NB885_861.out
     have hcz122_0 := bc BK861 0 (.slice Ao14 t858.length co14)
     have hfz122_0 := blk_frozen BK861.out 0
     go_wp2_with (first | ((with_reducible refine gate_callee (f := 21) rfl ?_); refine gl (some 46) Try.func21 #[.agg #[.slice Ao14 t858.length co14]] ?_; (with_reducible refine (spec_CoordinatesOf.calls k _ _ t858 t886 _ ?side1 ?side2 A43.out).mono ?_); (case side1 => refine (Kd.Q_reads' (e := 3) (base := w.heap.size) (ok := fun k_ => ((((True ∧ some k_ ≠ (v863 : Value).ownBlock) ∧ nb k_ Ao18 t865 co18) ∧ nb k_ Ao21 t868 co21) ∧ nb k_ Ao26 t873 co26)) (n := t858.length) (c := co14) ?_).2.2; exact (by (with_reducible repeat (first | apply Kd.Q_alloc | apply Kd.Q_drewN | apply Kd.Q_drew)); exact (Kd.Q_mono (Kd.Q_far (p := ⟨gb885, 1, none⟩) (Kd.Q_far (p := ⟨gb885, 0, none⟩) (Kd.Q_types HO860.out BK885.out (by decide)) (fun _ hk => hk.2) (.int .i64 t882)) (fun _ hk => hk.2) (.int .i64 t883)) (fun _ h_ => h_.1)))); (case side2 => exact (Kd.Q_reads' HO860.out).2.1); rintro e w123 ⟨v887, rfl, ho0, hb⟩; refine ⟨_, rfl, ?_⟩; have HO888 := am (Kd.R_lower (Kd.R_new' (Kd.R_new' (Kd.R_new' (Kd.R_new' (Kd.R_new' ho0 (Kd.Q_lt (by (with_reducible repeat (first | apply Kd.Q_alloc | apply Kd.Q_drewN | apply Kd.Q_drew)); exact (Kd.Q_mono (Kd.Q_far (p := ⟨gb885, 1, none⟩) (Kd.Q_far (p := ⟨gb885, 0, none⟩) (Kd.Q_types HO860.out BK885.out (by decide)) (fun _ hk => hk.2) (.int .i64 t882)) (fun _ hk => hk.2) (.int .i64 t883)) (fun _ h_ => h_.1))))) (Kd.R_lt (by (with_reducible repeat (first | apply Kd.R_alloc | apply Kd.R_drewN | apply Kd.R_drew)); exact (Kd.R_mono (Kd.R_far (p := ⟨gb885, 1, none⟩) (Kd.R_far (p := ⟨gb885, 0, none⟩) (Kd.R_types HO864.out BK885.out (by decide)) (fun _ hk => hk.2) (.int .i64 t882)) (fun _ hk => hk.2) (.int .i64 t883)) (fun _ h_ => h_.1))))) (Kd.R_lt (by (with_reducible repeat (first | apply Kd.R_alloc | apply Kd.R_drewN | apply Kd.R_drew)); exact (Kd.R_mono (Kd.R_far (p := ⟨gb885, 1, none⟩) (Kd.R_far (p := ⟨gb885, 0, none⟩) (Kd.R_types HO867.out BK885.out (by decide)) (fun _ hk => hk.2) (.int .i64 t882)) (fun _ hk => hk.2) (.int .i64 t883)) (fun _ h_ => h_.1))))) (Kd.R_lt (by (with_reducible repeat (first | apply Kd.R_alloc | apply Kd.R_drewN | apply Kd.R_drew)); exact (Kd.R_mono (Kd.R_far (p := ⟨gb885, 1, none⟩) (Kd.R_far (p := ⟨gb885, 0, none⟩) (Kd.R_types HO870.out BK885.out (by decide)) (fun _ hk => hk.2) (.int .i64 t882)) (fun _ hk => hk.2) (.int .i64 t883)) (fun _ h_ => h_.1))))) (Kd.R_lt (by (with_reducible repeat (first | apply Kd.R_alloc | apply Kd.R_drewN | apply Kd.R_drew)); exact (Kd.R_mono (Kd.R_far (p := ⟨gb885, 1, none⟩) (Kd.R_far (p := ⟨gb885, 0, none⟩) (Kd.R_types HO875.out BK885.out (by decide)) (fun _ hk => hk.2) (.int .i64 t882)) (fun _ hk => hk.2) (.int .i64 t883)) (fun _ h_ => h_.1))))) (below_size bw)); replace HO860 := am (Kd.Q_elder' (by (with_reducible repeat (first | apply Kd.Q_alloc | apply Kd.Q_drewN | apply Kd.Q_drew)); exact (Kd.Q_mono (Kd.Q_far (p := ⟨gb885, 1, none⟩) (Kd.Q_far (p := ⟨gb885, 0, none⟩) (Kd.Q_types HO860.out BK885.out (by decide)) (fun _ hk => hk.2) (.int .i64 t882)) (fun _ hk => hk.2) (.int .i64 t883)) (fun _ h_ => h_.1))) (Kd.R_base ho0) hb); replace HO864 := am (Kd.R_elder' (by (with_reducible repeat (first | apply Kd.R_alloc | apply Kd.R_drewN | apply Kd.R_drew)); exact (Kd.R_mono (Kd.R_far (p := ⟨gb885, 1, none⟩) (Kd.R_far (p := ⟨gb885, 0, none⟩) (Kd.R_types HO864.out BK885.out (by decide)) (fun _ hk => hk.2) (.int .i64 t882)) (fun _ hk => hk.2) (.int .i64 t883)) (fun _ h_ => h_.1))) (Kd.R_base ho0) hb); replace HO867 := am (Kd.R_elder' (by (with_reducible repeat (first | apply Kd.R_alloc | apply Kd.R_drewN | apply Kd.R_drew)); exact (Kd.R_mono (Kd.R_far (p := ⟨gb885, 1, none⟩) (Kd.R_far (p := ⟨gb885, 0, none⟩) (Kd.R_types HO867.out BK885.out (by decide)) (fun _ hk => hk.2) (.int .i64 t882)) (fun _ hk => hk.2) (.int .i64 t883)) (fun _ h_ => h_.1))) (Kd.R_base ho0) hb); replace HO870 := am (Kd.R_elder' (by (with_reducible repeat (first | apply Kd.R_alloc | apply Kd.R_drewN | apply Kd.R_drew)); exact (Kd.R_mono (Kd.R_far (p := ⟨gb885, 1, none⟩) (Kd.R_far (p := ⟨gb885, 0, none⟩) (Kd.R_types HO870.out BK885.out (by decide)) (fun _ hk => hk.2) (.int .i64 t882)) (fun _ hk => hk.2) (.int .i64 t883)) (fun _ h_ => h_.1))) (Kd.R_base ho0) hb); replace HO875 := am (Kd.R_elder' (by (with_reducible repeat (first | apply Kd.R_alloc | apply Kd.R_drewN | apply Kd.R_drew)); exact (Kd.R_mono (Kd.R_far (p := ⟨gb885, 1, none⟩) (Kd.R_far (p := ⟨gb885, 0, none⟩) (Kd.R_types HO875.out BK885.out (by decide)) (fun _ hk => hk.2) (.int .i64 t882)) (fun _ hk => hk.2) (.int .i64 t883)) (fun _ h_ => h_.1))) (Kd.R_base ho0) hb); replace BK861 := kb BK861 hb; replace BK872 := kb BK872 hb; replace BK877 := kb BK877 hb; replace BK881 := kb BK881 hb; replace BK885 := am (blk_below (g := gb885) (o := .cells #[.int .i64 t882, .int .i64 t883] 33 (0, 0)) (by (with_reducible repeat (first | refine blk_drewN ?_ _ | refine blk_drew ?_ | refine blk_alloc ?_ _)); refine blk_put (cs := #[.int .i64 t882, .int .i64 0]) ?_ 1 _ rfl; (with_reducible repeat (first | refine blk_drewN ?_ _ | refine blk_drew ?_ | refine blk_alloc ?_ _)); refine blk_put (cs := #[.int .i64 0, .int .i64 0]) ?_ 0 _ rfl; (with_reducible repeat (first | refine blk_drewN ?_ _ | refine blk_drew ?_ | refine blk_alloc ?_ _)); exact BK885.out) hb); replace HB := am (below_step bw hb); clear hb ho0; obtain ⟨Ao124, co124, eo124⟩ := Kd.R_slice HO864.out; subst eo124; obtain ⟨Ao125, co125, eo125⟩ := Kd.R_slice HO888.out; subst eo125) | ((with_reducible refine gate_callee (f := 20) rfl ?_); refine gl (some 47) Try.func20 #[.slice Ao124 t862.length co124, .slice Ao125 t886.length co125] ?_; (with_reducible refine (laws_sameInts.calls k _ _ t862 _ _ t886 true _ ?side1 ?side2 ?side3 ?side4 A44.out).mono ?_); (case side1 => exact co (Kd.R_reads' HO864.out).2.2); (case side2 => exact (Kd.R_reads' HO864.out).2.1); (case side3 => exact co (Kd.R_reads' HO888.out).2.2); (case side4 => exact (Kd.R_reads' HO888.out).2.1); rintro e w' ⟨rfl, ⟨nd, rfl⟩⟩; refine ⟨_, rfl, ?_⟩; have hnb126 := NB872_877.out; have hnc126 := NB877_872.out; have hnb127 := NB872_881.out; have hnc127 := NB881_872.out; have hnb128 := NB872_885.out; have hnc128 := NB885_872.out; have hcz129_0 := bc BK872 0 (.slice Ao21 t868.length co21); have hfz129_0 := blk_frozen BK872.out 0; have hnb130 := NB877_881.out; have hnc130 := NB881_877.out; have hnb131 := NB877_885.out; have hnc131 := NB885_877.out; have hcz132_0 := bc BK877 0 (.slice Ao26 t873.length co26); have hfz132_0 := blk_frozen BK877.out 0) | (go_at_call 22; (with_reducible refine (spec_EqualSemigroup.calls k _ _ t868 _ _ t873 true _ ?side1 ?side2 ?side3 ?side4 A55.out).mono ?_); (case side1 => exact co (Kd.R_reads' HO870.out).2.2); (case side2 => exact (Kd.R_reads' HO870.out).2.1); (case side3 => exact co (Kd.R_reads' HO875.out).2.2); (case side4 => exact (Kd.R_reads' HO875.out).2.1); rintro e w133 ⟨rfl, hb⟩; replace HO860 := qK HO860 hb; replace HO864 := rK HO864 hb; replace HO867 := rK HO867 hb; replace HO870 := rK HO870 hb; replace HO875 := rK HO875 hb; replace HO888 := rK HO888 hb; replace BK861 := kb BK861 hb; replace BK872 := kb BK872 hb; replace BK877 := kb BK877 hb; replace BK881 := kb BK881 hb; replace BK885 := kb BK885 hb; replace HB := am (below_step bw hb); clear hb; have hnb134 := NB881_885.out; have hnc134 := NB885_881.out; have hcz135_0 := bc BK881 0 (.int .i64 t878); have hcz135_1 := bc BK881 1 (.int .i64 t879); have hfz135_0 := blk_frozen BK881.out 0; have hfz135_1 := blk_frozen BK881.out 1; have hcz136_0 := bc BK885 0 (.int .i64 t882); have hcz136_1 := bc BK885 1 (.int .i64 t883); have hfz136_0 := blk_frozen BK885.out 0; have hfz136_1 := blk_frozen BK885.out 1))
     go_meet
     case rel => exact ⟨_, (false), rr, H', ⟨om⟩, ⟨by (with_reducible repeat (first | apply Kd.R_alloc | apply Kd.R_drewN | apply Kd.R_drew)); exact Kd.R_mono HO864.out (fun _ hk => ⟨hk.1.1.1.1.2, ⟨hk.1.1.2, hk.1.2⟩⟩)⟩, ⟨by (with_reducible repeat (first | apply Kd.Q_alloc | apply Kd.Q_drewN | apply Kd.Q_drew)); exact Kd.Q_mono HO860.out (fun _ hk => ⟨hk.1.1.1.1.2, ⟨hk.1.1.2, hk.1.2⟩⟩)⟩, ⟨Kd.Q_of_R (by (with_reducible repeat (first | apply Kd.R_alloc | apply Kd.R_drewN | apply Kd.R_drew)); exact Kd.R_mono HO870.out (fun _ hk => ⟨hk.1.1.1.2, ⟨hk.1.1.1.1.2, hk.1.2⟩⟩))⟩, ⟨Kd.Q_of_R (by (with_reducible repeat (first | apply Kd.R_alloc | apply Kd.R_drewN | apply Kd.R_drew)); exact Kd.R_mono HO875.out (fun _ hk => ⟨hk.1.1.1.2, ⟨hk.1.1.1.1.2, hk.1.2⟩⟩))⟩, ⟨bo BK861.out⟩, ⟨bo BK872.out⟩, ⟨bo BK877.out⟩, ⟨bo BK881.out⟩, ⟨bo BK885.out⟩, ⟨bw⟩⟩
    replace H := gb H; obtain ⟨rfl, H⟩ | ⟨rfl, H⟩ := H
    ·replace H := ga H; obtain ⟨t891, A138, H⟩ := H
     replace H := ga H; obtain ⟨t894, A139, H⟩ := H
     have H' := am H
     clear H
     have hnb140 := NB861_872.out
     have hnc140 := NB872_861.out
     have hnb141 := NB861_877.out
     have hnc141 := NB877_861.out
     have hnb142 := NB861_881.out
     have hnc142 := NB881_861.out
     have hnb143 := NB861_885.out
     have hnc143 := NB885_861.out
     have hcz144_0 := bc BK861 0 (.slice Ao14 t858.length co14)
     have hfz144_0 := blk_frozen BK861.out 0
     go_wp2_with (first | ((with_reducible refine gate_callee (f := 21) rfl ?_); refine gl (some 46) Try.func21 #[.agg #[.slice Ao14 t858.length co14]] ?_; (with_reducible refine (spec_CoordinatesOf.calls k _ _ t858 t886 _ ?side1 ?side2 A43.out).mono ?_); (case side1 => refine (Kd.Q_reads' (e := 3) (base := w.heap.size) (ok := fun k_ => ((((True ∧ some k_ ≠ (v863 : Value).ownBlock) ∧ nb k_ Ao18 t865 co18) ∧ nb k_ Ao21 t868 co21) ∧ nb k_ Ao26 t873 co26)) (n := t858.length) (c := co14) ?_).2.2; exact (by (with_reducible repeat (first | apply Kd.Q_alloc | apply Kd.Q_drewN | apply Kd.Q_drew)); exact (Kd.Q_mono (Kd.Q_far (p := ⟨gb885, 1, none⟩) (Kd.Q_far (p := ⟨gb885, 0, none⟩) (Kd.Q_types HO860.out BK885.out (by decide)) (fun _ hk => hk.2) (.int .i64 t882)) (fun _ hk => hk.2) (.int .i64 t883)) (fun _ h_ => h_.1)))); (case side2 => exact (Kd.Q_reads' HO860.out).2.1); rintro e w145 ⟨v887, rfl, ho0, hb⟩; refine ⟨_, rfl, ?_⟩; have HO888 := am (Kd.R_lower (Kd.R_new' (Kd.R_new' (Kd.R_new' (Kd.R_new' (Kd.R_new' ho0 (Kd.Q_lt (by (with_reducible repeat (first | apply Kd.Q_alloc | apply Kd.Q_drewN | apply Kd.Q_drew)); exact (Kd.Q_mono (Kd.Q_far (p := ⟨gb885, 1, none⟩) (Kd.Q_far (p := ⟨gb885, 0, none⟩) (Kd.Q_types HO860.out BK885.out (by decide)) (fun _ hk => hk.2) (.int .i64 t882)) (fun _ hk => hk.2) (.int .i64 t883)) (fun _ h_ => h_.1))))) (Kd.R_lt (by (with_reducible repeat (first | apply Kd.R_alloc | apply Kd.R_drewN | apply Kd.R_drew)); exact (Kd.R_mono (Kd.R_far (p := ⟨gb885, 1, none⟩) (Kd.R_far (p := ⟨gb885, 0, none⟩) (Kd.R_types HO864.out BK885.out (by decide)) (fun _ hk => hk.2) (.int .i64 t882)) (fun _ hk => hk.2) (.int .i64 t883)) (fun _ h_ => h_.1))))) (Kd.R_lt (by (with_reducible repeat (first | apply Kd.R_alloc | apply Kd.R_drewN | apply Kd.R_drew)); exact (Kd.R_mono (Kd.R_far (p := ⟨gb885, 1, none⟩) (Kd.R_far (p := ⟨gb885, 0, none⟩) (Kd.R_types HO867.out BK885.out (by decide)) (fun _ hk => hk.2) (.int .i64 t882)) (fun _ hk => hk.2) (.int .i64 t883)) (fun _ h_ => h_.1))))) (Kd.R_lt (by (with_reducible repeat (first | apply Kd.R_alloc | apply Kd.R_drewN | apply Kd.R_drew)); exact (Kd.R_mono (Kd.R_far (p := ⟨gb885, 1, none⟩) (Kd.R_far (p := ⟨gb885, 0, none⟩) (Kd.R_types HO870.out BK885.out (by decide)) (fun _ hk => hk.2) (.int .i64 t882)) (fun _ hk => hk.2) (.int .i64 t883)) (fun _ h_ => h_.1))))) (Kd.R_lt (by (with_reducible repeat (first | apply Kd.R_alloc | apply Kd.R_drewN | apply Kd.R_drew)); exact (Kd.R_mono (Kd.R_far (p := ⟨gb885, 1, none⟩) (Kd.R_far (p := ⟨gb885, 0, none⟩) (Kd.R_types HO875.out BK885.out (by decide)) (fun _ hk => hk.2) (.int .i64 t882)) (fun _ hk => hk.2) (.int .i64 t883)) (fun _ h_ => h_.1))))) (below_size bw)); replace HO860 := am (Kd.Q_elder' (by (with_reducible repeat (first | apply Kd.Q_alloc | apply Kd.Q_drewN | apply Kd.Q_drew)); exact (Kd.Q_mono (Kd.Q_far (p := ⟨gb885, 1, none⟩) (Kd.Q_far (p := ⟨gb885, 0, none⟩) (Kd.Q_types HO860.out BK885.out (by decide)) (fun _ hk => hk.2) (.int .i64 t882)) (fun _ hk => hk.2) (.int .i64 t883)) (fun _ h_ => h_.1))) (Kd.R_base ho0) hb); replace HO864 := am (Kd.R_elder' (by (with_reducible repeat (first | apply Kd.R_alloc | apply Kd.R_drewN | apply Kd.R_drew)); exact (Kd.R_mono (Kd.R_far (p := ⟨gb885, 1, none⟩) (Kd.R_far (p := ⟨gb885, 0, none⟩) (Kd.R_types HO864.out BK885.out (by decide)) (fun _ hk => hk.2) (.int .i64 t882)) (fun _ hk => hk.2) (.int .i64 t883)) (fun _ h_ => h_.1))) (Kd.R_base ho0) hb); replace HO867 := am (Kd.R_elder' (by (with_reducible repeat (first | apply Kd.R_alloc | apply Kd.R_drewN | apply Kd.R_drew)); exact (Kd.R_mono (Kd.R_far (p := ⟨gb885, 1, none⟩) (Kd.R_far (p := ⟨gb885, 0, none⟩) (Kd.R_types HO867.out BK885.out (by decide)) (fun _ hk => hk.2) (.int .i64 t882)) (fun _ hk => hk.2) (.int .i64 t883)) (fun _ h_ => h_.1))) (Kd.R_base ho0) hb); replace HO870 := am (Kd.R_elder' (by (with_reducible repeat (first | apply Kd.R_alloc | apply Kd.R_drewN | apply Kd.R_drew)); exact (Kd.R_mono (Kd.R_far (p := ⟨gb885, 1, none⟩) (Kd.R_far (p := ⟨gb885, 0, none⟩) (Kd.R_types HO870.out BK885.out (by decide)) (fun _ hk => hk.2) (.int .i64 t882)) (fun _ hk => hk.2) (.int .i64 t883)) (fun _ h_ => h_.1))) (Kd.R_base ho0) hb); replace HO875 := am (Kd.R_elder' (by (with_reducible repeat (first | apply Kd.R_alloc | apply Kd.R_drewN | apply Kd.R_drew)); exact (Kd.R_mono (Kd.R_far (p := ⟨gb885, 1, none⟩) (Kd.R_far (p := ⟨gb885, 0, none⟩) (Kd.R_types HO875.out BK885.out (by decide)) (fun _ hk => hk.2) (.int .i64 t882)) (fun _ hk => hk.2) (.int .i64 t883)) (fun _ h_ => h_.1))) (Kd.R_base ho0) hb); replace BK861 := kb BK861 hb; replace BK872 := kb BK872 hb; replace BK877 := kb BK877 hb; replace BK881 := kb BK881 hb; replace BK885 := am (blk_below (g := gb885) (o := .cells #[.int .i64 t882, .int .i64 t883] 33 (0, 0)) (by (with_reducible repeat (first | refine blk_drewN ?_ _ | refine blk_drew ?_ | refine blk_alloc ?_ _)); refine blk_put (cs := #[.int .i64 t882, .int .i64 0]) ?_ 1 _ rfl; (with_reducible repeat (first | refine blk_drewN ?_ _ | refine blk_drew ?_ | refine blk_alloc ?_ _)); refine blk_put (cs := #[.int .i64 0, .int .i64 0]) ?_ 0 _ rfl; (with_reducible repeat (first | refine blk_drewN ?_ _ | refine blk_drew ?_ | refine blk_alloc ?_ _)); exact BK885.out) hb); replace HB := am (below_step bw hb); clear hb ho0; obtain ⟨Ao146, co146, eo146⟩ := Kd.R_slice HO864.out; subst eo146; obtain ⟨Ao147, co147, eo147⟩ := Kd.R_slice HO888.out; subst eo147) | ((with_reducible refine gate_callee (f := 20) rfl ?_); refine gl (some 47) Try.func20 #[.slice Ao146 t862.length co146, .slice Ao147 t886.length co147] ?_; (with_reducible refine (laws_sameInts.calls k _ _ t862 _ _ t886 true _ ?side1 ?side2 ?side3 ?side4 A44.out).mono ?_); (case side1 => exact co (Kd.R_reads' HO864.out).2.2); (case side2 => exact (Kd.R_reads' HO864.out).2.1); (case side3 => exact co (Kd.R_reads' HO888.out).2.2); (case side4 => exact (Kd.R_reads' HO888.out).2.1); rintro e w' ⟨rfl, ⟨nd, rfl⟩⟩; refine ⟨_, rfl, ?_⟩; have hnb148 := NB872_877.out; have hnc148 := NB877_872.out; have hnb149 := NB872_881.out; have hnc149 := NB881_872.out; have hnb150 := NB872_885.out; have hnc150 := NB885_872.out; have hcz151_0 := bc BK872 0 (.slice Ao21 t868.length co21); have hfz151_0 := blk_frozen BK872.out 0; have hnb152 := NB877_881.out; have hnc152 := NB881_877.out; have hnb153 := NB877_885.out; have hnc153 := NB885_877.out; have hcz154_0 := bc BK877 0 (.slice Ao26 t873.length co26); have hfz154_0 := blk_frozen BK877.out 0) | (go_at_call 22; (with_reducible refine (spec_EqualSemigroup.calls k _ _ t868 _ _ t873 true _ ?side1 ?side2 ?side3 ?side4 A55.out).mono ?_); (case side1 => exact co (Kd.R_reads' HO870.out).2.2); (case side2 => exact (Kd.R_reads' HO870.out).2.1); (case side3 => exact co (Kd.R_reads' HO875.out).2.2); (case side4 => exact (Kd.R_reads' HO875.out).2.1); rintro e w155 ⟨rfl, hb⟩; replace HO860 := qK HO860 hb; replace HO864 := rK HO864 hb; replace HO867 := rK HO867 hb; replace HO870 := rK HO870 hb; replace HO875 := rK HO875 hb; replace HO888 := rK HO888 hb; replace BK861 := kb BK861 hb; replace BK872 := kb BK872 hb; replace BK877 := kb BK877 hb; replace BK881 := kb BK881 hb; replace BK885 := kb BK885 hb; replace HB := am (below_step bw hb); clear hb; have hnb156 := NB881_885.out; have hnc156 := NB885_881.out; have hcz157_0 := bc BK881 0 (.int .i64 t878); have hcz157_1 := bc BK881 1 (.int .i64 t879); have hfz157_0 := blk_frozen BK881.out 0; have hfz157_1 := blk_frozen BK881.out 1; have hcz158_0 := bc BK885 0 (.int .i64 t882); have hcz158_1 := bc BK885 1 (.int .i64 t883); have hfz158_0 := blk_frozen BK885.out 0; have hfz158_1 := blk_frozen BK885.out 1; have hcz159_0 := bc BK872 0 (.slice Ao21 t868.length co21); have hfz159_0 := blk_frozen BK872.out 0) | (go_at_call 14; (with_reducible refine (impl_CoordinatesOf.calls k _ _ t868 t891 _ ?side1 ?side2 A138.out).mono ?_); (case side1 => exact co (Kd.R_reads' HO870.out).2.2); (case side2 => exact (Kd.R_reads' HO870.out).2.1); rintro e w160 ⟨v892, rfl, ho0, hb⟩; have HO893 := am (Kd.R_lower (Kd.R_new' (Kd.R_new' (Kd.R_new' (Kd.R_new' (Kd.R_new' (Kd.R_new' ho0 (Kd.Q_lt (qo HO860.out))) (Kd.R_lt (ro HO864.out))) (Kd.R_lt (ro HO867.out))) (Kd.R_lt (ro HO870.out))) (Kd.R_lt (ro HO875.out))) (Kd.R_lt (ro HO888.out))) (below_size bw)); replace HO860 := am (Kd.Q_elder' (qo HO860.out) (Kd.R_base ho0) hb); replace HO864 := am (Kd.R_elder' (ro HO864.out) (Kd.R_base ho0) hb); replace HO867 := am (Kd.R_elder' (ro HO867.out) (Kd.R_base ho0) hb); replace HO870 := am (Kd.R_elder' (ro HO870.out) (Kd.R_base ho0) hb); replace HO875 := am (Kd.R_elder' (ro HO875.out) (Kd.R_base ho0) hb); replace HO888 := am (Kd.R_elder' (ro HO888.out) (Kd.R_base ho0) hb); replace BK861 := kb BK861 hb; replace BK872 := kb BK872 hb; replace BK877 := kb BK877 hb; replace BK881 := kb BK881 hb; replace BK885 := kb BK885 hb; replace HB := am (below_step bw hb); clear hb ho0; obtain ⟨Ao161, co161, eo161⟩ := Kd.R_slice HO893.out; subst eo161) | (go_at_call 20; (with_reducible refine (laws_sameInts.calls k _ _ t891 _ _ t865 t894 _ ?side1 ?side2 ?side3 ?side4 A139.out).mono ?_); (case side1 => exact co (Kd.R_reads' HO893.out).2.2); (case side2 => exact (Kd.R_reads' HO893.out).2.1); (case side3 => exact co (Kd.R_reads' HO867.out).2.2); (case side4 => exact (Kd.R_reads' HO867.out).2.1); rintro e w' ⟨rfl, ⟨nd, rfl⟩⟩))
     go_meet
     case rel => exact ⟨_, (!t894), rr, H', ⟨om⟩, ⟨by (with_reducible repeat (first | apply Kd.R_alloc | apply Kd.R_drewN | apply Kd.R_drew)); exact Kd.R_mono HO864.out (fun _ hk => ⟨hk.1.1.1.1.1.2, ⟨hk.1.1.1.2, hk.1.1.2⟩⟩)⟩, ⟨by (with_reducible repeat (first | apply Kd.Q_alloc | apply Kd.Q_drewN | apply Kd.Q_drew)); exact Kd.Q_mono HO860.out (fun _ hk => ⟨hk.1.1.1.1.1.2, ⟨hk.1.1.1.2, hk.1.1.2⟩⟩)⟩, ⟨Kd.Q_of_R (by (with_reducible repeat (first | apply Kd.R_alloc | apply Kd.R_drewN | apply Kd.R_drew)); exact Kd.R_mono HO870.out (fun _ hk => ⟨hk.1.1.1.1.2, ⟨hk.1.1.1.1.1.2, hk.1.1.2⟩⟩))⟩, ⟨Kd.Q_of_R (by (with_reducible repeat (first | apply Kd.R_alloc | apply Kd.R_drewN | apply Kd.R_drew)); exact Kd.R_mono HO875.out (fun _ hk => ⟨hk.1.1.1.1.2, ⟨hk.1.1.1.1.1.2, hk.1.1.2⟩⟩))⟩, ⟨bo BK861.out⟩, ⟨bo BK872.out⟩, ⟨bo BK877.out⟩, ⟨bo BK881.out⟩, ⟨bo BK885.out⟩, ⟨bw⟩⟩
    have H' := am H
    clear H
    have hnb162 := NB861_872.out
    have hnc162 := NB872_861.out
    have hnb163 := NB861_877.out
    have hnc163 := NB877_861.out
    have hnb164 := NB861_881.out
    have hnc164 := NB881_861.out
    have hnb165 := NB861_885.out
    have hnc165 := NB885_861.out
    have hcz166_0 := bc BK861 0 (.slice Ao14 t858.length co14)
    have hfz166_0 := blk_frozen BK861.out 0
    go_wp2_with (first | ((with_reducible refine gate_callee (f := 21) rfl ?_); refine gl (some 46) Try.func21 #[.agg #[.slice Ao14 t858.length co14]] ?_; (with_reducible refine (spec_CoordinatesOf.calls k _ _ t858 t886 _ ?side1 ?side2 A43.out).mono ?_); (case side1 => refine (Kd.Q_reads' (e := 3) (base := w.heap.size) (ok := fun k_ => ((((True ∧ some k_ ≠ (v863 : Value).ownBlock) ∧ nb k_ Ao18 t865 co18) ∧ nb k_ Ao21 t868 co21) ∧ nb k_ Ao26 t873 co26)) (n := t858.length) (c := co14) ?_).2.2; exact (by (with_reducible repeat (first | apply Kd.Q_alloc | apply Kd.Q_drewN | apply Kd.Q_drew)); exact (Kd.Q_mono (Kd.Q_far (p := ⟨gb885, 1, none⟩) (Kd.Q_far (p := ⟨gb885, 0, none⟩) (Kd.Q_types HO860.out BK885.out (by decide)) (fun _ hk => hk.2) (.int .i64 t882)) (fun _ hk => hk.2) (.int .i64 t883)) (fun _ h_ => h_.1)))); (case side2 => exact (Kd.Q_reads' HO860.out).2.1); rintro e w167 ⟨v887, rfl, ho0, hb⟩; refine ⟨_, rfl, ?_⟩; have HO888 := am (Kd.R_lower (Kd.R_new' (Kd.R_new' (Kd.R_new' (Kd.R_new' (Kd.R_new' ho0 (Kd.Q_lt (by (with_reducible repeat (first | apply Kd.Q_alloc | apply Kd.Q_drewN | apply Kd.Q_drew)); exact (Kd.Q_mono (Kd.Q_far (p := ⟨gb885, 1, none⟩) (Kd.Q_far (p := ⟨gb885, 0, none⟩) (Kd.Q_types HO860.out BK885.out (by decide)) (fun _ hk => hk.2) (.int .i64 t882)) (fun _ hk => hk.2) (.int .i64 t883)) (fun _ h_ => h_.1))))) (Kd.R_lt (by (with_reducible repeat (first | apply Kd.R_alloc | apply Kd.R_drewN | apply Kd.R_drew)); exact (Kd.R_mono (Kd.R_far (p := ⟨gb885, 1, none⟩) (Kd.R_far (p := ⟨gb885, 0, none⟩) (Kd.R_types HO864.out BK885.out (by decide)) (fun _ hk => hk.2) (.int .i64 t882)) (fun _ hk => hk.2) (.int .i64 t883)) (fun _ h_ => h_.1))))) (Kd.R_lt (by (with_reducible repeat (first | apply Kd.R_alloc | apply Kd.R_drewN | apply Kd.R_drew)); exact (Kd.R_mono (Kd.R_far (p := ⟨gb885, 1, none⟩) (Kd.R_far (p := ⟨gb885, 0, none⟩) (Kd.R_types HO867.out BK885.out (by decide)) (fun _ hk => hk.2) (.int .i64 t882)) (fun _ hk => hk.2) (.int .i64 t883)) (fun _ h_ => h_.1))))) (Kd.R_lt (by (with_reducible repeat (first | apply Kd.R_alloc | apply Kd.R_drewN | apply Kd.R_drew)); exact (Kd.R_mono (Kd.R_far (p := ⟨gb885, 1, none⟩) (Kd.R_far (p := ⟨gb885, 0, none⟩) (Kd.R_types HO870.out BK885.out (by decide)) (fun _ hk => hk.2) (.int .i64 t882)) (fun _ hk => hk.2) (.int .i64 t883)) (fun _ h_ => h_.1))))) (Kd.R_lt (by (with_reducible repeat (first | apply Kd.R_alloc | apply Kd.R_drewN | apply Kd.R_drew)); exact (Kd.R_mono (Kd.R_far (p := ⟨gb885, 1, none⟩) (Kd.R_far (p := ⟨gb885, 0, none⟩) (Kd.R_types HO875.out BK885.out (by decide)) (fun _ hk => hk.2) (.int .i64 t882)) (fun _ hk => hk.2) (.int .i64 t883)) (fun _ h_ => h_.1))))) (below_size bw)); replace HO860 := am (Kd.Q_elder' (by (with_reducible repeat (first | apply Kd.Q_alloc | apply Kd.Q_drewN | apply Kd.Q_drew)); exact (Kd.Q_mono (Kd.Q_far (p := ⟨gb885, 1, none⟩) (Kd.Q_far (p := ⟨gb885, 0, none⟩) (Kd.Q_types HO860.out BK885.out (by decide)) (fun _ hk => hk.2) (.int .i64 t882)) (fun _ hk => hk.2) (.int .i64 t883)) (fun _ h_ => h_.1))) (Kd.R_base ho0) hb); replace HO864 := am (Kd.R_elder' (by (with_reducible repeat (first | apply Kd.R_alloc | apply Kd.R_drewN | apply Kd.R_drew)); exact (Kd.R_mono (Kd.R_far (p := ⟨gb885, 1, none⟩) (Kd.R_far (p := ⟨gb885, 0, none⟩) (Kd.R_types HO864.out BK885.out (by decide)) (fun _ hk => hk.2) (.int .i64 t882)) (fun _ hk => hk.2) (.int .i64 t883)) (fun _ h_ => h_.1))) (Kd.R_base ho0) hb); replace HO867 := am (Kd.R_elder' (by (with_reducible repeat (first | apply Kd.R_alloc | apply Kd.R_drewN | apply Kd.R_drew)); exact (Kd.R_mono (Kd.R_far (p := ⟨gb885, 1, none⟩) (Kd.R_far (p := ⟨gb885, 0, none⟩) (Kd.R_types HO867.out BK885.out (by decide)) (fun _ hk => hk.2) (.int .i64 t882)) (fun _ hk => hk.2) (.int .i64 t883)) (fun _ h_ => h_.1))) (Kd.R_base ho0) hb); replace HO870 := am (Kd.R_elder' (by (with_reducible repeat (first | apply Kd.R_alloc | apply Kd.R_drewN | apply Kd.R_drew)); exact (Kd.R_mono (Kd.R_far (p := ⟨gb885, 1, none⟩) (Kd.R_far (p := ⟨gb885, 0, none⟩) (Kd.R_types HO870.out BK885.out (by decide)) (fun _ hk => hk.2) (.int .i64 t882)) (fun _ hk => hk.2) (.int .i64 t883)) (fun _ h_ => h_.1))) (Kd.R_base ho0) hb); replace HO875 := am (Kd.R_elder' (by (with_reducible repeat (first | apply Kd.R_alloc | apply Kd.R_drewN | apply Kd.R_drew)); exact (Kd.R_mono (Kd.R_far (p := ⟨gb885, 1, none⟩) (Kd.R_far (p := ⟨gb885, 0, none⟩) (Kd.R_types HO875.out BK885.out (by decide)) (fun _ hk => hk.2) (.int .i64 t882)) (fun _ hk => hk.2) (.int .i64 t883)) (fun _ h_ => h_.1))) (Kd.R_base ho0) hb); replace BK861 := kb BK861 hb; replace BK872 := kb BK872 hb; replace BK877 := kb BK877 hb; replace BK881 := kb BK881 hb; replace BK885 := am (blk_below (g := gb885) (o := .cells #[.int .i64 t882, .int .i64 t883] 33 (0, 0)) (by (with_reducible repeat (first | refine blk_drewN ?_ _ | refine blk_drew ?_ | refine blk_alloc ?_ _)); refine blk_put (cs := #[.int .i64 t882, .int .i64 0]) ?_ 1 _ rfl; (with_reducible repeat (first | refine blk_drewN ?_ _ | refine blk_drew ?_ | refine blk_alloc ?_ _)); refine blk_put (cs := #[.int .i64 0, .int .i64 0]) ?_ 0 _ rfl; (with_reducible repeat (first | refine blk_drewN ?_ _ | refine blk_drew ?_ | refine blk_alloc ?_ _)); exact BK885.out) hb); replace HB := am (below_step bw hb); clear hb ho0; obtain ⟨Ao168, co168, eo168⟩ := Kd.R_slice HO864.out; subst eo168; obtain ⟨Ao169, co169, eo169⟩ := Kd.R_slice HO888.out; subst eo169) | ((with_reducible refine gate_callee (f := 20) rfl ?_); refine gl (some 47) Try.func20 #[.slice Ao168 t862.length co168, .slice Ao169 t886.length co169] ?_; (with_reducible refine (laws_sameInts.calls k _ _ t862 _ _ t886 true _ ?side1 ?side2 ?side3 ?side4 A44.out).mono ?_); (case side1 => exact co (Kd.R_reads' HO864.out).2.2); (case side2 => exact (Kd.R_reads' HO864.out).2.1); (case side3 => exact co (Kd.R_reads' HO888.out).2.2); (case side4 => exact (Kd.R_reads' HO888.out).2.1); rintro e w' ⟨rfl, ⟨nd, rfl⟩⟩; refine ⟨_, rfl, ?_⟩; have hnb170 := NB872_877.out; have hnc170 := NB877_872.out; have hnb171 := NB872_881.out; have hnc171 := NB881_872.out; have hnb172 := NB872_885.out; have hnc172 := NB885_872.out; have hcz173_0 := bc BK872 0 (.slice Ao21 t868.length co21); have hfz173_0 := blk_frozen BK872.out 0; have hnb174 := NB877_881.out; have hnc174 := NB881_877.out; have hnb175 := NB877_885.out; have hnc175 := NB885_877.out; have hcz176_0 := bc BK877 0 (.slice Ao26 t873.length co26); have hfz176_0 := blk_frozen BK877.out 0) | (go_at_call 22; (with_reducible refine (spec_EqualSemigroup.calls k _ _ t868 _ _ t873 true _ ?side1 ?side2 ?side3 ?side4 A55.out).mono ?_); (case side1 => exact co (Kd.R_reads' HO870.out).2.2); (case side2 => exact (Kd.R_reads' HO870.out).2.1); (case side3 => exact co (Kd.R_reads' HO875.out).2.2); (case side4 => exact (Kd.R_reads' HO875.out).2.1); rintro e w177 ⟨rfl, hb⟩; replace HO860 := qK HO860 hb; replace HO864 := rK HO864 hb; replace HO867 := rK HO867 hb; replace HO870 := rK HO870 hb; replace HO875 := rK HO875 hb; replace HO888 := rK HO888 hb; replace BK861 := kb BK861 hb; replace BK872 := kb BK872 hb; replace BK877 := kb BK877 hb; replace BK881 := kb BK881 hb; replace BK885 := kb BK885 hb; replace HB := am (below_step bw hb); clear hb; have hnb178 := NB881_885.out; have hnc178 := NB885_881.out; have hcz179_0 := bc BK881 0 (.int .i64 t878); have hcz179_1 := bc BK881 1 (.int .i64 t879); have hfz179_0 := blk_frozen BK881.out 0; have hfz179_1 := blk_frozen BK881.out 1; have hcz180_0 := bc BK885 0 (.int .i64 t882); have hcz180_1 := bc BK885 1 (.int .i64 t883); have hfz180_0 := blk_frozen BK885.out 0; have hfz180_1 := blk_frozen BK885.out 1))
    go_meet
    case rel => exact ⟨_, (false), rr, H', ⟨om⟩, ⟨by (with_reducible repeat (first | apply Kd.R_alloc | apply Kd.R_drewN | apply Kd.R_drew)); exact Kd.R_mono HO864.out (fun _ hk => ⟨hk.1.1.1.1.2, ⟨hk.1.1.2, hk.1.2⟩⟩)⟩, ⟨by (with_reducible repeat (first | apply Kd.Q_alloc | apply Kd.Q_drewN | apply Kd.Q_drew)); exact Kd.Q_mono HO860.out (fun _ hk => ⟨hk.1.1.1.1.2, ⟨hk.1.1.2, hk.1.2⟩⟩)⟩, ⟨Kd.Q_of_R (by (with_reducible repeat (first | apply Kd.R_alloc | apply Kd.R_drewN | apply Kd.R_drew)); exact Kd.R_mono HO870.out (fun _ hk => ⟨hk.1.1.1.2, ⟨hk.1.1.1.1.2, hk.1.2⟩⟩))⟩, ⟨Kd.Q_of_R (by (with_reducible repeat (first | apply Kd.R_alloc | apply Kd.R_drewN | apply Kd.R_drew)); exact Kd.R_mono HO875.out (fun _ hk => ⟨hk.1.1.1.2, ⟨hk.1.1.1.1.2, hk.1.2⟩⟩))⟩, ⟨bo BK861.out⟩, ⟨bo BK872.out⟩, ⟨bo BK877.out⟩, ⟨bo BK881.out⟩, ⟨bo BK885.out⟩, ⟨bw⟩⟩
   replace c56 := Bool.eq_false_iff.mpr c56
   subst c56
   exact absurd H (laws_FnCoordinates.j0_no)
  replace c45 := Bool.eq_false_iff.mpr c45
  subst c45
  exact absurd H (laws_FnCoordinates.j0_no)
 case rest =>
  clear HC11
  try clear c3; try clear c45; try clear c46; try clear c46b0; try clear c46b1; try clear c46b2; try clear c56; try clear c57; try clear c57b0; try clear c77; try clear c77b0; try clear c77b1; try clear c77b2; try clear c98; try clear hcz122_0; try clear hcz129_0; try clear hcz132_0; try clear hcz135_0; try clear hcz135_1; try clear hcz136_0; try clear hcz136_1; try clear hcz144_0; try clear hcz151_0; try clear hcz154_0; try clear hcz157_0; try clear hcz157_1; try clear hcz158_0; try clear hcz158_1; try clear hcz159_0; try clear hcz15_0; try clear hcz166_0; try clear hcz173_0; try clear hcz176_0; try clear hcz179_0; try clear hcz179_1; try clear hcz180_0; try clear hcz180_1; try clear hcz23_0; try clear hcz29_0; try clear hcz35_0; try clear hcz35_1; try clear hcz42_0; try clear hcz42_1; try clear hfz122_0; try clear hfz129_0; try clear hfz132_0; try clear hfz135_0; try clear hfz135_1; try clear hfz136_0; try clear hfz136_1; try clear hfz144_0; try clear hfz151_0; try clear hfz154_0; try clear hfz157_0; try clear hfz157_1; try clear hfz158_0; try clear hfz158_1; try clear hfz159_0; try clear hfz15_0; try clear hfz166_0; try clear hfz173_0; try clear hfz176_0; try clear hfz179_0; try clear hfz179_1; try clear hfz180_0; try clear hfz180_1; try clear hfz23_0; try clear hfz29_0; try clear hfz35_0; try clear hfz35_1; try clear hfz42_0; try clear hfz42_1
  obtain ⟨kq, x85_10, rfl, HA, HJ10, HO_4, HO_862000, HO_873000, HO_878000, BK861, BK872, BK877, BK881, BK885, HB⟩ := hcut
  cases kq with
  | zero => exact absurd HA.out (by simp [laws_FnCoordinates.j0])
  | succ kj10 =>
   have H := HA.out
   clear HA
   simp only [laws_FnCoordinates.j0] at H
   replace H := gb H; obtain ⟨rfl, H⟩ | ⟨rfl, H⟩ := H
   ·exact absurd (Option.some.inj H) (by decide)
   replace H := ga H; obtain ⟨⟨t895, t898⟩, A206, H⟩ := H
   replace H : ((spec_IsSemigroup.f kj10 t858).bind fun t900 => (if t900 = true then (if t898 = true then ((spec_EqualSemigroup.f kj10 t895 t858).bind fun t901 => (if t901 = true then ((laws_total.f kj10 t862).bind fun t902 => ((spec_GenusOf.f kj10 t858).bind fun t903 => (some (t902 == t903)))) else (some false))) else (some false)) else (some true))) = some true := H
   replace H := ga H; obtain ⟨t900, A207, H⟩ := H
   by_cases c208 : t900 = true
   ·subst c208
    have H1 : (if t898 = true then ((spec_EqualSemigroup.f kj10 t895 t858).bind fun t901 => (if t901 = true then ((laws_total.f kj10 t862).bind fun t902 => ((spec_GenusOf.f kj10 t858).bind fun t903 => (some (t902 == t903)))) else (some false))) else (some false)) = some true := by rw [if_pos rfl] at H; exact H
    clear H
    have H := H1
    clear H1
    replace H := gb H; obtain ⟨rfl, H⟩ | ⟨rfl, H⟩ := H
    ·replace H := ga H; obtain ⟨t901, A210, H⟩ := H
     replace H := gb H; obtain ⟨rfl, H⟩ | ⟨rfl, H⟩ := H
     ·replace H := ga H; obtain ⟨t902, A212, H⟩ := H
      replace H := ga H; obtain ⟨t903, A213, H⟩ := H
      have HRE_ := Option.some.inj H
      obtain ⟨Ao214, co214, eo214⟩ := Kd.R_slice HO_4.out
      subst eo214
      try go_wp2_with (first | ((with_reducible refine gate_callee (f := 16) rfl ?_); refine gl (some 88) Try.func16 #[.slice Ao214 t862.length co214] ?_; (with_reducible refine (impl_FromCoordinates.calls kj10 _ _ t862 t895 true _ ?side1 ?side2 A206.out).mono ?_); (case side1 => exact co (Kd.R_reads' HO_4.out).2.2); (case side2 => exact (Kd.R_reads' HO_4.out).2.1); rintro e w215 ⟨v896, rfl, ho0, hb⟩; refine ⟨_, rfl, ?_⟩; have HO897 := am (Kd.R_lower (Kd.R_new' (Kd.R_new' (Kd.R_new' (Kd.R_new' ho0 (Kd.R_lt (ro HO_4.out))) (Kd.Q_lt (qo HO_862000.out))) (Kd.Q_lt (qo HO_873000.out))) (Kd.Q_lt (qo HO_878000.out))) (below_size bw)); replace HO_4 := am (Kd.R_elder' (ro HO_4.out) (Kd.R_base ho0) hb); replace HO_862000 := am (Kd.Q_elder' (qo HO_862000.out) (Kd.R_base ho0) hb); replace HO_873000 := am (Kd.Q_elder' (qo HO_873000.out) (Kd.R_base ho0) hb); replace HO_878000 := am (Kd.Q_elder' (qo HO_878000.out) (Kd.R_base ho0) hb); replace BK861 := kb BK861 hb; replace BK872 := kb BK872 hb; replace BK877 := kb BK877 hb; replace BK881 := kb BK881 hb; replace BK885 := kb BK885 hb; replace HB := am (below_step bw hb); clear hb ho0) | ((with_reducible refine gate_dst (N := 14) rfl ?_); refine bx 14 #[.slice none 0 0] 26 ?_; intro gb899 hg w216 hbox hb; replace HO_4 := rK HO_4 hb; replace HO_862000 := qK HO_862000 hb; replace HO_873000 := qK HO_873000 hb; replace HO_878000 := qK HO_878000 hb; replace HO897 := rK HO897 hb; have BK899 := am (hbox); have GW899 := am (gs hg : w.heap.size ≤ gb899); have GE899 := GW899; replace HB := am (below_step bw hb); have NB861_899 := nl hg BK861; have NB899_861 := ns NB861_899; replace BK861 := kb BK861 hb; have NB872_899 := nl hg BK872; have NB899_872 := ns NB872_899; replace BK872 := kb BK872 hb; have NB877_899 := nl hg BK877; have NB899_877 := ns NB877_899; replace BK877 := kb BK877 hb; have NB881_899 := nl hg BK881; have NB899_881 := ns NB881_899; replace BK881 := kb BK881 hb; have NB885_899 := nl hg BK885; have NB899_885 := ns NB885_899; replace BK885 := kb BK885 hb; clear hb hbox hg; obtain ⟨Ao217, co217, eo217⟩ := Kd.R_slice HO897.out; subst eo217; have hnb218 := NB899_861.out; have hnc218 := NB861_899.out; have hnb219 := NB899_872.out; have hnc219 := NB872_899.out; have hnb220 := NB899_877.out; have hnc220 := NB877_899.out; have hnb221 := NB899_881.out; have hnc221 := NB881_899.out; have hnb222 := NB899_885.out; have hnc222 := NB885_899.out; have hcz223_0 := bc BK899 0 (.slice none 0 0); have hfz223_0 := blk_frozen BK899.out 0))
      have n0_ : Aside0 (Kd.R (Kd.int .i64) 3 (w216.setCell ⟨gb899, 0, none⟩ (.slice Ao217 t895.length co217)) w.heap.size (fun k_ => nb k_ Ao14 t858 co14 ∧ nb k_ Ao21 t868 co21 ∧ nb k_ Ao26 t873 co26 ∧ nb k_ Ao217 t895 co217) (.slice Ao214 t862.length co214) t862) := ⟨by (with_reducible repeat (first | apply Kd.R_alloc | apply Kd.R_drewN | apply Kd.R_drew)); exact Kd.R_mono (Kd.R_far (p := ⟨gb899, 0, none⟩) (Kd.R_types HO_4.out BK899.out (by decide)) (fun _ hk => hk.2) (.slice Ao217 t895.length co217)) (fun _ hk => ⟨hk.1.1.1, ⟨hk.1.1.2.1, ⟨hk.1.1.2.2, hk.1.2⟩⟩⟩)⟩
      have n1_ : Aside0 (Kd.Q (Kd.int .i64) 3 (w216.setCell ⟨gb899, 0, none⟩ (.slice Ao217 t895.length co217)) w.heap.size (fun k_ => nb k_ Ao214 t862 co214 ∧ nb k_ Ao21 t868 co21 ∧ nb k_ Ao26 t873 co26 ∧ nb k_ Ao217 t895 co217) (.slice Ao14 t858.length co14) t858) := ⟨by (with_reducible repeat (first | apply Kd.Q_alloc | apply Kd.Q_drewN | apply Kd.Q_drew)); exact Kd.Q_mono (Kd.Q_far (p := ⟨gb899, 0, none⟩) (Kd.Q_types HO_862000.out BK899.out (by decide)) (fun _ hk => hk.2) (.slice Ao217 t895.length co217)) (fun _ hk => ⟨hk.1.1.1, ⟨hk.1.1.2.1, ⟨hk.1.1.2.2, hk.1.2⟩⟩⟩)⟩
      have n2_ : Aside0 (Kd.Q (Kd.int .i64) 3 (w216.setCell ⟨gb899, 0, none⟩ (.slice Ao217 t895.length co217)) w.heap.size (fun k_ => nb k_ Ao214 t862 co214 ∧ nb k_ Ao14 t858 co14 ∧ nb k_ Ao26 t873 co26 ∧ nb k_ Ao217 t895 co217) (.slice Ao21 t868.length co21) t868) := ⟨by (with_reducible repeat (first | apply Kd.Q_alloc | apply Kd.Q_drewN | apply Kd.Q_drew)); exact Kd.Q_mono (Kd.Q_far (p := ⟨gb899, 0, none⟩) (Kd.Q_types HO_873000.out BK899.out (by decide)) (fun _ hk => hk.2) (.slice Ao217 t895.length co217)) (fun _ hk => ⟨hk.1.1.1, ⟨hk.1.1.2.1, ⟨hk.1.1.2.2, hk.1.2⟩⟩⟩)⟩
      have n3_ : Aside0 (Kd.Q (Kd.int .i64) 3 (w216.setCell ⟨gb899, 0, none⟩ (.slice Ao217 t895.length co217)) w.heap.size (fun k_ => nb k_ Ao214 t862 co214 ∧ nb k_ Ao14 t858 co14 ∧ nb k_ Ao21 t868 co21 ∧ nb k_ Ao217 t895 co217) (.slice Ao26 t873.length co26) t873) := ⟨by (with_reducible repeat (first | apply Kd.Q_alloc | apply Kd.Q_drewN | apply Kd.Q_drew)); exact Kd.Q_mono (Kd.Q_far (p := ⟨gb899, 0, none⟩) (Kd.Q_types HO_878000.out BK899.out (by decide)) (fun _ hk => hk.2) (.slice Ao217 t895.length co217)) (fun _ hk => ⟨hk.1.1.1, ⟨hk.1.1.2.1, ⟨hk.1.1.2.2, hk.1.2⟩⟩⟩)⟩
      have n4_ : Aside0 (Kd.R (Kd.int .i64) 3 (w216.setCell ⟨gb899, 0, none⟩ (.slice Ao217 t895.length co217)) w.heap.size (fun k_ => nb k_ Ao214 t862 co214 ∧ nb k_ Ao14 t858 co14 ∧ nb k_ Ao21 t868 co21 ∧ nb k_ Ao26 t873 co26) (.slice Ao217 t895.length co217) t895) := ⟨by (with_reducible repeat (first | apply Kd.R_alloc | apply Kd.R_drewN | apply Kd.R_drew)); exact Kd.R_mono (Kd.R_far (p := ⟨gb899, 0, none⟩) (Kd.R_types HO897.out BK899.out (by decide)) (fun _ hk => hk.2) (.slice Ao217 t895.length co217)) (fun _ hk => ⟨hk.1.1.1.1.2, ⟨hk.1.1.1.2, ⟨hk.1.1.2, hk.1.2⟩⟩⟩)⟩
      have n5_ : Aside0 ((w216.setCell ⟨gb899, 0, none⟩ (.slice Ao217 t895.length co217)).heap[gb861]? = some (.cells #[.slice Ao14 t858.length co14] 26 (0, 0))) := ⟨bf BK861.out⟩
      have n6_ : Aside0 ((w216.setCell ⟨gb899, 0, none⟩ (.slice Ao217 t895.length co217)).heap[gb872]? = some (.cells #[.slice Ao21 t868.length co21] 26 (0, 0))) := ⟨bf BK872.out⟩
      have n7_ : Aside0 ((w216.setCell ⟨gb899, 0, none⟩ (.slice Ao217 t895.length co217)).heap[gb877]? = some (.cells #[.slice Ao26 t873.length co26] 26 (0, 0))) := ⟨bf BK877.out⟩
      have n8_ : Aside0 ((w216.setCell ⟨gb899, 0, none⟩ (.slice Ao217 t895.length co217)).heap[gb881]? = some (.cells #[.int .i64 t878, .int .i64 t879] 33 (0, 0))) := ⟨bf BK881.out⟩
      have n9_ : Aside0 ((w216.setCell ⟨gb899, 0, none⟩ (.slice Ao217 t895.length co217)).heap[gb885]? = some (.cells #[.int .i64 t882, .int .i64 t883] 33 (0, 0))) := ⟨bf BK885.out⟩
      have n10_ : Aside0 ((w216.setCell ⟨gb899, 0, none⟩ (.slice Ao217 t895.length co217)).heap[gb899]? = some (.cells #[.slice Ao217 t895.length co217] 26 (0, 0))) := ⟨by (with_reducible repeat (first | refine blk_drewN ?_ _ | refine blk_drew ?_ | refine blk_alloc ?_ _)); refine blk_put (cs := #[.slice none 0 0]) ?_ 0 _ rfl; (with_reducible repeat (first | refine blk_drewN ?_ _ | refine blk_drew ?_ | refine blk_alloc ?_ _)); exact BK899.out⟩
      have n11_ : Aside0 (Below w.heap.size w (w216.setCell ⟨gb899, 0, none⟩ (.slice Ao217 t895.length co217))) := ⟨bw⟩
      (try clear HO_4); (try clear HO_862000); (try clear HO_873000); (try clear HO_878000); (try clear HO897); (try clear BK861); (try clear BK872); (try clear BK877); (try clear BK881); (try clear BK885); (try clear BK899); (try clear HB)
      generalize (w216.setCell ⟨gb899, 0, none⟩ (.slice Ao217 t895.length co217)) = w224 at n0_ n1_ n2_ n3_ n4_ n5_ n6_ n7_ n8_ n9_ n10_ n11_ ⊢
      have HO_4 := n0_
      have HO_862000 := n1_
      have HO_873000 := n2_
      have HO_878000 := n3_
      have HO897 := n4_
      have BK861 := n5_
      have BK872 := n6_
      have BK877 := n7_
      have BK881 := n8_
      have BK885 := n9_
      have BK899 := n10_
      have HB := n11_
      clear n0_ n1_ n2_ n3_ n4_ n5_ n6_ n7_ n8_ n9_ n10_ n11_
      replace HO_4 := am (Kd.R_drew HO_4.out)
      replace HO_862000 := am (Kd.Q_drew HO_862000.out)
      replace HO_873000 := am (Kd.Q_drew HO_873000.out)
      replace HO_878000 := am (Kd.Q_drew HO_878000.out)
      replace HO897 := am (Kd.R_drew HO897.out)
      replace BK861 := bd BK861
      replace BK872 := bd BK872
      replace BK877 := bd BK877
      replace BK881 := bd BK881
      replace BK885 := bd BK885
      replace BK899 := bd BK899
      replace HB := am (below_drew1 HB.out)
      refine start_ (n := 19) (S := fun w' => w'.cell? ⟨gb861, 0, none⟩ = some (.slice Ao14 t858.length co14) ∧ w'.cell? ⟨gb899, 0, none⟩ = some (.slice Ao217 t895.length co217)) (ds := []) (yz 19 0) (by kernel_rfl) rfl rfl ⟨bc BK861 0 _, bc BK899 0 _⟩ (fun hHeld => ?_); refine with_tabW laws_FnCoordinates.tab13 laws_FnCoordinates.bits13 (fun HT_ HW_ => ?_)
      generalize w224.drew = w225 at HO_4 HO_862000 HO_873000 HO_878000 HO897 BK861 BK872 BK877 BK881 BK885 BK899 HB hHeld ⊢
      refine tk 0 (some 91) (yz 19 1) HT_ HW_ hHeld ?_
      refine oa 1 (some 92) (yz 19 3) HT_ (fun K hK => ?_)
      refine gm Try.func23 #[.agg #[.slice Ao14 t858.length co14]] ?_
      with_reducible refine (spec_IsSemigroup.calls kj10 _ _ t858 true _ ?side1 ?side2 A207.out).mono ?_
      (case side1 => exact co (Kd.Q_reads' HO_862000.out).2.2)
      (case side2 => exact (Kd.Q_reads' HO_862000.out).2.1)
      rintro e w226 ⟨rfl, hb⟩
      refine ⟨_, rfl, ?_⟩
      replace HO_4 := rK HO_4 hb
      replace HO_862000 := qK HO_862000 hb
      replace HO_873000 := qK HO_873000 hb
      replace HO_878000 := qK HO_878000 hb
      replace HO897 := rK HO897 hb
      replace BK861 := kb BK861 hb
      replace BK872 := kb BK872 hb
      replace BK877 := kb BK877 hb
      replace BK881 := kb BK881 hb
      replace BK885 := kb BK885 hb
      replace BK899 := kb BK899 hb
      replace HB := am (below_step bw hb)
      clear hb
      refine hK.out _ _ ⟨bc BK861 0 _, bc BK899 0 _⟩ (fun hHeld => ?_)
      clear hK K
      refine nm (some 92) ?_
      refine pa 2 (some 93) (yz 19 7) HT_ ?_
      refine pa 3 (some 94) (yz 19 15) HT_ ?_
      refine pa 4 (some 95) (yz 19 31) HT_ ?_
      refine pa 5 (some 96) (yz 19 63) HT_ ?_
      refine tk 6 (some 97) (yz 19 127) HT_ HW_ hHeld ?_
      refine tk 7 (some 98) (yz 19 255) HT_ HW_ hHeld ?_
      refine oa 8 (some 99) (yz 19 511) HT_ (fun K hK => ?_)
      refine gm Try.func22 #[.agg #[.slice Ao217 t895.length co217], .agg #[.slice Ao14 t858.length co14]] ?_
      with_reducible refine (spec_EqualSemigroup.calls kj10 _ _ t895 _ _ t858 true _ ?side1 ?side2 ?side3 ?side4 A210.out).mono ?_
      (case side1 => exact co (Kd.R_reads' HO897.out).2.2)
      (case side2 => exact (Kd.R_reads' HO897.out).2.1)
      (case side3 => exact co (Kd.Q_reads' HO_862000.out).2.2)
      (case side4 => exact (Kd.Q_reads' HO_862000.out).2.1)
      rintro e w227 ⟨rfl, hb⟩
      refine ⟨_, rfl, ?_⟩
      replace HO_4 := rK HO_4 hb
      replace HO_862000 := qK HO_862000 hb
      replace HO_873000 := qK HO_873000 hb
      replace HO_878000 := qK HO_878000 hb
      replace HO897 := rK HO897 hb
      replace BK861 := kb BK861 hb
      replace BK872 := kb BK872 hb
      replace BK877 := kb BK877 hb
      replace BK881 := kb BK881 hb
      replace BK885 := kb BK885 hb
      replace BK899 := kb BK899 hb
      replace HB := am (below_step bw hb)
      clear hb
      refine hK.out _ _ ⟨bc BK861 0 _, bc BK899 0 _⟩ (fun hHeld => ?_)
      clear hK K
      refine nm (some 99) ?_
      refine pa 9 (some 100) (yz 19 1023) HT_ ?_
      refine pa 10 (some 101) (yz 19 2047) HT_ ?_
      refine pa 11 (some 102) (yz 19 4095) HT_ ?_
      refine tk 13 (some 104) (yz 19 12287) HT_ HW_ hHeld ?_
      refine oa 12 (some 103) (yz 19 16383) HT_ (fun K hK => ?_)
      refine gm Try.func24 #[.slice Ao214 t862.length co214] ?_
      with_reducible refine (laws_total.calls kj10 _ _ t862 t902 _ ?side1 ?side2 A212.out).mono ?_
      (case side1 => exact co (Kd.R_reads' HO_4.out).2.2)
      (case side2 => exact (Kd.R_reads' HO_4.out).2.1)
      rintro e w' ⟨rfl, ⟨nd, rfl⟩⟩
      refine ⟨_, rfl, ?_⟩
      refine hK.out _ _ ⟨bc BK861 0 _, bc BK899 0 _⟩ (fun hHeld => ?_)
      clear hK K
      refine nm (some 103) ?_
      refine oa 14 (some 105) (yz 19 32767) HT_ (fun K hK => ?_)
      refine gm Try.func25 #[.agg #[.slice Ao14 t858.length co14]] ?_
      with_reducible refine (spec_GenusOf.calls kj10 _ _ t858 t903 _ ?side1 ?side2 A213.out).mono ?_
      (case side1 => exact co (Kd.Q_reads' HO_862000.out).2.2)
      (case side2 => exact (Kd.Q_reads' HO_862000.out).2.1)
      rintro e w228 ⟨rfl, hb⟩
      refine ⟨_, rfl, ?_⟩
      replace HO_4 := rK HO_4 hb
      replace HO_862000 := qK HO_862000 hb
      replace HO_873000 := qK HO_873000 hb
      replace HO_878000 := qK HO_878000 hb
      replace HO897 := rK HO897 hb
      replace BK861 := kb BK861 hb
      replace BK872 := kb BK872 hb
      replace BK877 := kb BK877 hb
      replace BK881 := kb BK881 hb
      replace BK885 := kb BK885 hb
      replace BK899 := kb BK899 hb
      replace HB := am (below_step bw hb)
      clear hb
      refine hK.out _ _ ⟨bc BK861 0 _, bc BK899 0 _⟩ (fun hHeld => ?_)
      clear hK K
      refine nm (some 105) ?_
      refine pa 15 (some 106) (yz 19 65535) HT_ ?_
      refine pa 16 (some 107) (yz 19 131071) HT_ ?_
      refine pa 17 (some 108) (yz 19 262143) HT_ ?_
      refine pa 18 (some 2) (yz 19 524287) HT_ ?_
      refine done_ (done_of HT_.out (by kernel_rfl)) ?_
      try go_wp2
      go_ret
      exact ⟨re, bw⟩
     exact absurd (Option.some.inj H) (by decide)
    exact absurd (Option.some.inj H) (by decide)
   replace c208 := Bool.eq_false_iff.mpr c208
   subst c208
   have H1 : (some true) = some true := rfl
   clear H
   have H := H1
   clear H1
   skip
   obtain ⟨Ao256, co256, eo256⟩ := Kd.R_slice HO_4.out
   subst eo256
   try go_wp2_with (first | ((with_reducible refine gate_callee (f := 16) rfl ?_); refine gl (some 88) Try.func16 #[.slice Ao256 t862.length co256] ?_; (with_reducible refine (impl_FromCoordinates.calls kj10 _ _ t862 t895 t898 _ ?side1 ?side2 A206.out).mono ?_); (case side1 => exact co (Kd.R_reads' HO_4.out).2.2); (case side2 => exact (Kd.R_reads' HO_4.out).2.1); rintro e w257 ⟨v896, rfl, ho0, hb⟩; refine ⟨_, rfl, ?_⟩; have HO897 := am (Kd.R_lower (Kd.R_new' (Kd.R_new' (Kd.R_new' (Kd.R_new' ho0 (Kd.R_lt (ro HO_4.out))) (Kd.Q_lt (qo HO_862000.out))) (Kd.Q_lt (qo HO_873000.out))) (Kd.Q_lt (qo HO_878000.out))) (below_size bw)); replace HO_4 := am (Kd.R_elder' (ro HO_4.out) (Kd.R_base ho0) hb); replace HO_862000 := am (Kd.Q_elder' (qo HO_862000.out) (Kd.R_base ho0) hb); replace HO_873000 := am (Kd.Q_elder' (qo HO_873000.out) (Kd.R_base ho0) hb); replace HO_878000 := am (Kd.Q_elder' (qo HO_878000.out) (Kd.R_base ho0) hb); replace BK861 := kb BK861 hb; replace BK872 := kb BK872 hb; replace BK877 := kb BK877 hb; replace BK881 := kb BK881 hb; replace BK885 := kb BK885 hb; replace HB := am (below_step bw hb); clear hb ho0) | ((with_reducible refine gate_dst (N := 14) rfl ?_); refine bx 14 #[.slice none 0 0] 26 ?_; intro gb899 hg w258 hbox hb; replace HO_4 := rK HO_4 hb; replace HO_862000 := qK HO_862000 hb; replace HO_873000 := qK HO_873000 hb; replace HO_878000 := qK HO_878000 hb; replace HO897 := rK HO897 hb; have BK899 := am (hbox); have GW899 := am (gs hg : w.heap.size ≤ gb899); have GE899 := GW899; replace HB := am (below_step bw hb); have NB861_899 := nl hg BK861; have NB899_861 := ns NB861_899; replace BK861 := kb BK861 hb; have NB872_899 := nl hg BK872; have NB899_872 := ns NB872_899; replace BK872 := kb BK872 hb; have NB877_899 := nl hg BK877; have NB899_877 := ns NB877_899; replace BK877 := kb BK877 hb; have NB881_899 := nl hg BK881; have NB899_881 := ns NB881_899; replace BK881 := kb BK881 hb; have NB885_899 := nl hg BK885; have NB899_885 := ns NB885_899; replace BK885 := kb BK885 hb; clear hb hbox hg; obtain ⟨Ao259, co259, eo259⟩ := Kd.R_slice HO897.out; subst eo259; have hnb260 := NB899_861.out; have hnc260 := NB861_899.out; have hnb261 := NB899_872.out; have hnc261 := NB872_899.out; have hnb262 := NB899_877.out; have hnc262 := NB877_899.out; have hnb263 := NB899_881.out; have hnc263 := NB881_899.out; have hnb264 := NB899_885.out; have hnc264 := NB885_899.out; have hcz265_0 := bc BK899 0 (.slice none 0 0); have hfz265_0 := blk_frozen BK899.out 0))
   have n0_ : Aside0 (Kd.R (Kd.int .i64) 3 (w258.setCell ⟨gb899, 0, none⟩ (.slice Ao259 t895.length co259)) w.heap.size (fun k_ => nb k_ Ao14 t858 co14 ∧ nb k_ Ao21 t868 co21 ∧ nb k_ Ao26 t873 co26 ∧ nb k_ Ao259 t895 co259) (.slice Ao256 t862.length co256) t862) := ⟨by (with_reducible repeat (first | apply Kd.R_alloc | apply Kd.R_drewN | apply Kd.R_drew)); exact Kd.R_mono (Kd.R_far (p := ⟨gb899, 0, none⟩) (Kd.R_types HO_4.out BK899.out (by decide)) (fun _ hk => hk.2) (.slice Ao259 t895.length co259)) (fun _ hk => ⟨hk.1.1.1, ⟨hk.1.1.2.1, ⟨hk.1.1.2.2, hk.1.2⟩⟩⟩)⟩
   have n1_ : Aside0 (Kd.Q (Kd.int .i64) 3 (w258.setCell ⟨gb899, 0, none⟩ (.slice Ao259 t895.length co259)) w.heap.size (fun k_ => nb k_ Ao256 t862 co256 ∧ nb k_ Ao21 t868 co21 ∧ nb k_ Ao26 t873 co26 ∧ nb k_ Ao259 t895 co259) (.slice Ao14 t858.length co14) t858) := ⟨by (with_reducible repeat (first | apply Kd.Q_alloc | apply Kd.Q_drewN | apply Kd.Q_drew)); exact Kd.Q_mono (Kd.Q_far (p := ⟨gb899, 0, none⟩) (Kd.Q_types HO_862000.out BK899.out (by decide)) (fun _ hk => hk.2) (.slice Ao259 t895.length co259)) (fun _ hk => ⟨hk.1.1.1, ⟨hk.1.1.2.1, ⟨hk.1.1.2.2, hk.1.2⟩⟩⟩)⟩
   have n2_ : Aside0 (Kd.Q (Kd.int .i64) 3 (w258.setCell ⟨gb899, 0, none⟩ (.slice Ao259 t895.length co259)) w.heap.size (fun k_ => nb k_ Ao256 t862 co256 ∧ nb k_ Ao14 t858 co14 ∧ nb k_ Ao26 t873 co26 ∧ nb k_ Ao259 t895 co259) (.slice Ao21 t868.length co21) t868) := ⟨by (with_reducible repeat (first | apply Kd.Q_alloc | apply Kd.Q_drewN | apply Kd.Q_drew)); exact Kd.Q_mono (Kd.Q_far (p := ⟨gb899, 0, none⟩) (Kd.Q_types HO_873000.out BK899.out (by decide)) (fun _ hk => hk.2) (.slice Ao259 t895.length co259)) (fun _ hk => ⟨hk.1.1.1, ⟨hk.1.1.2.1, ⟨hk.1.1.2.2, hk.1.2⟩⟩⟩)⟩
   have n3_ : Aside0 (Kd.Q (Kd.int .i64) 3 (w258.setCell ⟨gb899, 0, none⟩ (.slice Ao259 t895.length co259)) w.heap.size (fun k_ => nb k_ Ao256 t862 co256 ∧ nb k_ Ao14 t858 co14 ∧ nb k_ Ao21 t868 co21 ∧ nb k_ Ao259 t895 co259) (.slice Ao26 t873.length co26) t873) := ⟨by (with_reducible repeat (first | apply Kd.Q_alloc | apply Kd.Q_drewN | apply Kd.Q_drew)); exact Kd.Q_mono (Kd.Q_far (p := ⟨gb899, 0, none⟩) (Kd.Q_types HO_878000.out BK899.out (by decide)) (fun _ hk => hk.2) (.slice Ao259 t895.length co259)) (fun _ hk => ⟨hk.1.1.1, ⟨hk.1.1.2.1, ⟨hk.1.1.2.2, hk.1.2⟩⟩⟩)⟩
   have n4_ : Aside0 (Kd.R (Kd.int .i64) 3 (w258.setCell ⟨gb899, 0, none⟩ (.slice Ao259 t895.length co259)) w.heap.size (fun k_ => nb k_ Ao256 t862 co256 ∧ nb k_ Ao14 t858 co14 ∧ nb k_ Ao21 t868 co21 ∧ nb k_ Ao26 t873 co26) (.slice Ao259 t895.length co259) t895) := ⟨by (with_reducible repeat (first | apply Kd.R_alloc | apply Kd.R_drewN | apply Kd.R_drew)); exact Kd.R_mono (Kd.R_far (p := ⟨gb899, 0, none⟩) (Kd.R_types HO897.out BK899.out (by decide)) (fun _ hk => hk.2) (.slice Ao259 t895.length co259)) (fun _ hk => ⟨hk.1.1.1.1.2, ⟨hk.1.1.1.2, ⟨hk.1.1.2, hk.1.2⟩⟩⟩)⟩
   have n5_ : Aside0 ((w258.setCell ⟨gb899, 0, none⟩ (.slice Ao259 t895.length co259)).heap[gb861]? = some (.cells #[.slice Ao14 t858.length co14] 26 (0, 0))) := ⟨bf BK861.out⟩
   have n6_ : Aside0 ((w258.setCell ⟨gb899, 0, none⟩ (.slice Ao259 t895.length co259)).heap[gb872]? = some (.cells #[.slice Ao21 t868.length co21] 26 (0, 0))) := ⟨bf BK872.out⟩
   have n7_ : Aside0 ((w258.setCell ⟨gb899, 0, none⟩ (.slice Ao259 t895.length co259)).heap[gb877]? = some (.cells #[.slice Ao26 t873.length co26] 26 (0, 0))) := ⟨bf BK877.out⟩
   have n8_ : Aside0 ((w258.setCell ⟨gb899, 0, none⟩ (.slice Ao259 t895.length co259)).heap[gb881]? = some (.cells #[.int .i64 t878, .int .i64 t879] 33 (0, 0))) := ⟨bf BK881.out⟩
   have n9_ : Aside0 ((w258.setCell ⟨gb899, 0, none⟩ (.slice Ao259 t895.length co259)).heap[gb885]? = some (.cells #[.int .i64 t882, .int .i64 t883] 33 (0, 0))) := ⟨bf BK885.out⟩
   have n10_ : Aside0 ((w258.setCell ⟨gb899, 0, none⟩ (.slice Ao259 t895.length co259)).heap[gb899]? = some (.cells #[.slice Ao259 t895.length co259] 26 (0, 0))) := ⟨by (with_reducible repeat (first | refine blk_drewN ?_ _ | refine blk_drew ?_ | refine blk_alloc ?_ _)); refine blk_put (cs := #[.slice none 0 0]) ?_ 0 _ rfl; (with_reducible repeat (first | refine blk_drewN ?_ _ | refine blk_drew ?_ | refine blk_alloc ?_ _)); exact BK899.out⟩
   have n11_ : Aside0 (Below w.heap.size w (w258.setCell ⟨gb899, 0, none⟩ (.slice Ao259 t895.length co259))) := ⟨bw⟩
   (try clear HO_4); (try clear HO_862000); (try clear HO_873000); (try clear HO_878000); (try clear HO897); (try clear BK861); (try clear BK872); (try clear BK877); (try clear BK881); (try clear BK885); (try clear BK899); (try clear HB)
   generalize (w258.setCell ⟨gb899, 0, none⟩ (.slice Ao259 t895.length co259)) = w266 at n0_ n1_ n2_ n3_ n4_ n5_ n6_ n7_ n8_ n9_ n10_ n11_ ⊢
   have HO_4 := n0_
   have HO_862000 := n1_
   have HO_873000 := n2_
   have HO_878000 := n3_
   have HO897 := n4_
   have BK861 := n5_
   have BK872 := n6_
   have BK877 := n7_
   have BK881 := n8_
   have BK885 := n9_
   have BK899 := n10_
   have HB := n11_
   clear n0_ n1_ n2_ n3_ n4_ n5_ n6_ n7_ n8_ n9_ n10_ n11_
   replace HO_4 := am (Kd.R_drew HO_4.out)
   replace HO_862000 := am (Kd.Q_drew HO_862000.out)
   replace HO_873000 := am (Kd.Q_drew HO_873000.out)
   replace HO_878000 := am (Kd.Q_drew HO_878000.out)
   replace HO897 := am (Kd.R_drew HO897.out)
   replace BK861 := bd BK861
   replace BK872 := bd BK872
   replace BK877 := bd BK877
   replace BK881 := bd BK881
   replace BK885 := bd BK885
   replace BK899 := bd BK899
   replace HB := am (below_drew1 HB.out)
   refine start_ (n := 19) (S := fun w' => w'.cell? ⟨gb861, 0, none⟩ = some (.slice Ao14 t858.length co14)) (ds := []) (yz 19 0) (by kernel_rfl) rfl rfl (bc BK861 0 _) (fun hHeld => ?_); refine with_tabW laws_FnCoordinates.tab13 laws_FnCoordinates.bits13 (fun HT_ HW_ => ?_)
   generalize w266.drew = w267 at HO_4 HO_862000 HO_873000 HO_878000 HO897 BK861 BK872 BK877 BK881 BK885 BK899 HB hHeld ⊢
   refine tK 0 (some 91) (yz 19 1) HT_ HW_ hHeld ?_
   refine oa 1 (some 92) (yz 19 3) HT_ (fun K hK => ?_)
   refine gm Try.func23 #[.agg #[.slice Ao14 t858.length co14]] ?_
   with_reducible refine (spec_IsSemigroup.calls kj10 _ _ t858 false _ ?side1 ?side2 A207.out).mono ?_
   (case side1 => exact co (Kd.Q_reads' HO_862000.out).2.2)
   (case side2 => exact (Kd.Q_reads' HO_862000.out).2.1)
   rintro e w268 ⟨rfl, hb⟩
   refine ⟨_, rfl, ?_⟩
   replace HO_4 := rK HO_4 hb
   replace HO_862000 := qK HO_862000 hb
   replace HO_873000 := qK HO_873000 hb
   replace HO_878000 := qK HO_878000 hb
   replace HO897 := rK HO897 hb
   replace BK861 := kb BK861 hb
   replace BK872 := kb BK872 hb
   replace BK877 := kb BK877 hb
   replace BK881 := kb BK881 hb
   replace BK885 := kb BK885 hb
   replace BK899 := kb BK899 hb
   replace HB := am (below_step bw hb)
   clear hb
   refine hK.out _ _ (bc BK861 0 _) (fun hHeld => ?_)
   clear hK K
   refine nm (some 92) ?_
   refine pa 2 (some 93) (yz 19 7) HT_ ?_
   refine pa 3 (some 94) (yz 19 15) HT_ ?_
   refine pu 4 (some 95) (yz 19 31) HT_ ?_
   refine pu 5 (some 96) (yz 19 63) HT_ ?_
   refine pu 6 (some 97) (yz 19 127) HT_ ?_
   refine pu 7 (some 98) (yz 19 255) HT_ ?_
   refine pu 8 (some 99) (yz 19 511) HT_ ?_
   refine pu 9 (some 100) (yz 19 1023) HT_ ?_
   refine pu 10 (some 101) (yz 19 2047) HT_ ?_
   refine pu 11 (some 102) (yz 19 4095) HT_ ?_
   refine pu 12 (some 103) (yz 19 8191) HT_ ?_
   refine pu 13 (some 104) (yz 19 16383) HT_ ?_
   refine pu 14 (some 105) (yz 19 32767) HT_ ?_
   refine pu 15 (some 106) (yz 19 65535) HT_ ?_
   refine pu 16 (some 107) (yz 19 131071) HT_ ?_
   refine pa 17 (some 108) (yz 19 262143) HT_ ?_
   refine pa 18 (some 2) (yz 19 524287) HT_ ?_
   refine done_ (done_of HT_.out (by kernel_rfl)) ?_
   try go_wp2
   go_ret
   exact ⟨re, bw⟩

/-- THE ONE PURE STATEMENT of laws_FnCoordinates: yours. -/
def laws_FnCoordinates.Pure : Prop := ∀ (l0 : List Int), l0.length ≤ maxLen → l0.length * 1 ≤ 140737488351232 → (∀ x ∈ l0, (Lit.int .u8 x).wf = true) → ∃ k, laws_FnCoordinates.f k l0 = some true
end Go.Proofs.Ytkfplkdchkmgbaa.C
