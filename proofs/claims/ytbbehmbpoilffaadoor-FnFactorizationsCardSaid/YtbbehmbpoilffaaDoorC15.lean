/- Contracts of functions of the program: laws_FnFactorizations. -/
import Derived.Test.YtbbehmbpoilffaaDoorC0
import Derived.Test.YtbbehmbpoilffaaDoorC1
import Derived.Test.YtbbehmbpoilffaaDoorC3
import Derived.Test.YtbbehmbpoilffaaDoorC7
import Derived.Test.YtbbehmbpoilffaaDoorC9
import Derived.Test.YtbbehmbpoilffaaDoorC10
import Derived.Test.YtbbehmbpoilffaaDoorC11
import Derived.Test.YtbbehmbpoilffaaDoorC12
import Derived.Test.YtbbehmbpoilffaaDoorC13
import Derived.Test.YtbbehmbpoilffaaDoorC14
namespace Go.Proofs.YtbbehmbpoilffaaDoor.C
open Go.RowKit Go.Proofs.YtbbehmbpoilffaaDoorW.PrintWords Go.Proofs.YtbbehmbpoilffaaDoorW.PrintLast Go.Proofs.YtbbehmbpoilffaaDoorW.PrintMore
attribute [local go_sem] max2_int min2_int max_two min_two max_three min_three max_four min_four
set_option linter.unusedVariables false
set_option linter.unusedSimpArgs false

/-! ### laws_FnFactorizations: function 3 -/
mutual
def laws_FnFactorizations.j0 : Nat → Int → List (List Int) → Bool → List Int → Option (Bool)
 | 0, _, _, _, _ => none
 | k + 1, x4, x5, x83, x735000 => if x83 = true then (some false) else (laws_FnFactorizations.l0 k x4 x5 0 x735000)
def laws_FnFactorizations.l0 : Nat → Int → List (List Int) → Int → List Int → Option (Bool)
 | 0, _, _, _, _ => none
 | k + 1, x4, x5, x13, x735000 => if x13 < (x5.length : Int) then (if 0 ≤ x13 then ((impl_IsFactorization.f k x735000 x4 (rd_L2 x5 x13)).bind fun t774 => (if t774 = true then ((laws_worth.f k (rd_L2 x5 x13) x735000).bind fun t776 => (if t776 = x4 then (if x13 > 0 then (if 0 ≤ (wrap64 (x13 - 1)) then (if (wrap64 (x13 - 1)) < (x5.length : Int) then ((laws_sameInts.f k (rd_L2 x5 (wrap64 (x13 - 1))) (rd_L2 x5 x13)).bind fun t779 => (if t779 = true then (some false) else (laws_FnFactorizations.l0 k x4 x5 (wrap64 (x13 + 1)) x735000))) else (none)) else (none)) else (laws_FnFactorizations.l0 k x4 x5 (wrap64 (x13 + 1)) x735000)) else (some false))) else (some false))) else (none)) else (if x4 < 0 then (some true) else (if x4 > 100 then (some true) else ((spec_IsSemigroup.f k x735000).bind fun t770 => (if t770 = true then ((impl_CountFactorizations.f k x735000 x4).bind fun t771 => (if (x5.length : Int) = t771 then (if x4 = 0 then (some ((decide ((x5.length : Int) > 0)) == true)) else ((spec_Contains.f k x735000 x4).bind fun t772 => (some ((decide ((x5.length : Int) > 0)) == t772)))) else (some false))) else (some true)))))
end
def laws_FnFactorizations.f (k : Nat) (l0 : List Int) : Option (Bool) := (laws_big.f l0).bind fun t729 => (if t729 = true then (some true) else ((spec_DrawFactorizations.f k l0).bind fun bt730 => ((impl_Factorizations.f k bt730.1 bt730.2).bind fun t735 => ((spec_DrawCountFactorizations.f k l0).bind fun bt738 => ((spec_DrawIsFactorization.f k l0).bind fun bt743 => ((spec_DrawValueOf.f k l0).bind fun bt751 => ((spec_Factorizations.f k bt730.1 bt730.2).bind fun t758 => ((laws_sameLists.f k t735 t758).bind fun t761 => (if t761 = true then ((impl_CountFactorizations.f k bt738.1 bt738.2).bind fun t762 => ((spec_CountFactorizations.f k bt738.1 bt738.2).bind fun t763 => (if t762 = t763 then ((impl_IsFactorization.f k bt743.1 bt743.2.1 bt743.2.2).bind fun t764 => ((spec_IsFactorization.f k bt743.1 bt743.2.1 bt743.2.2).bind fun t765 => (if (t764 != t765) = true then (laws_FnFactorizations.j0 k bt730.2 t735 true bt730.1) else ((impl_ValueOf.f k bt751.1 bt751.2).bind fun t766 => ((spec_ValueOf.f k bt751.1 bt751.2).bind fun t767 => (if t766 = t767 then ((impl_FactorText.f k bt751.1 bt751.2).bind fun t768 => ((spec_FactorText.f k bt751.1 bt751.2).bind fun t769 => (laws_FnFactorizations.j0 k bt730.2 t735 (t768.toList != t769.toList) bt730.1))) else (laws_FnFactorizations.j0 k bt730.2 t735 true bt730.1))))))) else (laws_FnFactorizations.j0 k bt730.2 t735 true bt730.1)))) else (laws_FnFactorizations.j0 k bt730.2 t735 true bt730.1))))))))))
def laws_FnFactorizations.T8 : Bool × List (List Nat × List Nat) := (true, [([], []), ([], []), ([], []), ([1, 2], [1, 2]), ([0, 3, 3], [0, 3]), ([4], [4]), ([5, 4], [5]), ([6], [6]), ([6], [6]), ([7, 8, 6, 6], [6, 7, 8]), ([6], [6]), ([6], [6]), ([10, 11, 9, 6], [6, 10, 11]), ([9, 12, 6], [6, 9, 12]), ([6, 13], [6, 13]), ([14, 12], [14]), ([15], [15]), ([15], [15]), ([15], [15]), ([16, 17, 18, 15, 15], [15, 16, 17, 18]), ([15], [15]), ([15], [15]), ([15], [15]), ([20, 21, 22, 19, 15], [15, 20, 21, 22]), ([19, 23, 15], [15, 19, 23]), ([15, 24], [15, 24]), ([25, 23], [25]), ([26], [26]), ([26], [26]), ([27, 28, 26, 26], [26, 27, 28]), ([26], [26]), ([26], [26]), ([30, 31, 29, 26], [26, 30, 31]), ([29, 32, 26], [26, 29, 32]), ([26, 33], [26, 33]), ([34, 32], [34]), ([35], [35]), ([35], [35]), ([36, 37, 35, 35], [35, 36, 37]), ([35], [35]), ([35], [35]), ([39, 40, 38, 35], [35, 39, 40]), ([38, 41, 35], [35, 38, 41]), ([35, 42], [35, 42])])
def laws_FnFactorizations.B8 : List Nat := [0, 0, 0, 6, 15, 31, 63, 127, 127, 511, 127, 127, 4095, 8191, 16383, 32767, 65535, 65535, 65535, 524287, 65535, 65535, 65535, 8388607, 16777215, 33554431, 67108863, 134217727, 134217727, 536870911, 134217727, 134217727, 4294967295, 8589934591, 17179869183, 34359738367, 68719476735, 68719476735, 274877906943, 68719476735, 68719476735, 2199023255551, 4398046511103, 8796093022207]
theorem laws_FnFactorizations.tab8 : rtab .any (opsOf Tryd.f3 8) = laws_FnFactorizations.T8 := by kernel_rfl
theorem laws_FnFactorizations.bits8 : waitsOk laws_FnFactorizations.T8.2 laws_FnFactorizations.B8 = true := by kernel_rfl
def laws_FnFactorizations.T13 : Bool × List (List Nat × List Nat) := (true, [([], []), ([], []), ([], []), ([], []), ([2, 3], [2, 3]), ([4], [4]), ([0, 1, 5], [0, 1, 5]), ([6], [6]), ([7, 6], [7]), ([8], [8]), ([8], [8]), ([9, 10, 8], [8, 9, 10]), ([11, 8], [8, 11]), ([8], [8]), ([13, 8], [8, 13]), ([12, 14, 8, 8], [8, 12, 14]), ([8], [8]), ([15, 16, 8], [8, 15, 16]), ([8, 17], [8, 17]), ([18, 15], [18]), ([19], [19]), ([20, 19], [19, 20]), ([21, 19, 19], [19, 21]), ([22], [22]), ([22], [22]), ([24, 22], [22, 24]), ([23, 25, 22], [22, 23, 25]), ([26, 22], [22, 26]), ([22], [22]), ([22], [22]), ([28, 29, 22], [22, 28, 29]), ([30, 22], [22, 30]), ([27, 31, 22, 22], [22, 27, 31]), ([22, 32, 19], [19, 22, 32]), ([19, 33], [19, 33])])
def laws_FnFactorizations.B13 : List Nat := [0, 0, 0, 0, 12, 28, 63, 127, 255, 511, 511, 2047, 4095, 511, 8703, 32767, 511, 131071, 262143, 524287, 1048575, 2097151, 4194303, 8388607, 8388607, 25165823, 67108863, 134217727, 8388607, 8388607, 813694975, 1887436799, 4294967295, 8589934591, 17179869183]
theorem laws_FnFactorizations.tab13 : rtab .any (opsOf Tryd.f3 13) = laws_FnFactorizations.T13 := by kernel_rfl
theorem laws_FnFactorizations.bits13 : waitsOk laws_FnFactorizations.T13.2 laws_FnFactorizations.B13 = true := by kernel_rfl
theorem laws_FnFactorizations.j0_no {k : Nat} : ∀ {a0} {a1} {a3}, laws_FnFactorizations.j0 k a0 a1 true a3 ≠ some true := by
 intros
 cases k <;> simp [laws_FnFactorizations.j0]
set_option maxHeartbeats 8000000 in
set_option maxRecDepth 100000 in
theorem laws_FnFactorizations.calls (k : Nat) (A0 : Option Addr) (c0 : Nat) (l0 : List Int) (w : World) (hr0 : Kd.C (Kd.int .u8) w A0 l0.length l0) (hc0 : l0.length ≤ c0) (h : laws_FnFactorizations.f k l0 = some true) (htab : Tab10 w) :
  Calls Tryd.prog 3 #[.slice A0 l0.length c0] w fun e w' => e = .returned (.bool true) ∧ Below w.heap.size w w' := by
 have hu26 := Tryd.underlying26
 have HR0 := am hr0
 have HC0 := am hc0
 clear hr0 hc0
 have HB := am (Below.refl w.heap.size w)
 have H : ((laws_big.f l0).bind fun t729 => (if t729 = true then (some true) else ((spec_DrawFactorizations.f k l0).bind fun bt730 => ((impl_Factorizations.f k bt730.1 bt730.2).bind fun t735 => ((spec_DrawCountFactorizations.f k l0).bind fun bt738 => ((spec_DrawIsFactorization.f k l0).bind fun bt743 => ((spec_DrawValueOf.f k l0).bind fun bt751 => ((spec_Factorizations.f k bt730.1 bt730.2).bind fun t758 => ((laws_sameLists.f k t735 t758).bind fun t761 => (if t761 = true then ((impl_CountFactorizations.f k bt738.1 bt738.2).bind fun t762 => ((spec_CountFactorizations.f k bt738.1 bt738.2).bind fun t763 => (if t762 = t763 then ((impl_IsFactorization.f k bt743.1 bt743.2.1 bt743.2.2).bind fun t764 => ((spec_IsFactorization.f k bt743.1 bt743.2.1 bt743.2.2).bind fun t765 => (if (t764 != t765) = true then (laws_FnFactorizations.j0 k bt730.2 t735 true bt730.1) else ((impl_ValueOf.f k bt751.1 bt751.2).bind fun t766 => ((spec_ValueOf.f k bt751.1 bt751.2).bind fun t767 => (if t766 = t767 then ((impl_FactorText.f k bt751.1 bt751.2).bind fun t768 => ((spec_FactorText.f k bt751.1 bt751.2).bind fun t769 => (laws_FnFactorizations.j0 k bt730.2 t735 (t768.toList != t769.toList) bt730.1))) else (laws_FnFactorizations.j0 k bt730.2 t735 true bt730.1))))))) else (laws_FnFactorizations.j0 k bt730.2 t735 true bt730.1)))) else (laws_FnFactorizations.j0 k bt730.2 t735 true bt730.1))))))))))) = some true := h
 clear h
 replace H := ga H; obtain ⟨t729, A2, H⟩ := H
 by_cases c3 : t729 = true
 ·subst c3
  have H1 : (some true) = some true := rfl
  clear H
  have H := H1
  clear H1
  skip
  go_enter Tryd.func3, Tryd.ntmps3
  go_wp2_with (first | ((with_reducible refine gate_callee (f := 4) rfl ?_); refine goesL_ (some 15) rfl rfl Tryd.func4 (by kernel_rfl) rfl #[.slice A0 l0.length c0] rfl (by (try simp only [List.map_toArray, List.map_cons, List.map_nil]); first | done | rfl | (simp only [List.length_drop, List.length_take]; rfl)) ?_; (with_reducible refine (laws_big.calls _ _ l0 true _ ?side1 ?side2 A2.out).mono ?_); (case side1 => exact co HR0.out); (case side2 => exact HC0.out); rintro e w' ⟨rfl, ⟨nd, rfl⟩⟩; refine ⟨_, rfl, ?_⟩))
  go_ret
  exact ⟨re, bw⟩
 replace c3 := Bool.eq_false_iff.mpr c3
 subst c3
 have H1 : ((spec_DrawFactorizations.f k l0).bind fun bt730 => ((impl_Factorizations.f k bt730.1 bt730.2).bind fun t735 => ((spec_DrawCountFactorizations.f k l0).bind fun bt738 => ((spec_DrawIsFactorization.f k l0).bind fun bt743 => ((spec_DrawValueOf.f k l0).bind fun bt751 => ((spec_Factorizations.f k bt730.1 bt730.2).bind fun t758 => ((laws_sameLists.f k t735 t758).bind fun t761 => (if t761 = true then ((impl_CountFactorizations.f k bt738.1 bt738.2).bind fun t762 => ((spec_CountFactorizations.f k bt738.1 bt738.2).bind fun t763 => (if t762 = t763 then ((impl_IsFactorization.f k bt743.1 bt743.2.1 bt743.2.2).bind fun t764 => ((spec_IsFactorization.f k bt743.1 bt743.2.1 bt743.2.2).bind fun t765 => (if (t764 != t765) = true then (laws_FnFactorizations.j0 k bt730.2 t735 true bt730.1) else ((impl_ValueOf.f k bt751.1 bt751.2).bind fun t766 => ((spec_ValueOf.f k bt751.1 bt751.2).bind fun t767 => (if t766 = t767 then ((impl_FactorText.f k bt751.1 bt751.2).bind fun t768 => ((spec_FactorText.f k bt751.1 bt751.2).bind fun t769 => (laws_FnFactorizations.j0 k bt730.2 t735 (t768.toList != t769.toList) bt730.1))) else (laws_FnFactorizations.j0 k bt730.2 t735 true bt730.1))))))) else (laws_FnFactorizations.j0 k bt730.2 t735 true bt730.1)))) else (laws_FnFactorizations.j0 k bt730.2 t735 true bt730.1))))))))) = some true := by rw [if_neg (show ¬ (false = true) by decide)] at H; exact H
 clear H
 have H := H1
 clear H1
 replace H := ga H; obtain ⟨⟨t730, t733⟩, A4, H⟩ := H
 replace H : ((impl_Factorizations.f k t730 t733).bind fun t735 => ((spec_DrawCountFactorizations.f k l0).bind fun bt738 => ((spec_DrawIsFactorization.f k l0).bind fun bt743 => ((spec_DrawValueOf.f k l0).bind fun bt751 => ((spec_Factorizations.f k t730 t733).bind fun t758 => ((laws_sameLists.f k t735 t758).bind fun t761 => (if t761 = true then ((impl_CountFactorizations.f k bt738.1 bt738.2).bind fun t762 => ((spec_CountFactorizations.f k bt738.1 bt738.2).bind fun t763 => (if t762 = t763 then ((impl_IsFactorization.f k bt743.1 bt743.2.1 bt743.2.2).bind fun t764 => ((spec_IsFactorization.f k bt743.1 bt743.2.1 bt743.2.2).bind fun t765 => (if (t764 != t765) = true then (laws_FnFactorizations.j0 k t733 t735 true t730) else ((impl_ValueOf.f k bt751.1 bt751.2).bind fun t766 => ((spec_ValueOf.f k bt751.1 bt751.2).bind fun t767 => (if t766 = t767 then ((impl_FactorText.f k bt751.1 bt751.2).bind fun t768 => ((spec_FactorText.f k bt751.1 bt751.2).bind fun t769 => (laws_FnFactorizations.j0 k t733 t735 (t768.toList != t769.toList) t730))) else (laws_FnFactorizations.j0 k t733 t735 true t730))))))) else (laws_FnFactorizations.j0 k t733 t735 true t730)))) else (laws_FnFactorizations.j0 k t733 t735 true t730)))))))) = some true := H
 replace H := ga H; obtain ⟨t735, A5, H⟩ := H
 replace H := ga H; obtain ⟨⟨t738, t741⟩, A6, H⟩ := H
 replace H : ((spec_DrawIsFactorization.f k l0).bind fun bt743 => ((spec_DrawValueOf.f k l0).bind fun bt751 => ((spec_Factorizations.f k t730 t733).bind fun t758 => ((laws_sameLists.f k t735 t758).bind fun t761 => (if t761 = true then ((impl_CountFactorizations.f k t738 t741).bind fun t762 => ((spec_CountFactorizations.f k t738 t741).bind fun t763 => (if t762 = t763 then ((impl_IsFactorization.f k bt743.1 bt743.2.1 bt743.2.2).bind fun t764 => ((spec_IsFactorization.f k bt743.1 bt743.2.1 bt743.2.2).bind fun t765 => (if (t764 != t765) = true then (laws_FnFactorizations.j0 k t733 t735 true t730) else ((impl_ValueOf.f k bt751.1 bt751.2).bind fun t766 => ((spec_ValueOf.f k bt751.1 bt751.2).bind fun t767 => (if t766 = t767 then ((impl_FactorText.f k bt751.1 bt751.2).bind fun t768 => ((spec_FactorText.f k bt751.1 bt751.2).bind fun t769 => (laws_FnFactorizations.j0 k t733 t735 (t768.toList != t769.toList) t730))) else (laws_FnFactorizations.j0 k t733 t735 true t730))))))) else (laws_FnFactorizations.j0 k t733 t735 true t730)))) else (laws_FnFactorizations.j0 k t733 t735 true t730)))))) = some true := H
 replace H := ga H; obtain ⟨⟨t743, t746, t747⟩, A7, H⟩ := H
 replace H : ((spec_DrawValueOf.f k l0).bind fun bt751 => ((spec_Factorizations.f k t730 t733).bind fun t758 => ((laws_sameLists.f k t735 t758).bind fun t761 => (if t761 = true then ((impl_CountFactorizations.f k t738 t741).bind fun t762 => ((spec_CountFactorizations.f k t738 t741).bind fun t763 => (if t762 = t763 then ((impl_IsFactorization.f k t743 t746 t747).bind fun t764 => ((spec_IsFactorization.f k t743 t746 t747).bind fun t765 => (if (t764 != t765) = true then (laws_FnFactorizations.j0 k t733 t735 true t730) else ((impl_ValueOf.f k bt751.1 bt751.2).bind fun t766 => ((spec_ValueOf.f k bt751.1 bt751.2).bind fun t767 => (if t766 = t767 then ((impl_FactorText.f k bt751.1 bt751.2).bind fun t768 => ((spec_FactorText.f k bt751.1 bt751.2).bind fun t769 => (laws_FnFactorizations.j0 k t733 t735 (t768.toList != t769.toList) t730))) else (laws_FnFactorizations.j0 k t733 t735 true t730))))))) else (laws_FnFactorizations.j0 k t733 t735 true t730)))) else (laws_FnFactorizations.j0 k t733 t735 true t730))))) = some true := H
 replace H := ga H; obtain ⟨⟨t751, t754⟩, A8, H⟩ := H
 replace H : ((spec_Factorizations.f k t730 t733).bind fun t758 => ((laws_sameLists.f k t735 t758).bind fun t761 => (if t761 = true then ((impl_CountFactorizations.f k t738 t741).bind fun t762 => ((spec_CountFactorizations.f k t738 t741).bind fun t763 => (if t762 = t763 then ((impl_IsFactorization.f k t743 t746 t747).bind fun t764 => ((spec_IsFactorization.f k t743 t746 t747).bind fun t765 => (if (t764 != t765) = true then (laws_FnFactorizations.j0 k t733 t735 true t730) else ((impl_ValueOf.f k t751 t754).bind fun t766 => ((spec_ValueOf.f k t751 t754).bind fun t767 => (if t766 = t767 then ((impl_FactorText.f k t751 t754).bind fun t768 => ((spec_FactorText.f k t751 t754).bind fun t769 => (laws_FnFactorizations.j0 k t733 t735 (t768.toList != t769.toList) t730))) else (laws_FnFactorizations.j0 k t733 t735 true t730))))))) else (laws_FnFactorizations.j0 k t733 t735 true t730)))) else (laws_FnFactorizations.j0 k t733 t735 true t730)))) = some true := H
 have HC9 := am H
 clear H
 go_enter Tryd.func3, Tryd.ntmps3
 go_upto_region 8 with (first | ((with_reducible refine gate_callee (f := 4) rfl ?_); refine goesL_ (some 15) rfl rfl Tryd.func4 (by kernel_rfl) rfl #[.slice A0 l0.length c0] rfl (by (try simp only [List.map_toArray, List.map_cons, List.map_nil]); first | done | rfl | (simp only [List.length_drop, List.length_take]; rfl)) ?_; (with_reducible refine (laws_big.calls _ _ l0 false _ ?side1 ?side2 A2.out).mono ?_); (case side1 => exact co HR0.out); (case side2 => exact HC0.out); rintro e w' ⟨rfl, ⟨nd, rfl⟩⟩; refine ⟨_, rfl, ?_⟩) | ((with_reducible refine gate_callee (f := 5) rfl ?_); refine goesL_ (some 18) rfl rfl Tryd.func5 (by kernel_rfl) rfl #[.slice A0 l0.length c0] rfl (by (try simp only [List.map_toArray, List.map_cons, List.map_nil]); first | done | rfl | (simp only [List.length_drop, List.length_take]; rfl)) ?_; (with_reducible refine (spec_DrawFactorizations.calls k _ _ l0 t730 t733 _ ?side1 ?side2 A4.out).mono ?_); (case side1 => exact co HR0.out); (case side2 => exact HC0.out); rintro e w10 ⟨v731, rfl, ho0, hb⟩; refine ⟨_, rfl, ?_⟩; have HO732 := am (Kd.Q_lower ho0 (below_size bw)); replace HB := am (below_step bw hb); clear hb ho0) | ((with_reducible refine gate_dst (N := 3) rfl ?_); (try (refine gate_guard (by rfl) ?_; dsimp only)); refine bx 3 #[.slice none 0 0] 26 ?_; intro gb734 hg w11 hbox hb; replace HO732 := qK HO732 hb; have BK734 := am (hbox); have GW734 := am (gs hg : w.heap.size ≤ gb734); have GE734 := GW734; replace HB := am (below_step bw hb); clear hb hbox hg; obtain ⟨Ao12, co12, eo12, _⟩ := Kd.Q_slice HO732.out; subst eo12; have hcz13_0 := bc BK734 0 (.slice none 0 0); have hfz13_0 := blk_frozen BK734.out 0) | ((with_reducible refine gate_callee (f := 6) rfl ?_); refine goesL_ (some 23) rfl rfl Tryd.func6 (by kernel_rfl) rfl #[.agg #[.slice Ao12 t730.length co12], .int .i64 t733] rfl (by (try simp only [List.map_toArray, List.map_cons, List.map_nil]); first | done | rfl | (simp only [List.length_drop, List.length_take]; rfl)) ?_; (with_reducible refine (impl_Factorizations.calls k _ _ t730 t733 t735 _ ?side1 ?side2 A5.out).mono ?_); (case side1 => refine (Kd.Q_reads' (e := 3) (base := w.heap.size) (ok := fun k_ => True) (n := t730.length) (c := co12) ?_).2.2; exact (qF HO732 BK734 (.slice Ao12 t730.length co12))); (case side2 => exact (Kd.Q_reads' HO732.out).2.1); rintro e w14 ⟨v736, rfl, ho0, hb⟩; refine ⟨_, rfl, ?_⟩; have HO737 := am (Kd.N_lower (Kd.N_mono (ok' := fun k_ => nb k_ Ao12 t730 co12 ∧ k_ ≠ gb734) (Kd.S_N (Kd.S_bound ho0)) (fun k_ hk_ => ⟨(Kd.fresh' (Kd.Q_lt (qF HO732 BK734 (.slice Ao12 t730.length co12))) k_ hk_.2.1), (Kd.freshB (g := gb734) (o := .cells #[.slice Ao12 t730.length co12] 26 (0, 0)) (bp BK734.out) k_ hk_.2.1)⟩)) (below_size bw)); replace HO732 := am (Kd.Q_below (qF HO732 BK734 (.slice Ao12 t730.length co12)) hb); replace BK734 := am (blk_below (g := gb734) (o := .cells #[.slice Ao12 t730.length co12] 26 (0, 0)) (bp BK734.out) hb); replace HB := am (below_step bw hb); clear hb ho0) | ((with_reducible refine gate_callee (f := 7) rfl ?_); refine goesL_ (some 26) rfl rfl Tryd.func7 (by kernel_rfl) rfl #[.slice A0 l0.length c0] rfl (by (try simp only [List.map_toArray, List.map_cons, List.map_nil]); first | done | rfl | (simp only [List.length_drop, List.length_take]; rfl)) ?_; (with_reducible refine (spec_DrawCountFactorizations.calls k _ _ l0 t738 t741 _ ?side1 ?side2 A6.out).mono ?_); (case side1 => exact co (Kd.C_below HR0.out HB.out)); (case side2 => exact HC0.out); rintro e w15 ⟨v739, rfl, ho0, hb⟩; refine ⟨_, rfl, ?_⟩; replace HO737 := am (Kd.N_elder' (no HO737.out) (Kd.Q_base ho0) hb); have HO740 := am (Kd.Q_lower (Kd.Q_new' ho0 (Kd.Q_lt (qo HO732.out))) (below_size bw)); replace HO732 := am (Kd.Q_elder' (qo HO732.out) (Kd.Q_base ho0) hb); replace BK734 := kb BK734 hb; replace HB := am (below_step bw hb); clear hb ho0) | ((with_reducible refine gate_dst (N := 6) rfl ?_); (try (refine gate_guard (by rfl) ?_; dsimp only)); refine bx 6 #[.slice none 0 0] 26 ?_; intro gb742 hg w16 hbox hb; replace HO732 := qK HO732 hb; replace HO737 := am (Kd.N_below (Kd.N_elderB (no HO737.out) gb742 (Nat.le_of_eq hg.symm)) hb); replace HO740 := qK HO740 hb; have BK742 := am (hbox); have GW742 := am (gs hg : w.heap.size ≤ gb742); have GE742 := GW742; replace HB := am (below_step bw hb); have NB734_742 := nl hg BK734; have NB742_734 := ns NB734_742; replace BK734 := kb BK734 hb; clear hb hbox hg; obtain ⟨Ao17, co17, eo17, _⟩ := Kd.Q_slice HO740.out; subst eo17; have hnb18 := NB742_734.out; have hnc18 := NB734_742.out; have hcz19_0 := bc BK742 0 (.slice none 0 0); have hfz19_0 := blk_frozen BK742.out 0) | ((with_reducible refine gate_callee (f := 8) rfl ?_); refine goesL_ (some 31) rfl rfl Tryd.func8 (by kernel_rfl) rfl #[.slice A0 l0.length c0] rfl (by (try simp only [List.map_toArray, List.map_cons, List.map_nil]); first | done | rfl | (simp only [List.length_drop, List.length_take]; rfl)) ?_; (with_reducible refine (spec_DrawIsFactorization.calls k _ _ l0 t743 t746 t747 _ ?side1 ?side2 A7.out).mono ?_); (case side1 => exact Kd.C_below HR0.out bw); (case side2 => exact HC0.out); rintro e w20 ⟨v744, v748, rfl, ho0, ho1, hb⟩; refine ⟨_, rfl, ?_⟩; replace HO737 := am (Kd.N_mono (Kd.N_told (Kd.N_told (Kd.N_old (by (with_reducible repeat (first | apply Kd.N_alloc | apply Kd.N_drewN | apply Kd.N_drew)); exact (Kd.N_mono (Kd.N_far (p := ⟨gb742, 0, none⟩) (Kd.N_mono HO737.out (fun k_ hk => (⟨hk, hk.2⟩ : _ ∧ k_ ≠ gb742))) (fun _ hk => hk.2) (.slice Ao17 t738.length co17)) (fun _ h_ => h_.1))) hb) (Kd.Q_base ho0)) (Kd.R_base ho1)) (fun _ h_ => h_.1)); have HO745 := am (Kd.Q_lower (Kd.Q_new' (Kd.Q_new' ho0 (Kd.Q_lt (qF HO732 BK742 (.slice Ao17 t738.length co17)))) (Kd.Q_lt (qF HO740 BK742 (.slice Ao17 t738.length co17)))) (below_size bw)); have HO749 := am (Kd.R_lower (Kd.R_new' (Kd.R_new' ho1 (Kd.Q_lt (qF HO732 BK742 (.slice Ao17 t738.length co17)))) (Kd.Q_lt (qF HO740 BK742 (.slice Ao17 t738.length co17)))) (below_size bw)); replace HO732 := am (Kd.Q_mono (Kd.Q_told (Kd.Q_told (Kd.Q_old (qF HO732 BK742 (.slice Ao17 t738.length co17)) hb) (Kd.Q_base ho0)) (Kd.R_base ho1)) (fun _ h_ => h_.1)); replace HO740 := am (Kd.Q_mono (Kd.Q_told (Kd.Q_told (Kd.Q_old (qF HO740 BK742 (.slice Ao17 t738.length co17)) hb) (Kd.Q_base ho0)) (Kd.R_base ho1)) (fun _ h_ => h_.1)); replace BK734 := kb BK734 hb; replace BK742 := am (blk_below (g := gb742) (o := .cells #[.slice Ao17 t738.length co17] 26 (0, 0)) (bp BK742.out) hb); replace HB := am (below_step bw hb); clear hb ho0 ho1) | ((with_reducible refine gate_dst (N := 8) rfl ?_); (try (refine gate_guard (by rfl) ?_; dsimp only)); refine bx 8 #[.slice none 0 0] 26 ?_; intro gb750 hg w21 hbox hb; replace HO732 := qK HO732 hb; replace HO737 := am (Kd.N_below (Kd.N_elderB (no HO737.out) gb750 (Nat.le_of_eq hg.symm)) hb); replace HO740 := qK HO740 hb; replace HO745 := qK HO745 hb; replace HO749 := rK HO749 hb; have BK750 := am (hbox); have GW750 := am (gs hg : w.heap.size ≤ gb750); have GE750 := GW750; replace HB := am (below_step bw hb); have NB734_750 := nl hg BK734; have NB750_734 := ns NB734_750; replace BK734 := kb BK734 hb; have NB742_750 := nl hg BK742; have NB750_742 := ns NB742_750; replace BK742 := kb BK742 hb; clear hb hbox hg; obtain ⟨Ao22, co22, eo22, _⟩ := Kd.Q_slice HO745.out; subst eo22; have hnb23 := NB750_734.out; have hnc23 := NB734_750.out; have hnb24 := NB750_742.out; have hnc24 := NB742_750.out; have hcz25_0 := bc BK750 0 (.slice none 0 0); have hfz25_0 := blk_frozen BK750.out 0) | ((with_reducible refine gate_callee (f := 9) rfl ?_); refine goesL_ (some 37) rfl rfl Tryd.func9 (by kernel_rfl) rfl #[.slice A0 l0.length c0] rfl (by (try simp only [List.map_toArray, List.map_cons, List.map_nil]); first | done | rfl | (simp only [List.length_drop, List.length_take]; rfl)) ?_; (with_reducible refine (spec_DrawValueOf.calls k _ _ l0 t751 t754 _ ?side1 ?side2 A8.out).mono ?_); (case side1 => exact Kd.C_below HR0.out bw); (case side2 => exact HC0.out); rintro e w26 ⟨v752, v755, rfl, ho0, ho1, hb⟩; refine ⟨_, rfl, ?_⟩; replace HO737 := am (Kd.N_mono (Kd.N_told (Kd.N_told (Kd.N_old (by (with_reducible repeat (first | apply Kd.N_alloc | apply Kd.N_drewN | apply Kd.N_drew)); exact (Kd.N_mono (Kd.N_far (p := ⟨gb750, 0, none⟩) (Kd.N_mono HO737.out (fun k_ hk => (⟨hk, hk.2⟩ : _ ∧ k_ ≠ gb750))) (fun _ hk => hk.2) (.slice Ao22 t743.length co22)) (fun _ h_ => h_.1))) hb) (Kd.Q_base ho0)) (Kd.R_base ho1)) (fun _ h_ => h_.1)); have HO753 := am (Kd.Q_lower (Kd.Q_new' (Kd.Q_new' (Kd.Q_new' (Kd.Q_new' ho0 (Kd.Q_lt (qF HO732 BK750 (.slice Ao22 t743.length co22)))) (Kd.Q_lt (qF HO740 BK750 (.slice Ao22 t743.length co22)))) (Kd.Q_lt (qF HO745 BK750 (.slice Ao22 t743.length co22)))) (Kd.R_lt (rF HO749 BK750 (.slice Ao22 t743.length co22)))) (below_size bw)); have HO756 := am (Kd.R_lower (Kd.R_new' (Kd.R_new' (Kd.R_new' (Kd.R_new' ho1 (Kd.Q_lt (qF HO732 BK750 (.slice Ao22 t743.length co22)))) (Kd.Q_lt (qF HO740 BK750 (.slice Ao22 t743.length co22)))) (Kd.Q_lt (qF HO745 BK750 (.slice Ao22 t743.length co22)))) (Kd.R_lt (rF HO749 BK750 (.slice Ao22 t743.length co22)))) (below_size bw)); replace HO732 := am (Kd.Q_mono (Kd.Q_told (Kd.Q_told (Kd.Q_old (qF HO732 BK750 (.slice Ao22 t743.length co22)) hb) (Kd.Q_base ho0)) (Kd.R_base ho1)) (fun _ h_ => h_.1)); replace HO740 := am (Kd.Q_mono (Kd.Q_told (Kd.Q_told (Kd.Q_old (qF HO740 BK750 (.slice Ao22 t743.length co22)) hb) (Kd.Q_base ho0)) (Kd.R_base ho1)) (fun _ h_ => h_.1)); replace HO745 := am (Kd.Q_mono (Kd.Q_told (Kd.Q_told (Kd.Q_old (qF HO745 BK750 (.slice Ao22 t743.length co22)) hb) (Kd.Q_base ho0)) (Kd.R_base ho1)) (fun _ h_ => h_.1)); replace HO749 := am (Kd.R_mono (Kd.R_told (Kd.R_told (Kd.R_old (rF HO749 BK750 (.slice Ao22 t743.length co22)) hb) (Kd.Q_base ho0)) (Kd.R_base ho1)) (fun _ h_ => h_.1)); replace BK734 := kb BK734 hb; replace BK742 := kb BK742 hb; replace BK750 := am (blk_below (g := gb750) (o := .cells #[.slice Ao22 t743.length co22] 26 (0, 0)) (bp BK750.out) hb); replace HB := am (below_step bw hb); clear hb ho0 ho1) | ((with_reducible refine gate_dst (N := 11) rfl ?_); (try (refine gate_guard (by rfl) ?_; dsimp only)); refine bx 11 #[.slice none 0 0] 26 ?_; intro gb757 hg w27 hbox hb; replace HO732 := qK HO732 hb; replace HO737 := am (Kd.N_below (Kd.N_elderB (no HO737.out) gb757 (Nat.le_of_eq hg.symm)) hb); replace HO740 := qK HO740 hb; replace HO745 := qK HO745 hb; replace HO749 := rK HO749 hb; replace HO753 := qK HO753 hb; replace HO756 := rK HO756 hb; have BK757 := am (hbox); have GW757 := am (gs hg : w.heap.size ≤ gb757); have GE757 := GW757; replace HB := am (below_step bw hb); have NB734_757 := nl hg BK734; have NB757_734 := ns NB734_757; replace BK734 := kb BK734 hb; have NB742_757 := nl hg BK742; have NB757_742 := ns NB742_757; replace BK742 := kb BK742 hb; have NB750_757 := nl hg BK750; have NB757_750 := ns NB750_757; replace BK750 := kb BK750 hb; clear hb hbox hg; obtain ⟨Ao28, co28, eo28, _⟩ := Kd.Q_slice HO753.out; subst eo28; have hnb29 := NB757_734.out; have hnc29 := NB734_757.out; have hnb30 := NB757_742.out; have hnc30 := NB742_757.out; have hnb31 := NB757_750.out; have hnc31 := NB750_757.out; have hcz32_0 := bc BK757 0 (.slice none 0 0); have hfz32_0 := blk_frozen BK757.out 0))
 (try simp only [Act.put, List.setIfInBounds_toArray, List.set_cons_zero, List.set_cons_succ])
 go_cut [83] (fun v83 wc => ∃ (kq : Nat) (x83_8 : Bool), v83 = .bool x83_8 ∧ Aside0 (laws_FnFactorizations.j0 kq t733 t735 x83_8 t730 = some true) ∧ Aside0 (kq ≤ k) ∧ Aside0 (Kd.N (Kd.slice 3 (Kd.int .i64)) 24 wc w.heap.size (fun k_ => nb k_ Ao12 t730 co12 ∧ nb k_ Ao17 t738 co17 ∧ nb k_ Ao22 t743 co22 ∧ nb k_ Ao28 t751 co28 ∧ k_ ≠ gb734 ∧ k_ ≠ gb742 ∧ k_ ≠ gb750 ∧ k_ ≠ gb757) v736 t735) ∧ Aside0 (Kd.Q (Kd.int .i64) 3 wc w.heap.size (fun k_ => nb k_ Ao17 t738 co17 ∧ nb k_ Ao22 t743 co22 ∧ nb k_ Ao28 t751 co28) (.slice Ao12 t730.length co12) t730) ∧ Aside0 (Kd.Q (Kd.int .i64) 3 wc w.heap.size (fun k_ => nb k_ Ao12 t730 co12 ∧ nb k_ Ao22 t743 co22 ∧ nb k_ Ao28 t751 co28) (.slice Ao17 t738.length co17) t738) ∧ Aside0 (Kd.Q (Kd.int .i64) 3 wc w.heap.size (fun k_ => nb k_ Ao12 t730 co12 ∧ nb k_ Ao17 t738 co17 ∧ nb k_ Ao28 t751 co28) (.slice Ao22 t743.length co22) t743) ∧ Aside0 (Kd.Q (Kd.int .i64) 3 wc w.heap.size (fun k_ => nb k_ Ao12 t730 co12 ∧ nb k_ Ao17 t738 co17 ∧ nb k_ Ao22 t743 co22) (.slice Ao28 t751.length co28) t751) ∧ Aside0 (wc.heap[gb734]? = some (.cells #[(.slice Ao12 t730.length co12)] 26 (0, 0))) ∧ Aside0 (wc.heap[gb742]? = some (.cells #[(.slice Ao17 t738.length co17)] 26 (0, 0))) ∧ Aside0 (wc.heap[gb750]? = some (.cells #[(.slice Ao22 t743.length co22)] 26 (0, 0))) ∧ Aside0 (wc.heap[gb757]? = some (.cells #[(.slice Ao28 t751.length co28)] 26 (0, 0))) ∧ Aside0 (Below w.heap.size w wc))
 case first =>
  have H := HC9.out
  clear HC9
  replace H := ga H; obtain ⟨t758, A33, H⟩ := H
  replace H := ga H; obtain ⟨t761, A34, H⟩ := H
  by_cases c35 : t761 = true
  ·subst c35
   have H1 : ((impl_CountFactorizations.f k t738 t741).bind fun t762 => ((spec_CountFactorizations.f k t738 t741).bind fun t763 => (if t762 = t763 then ((impl_IsFactorization.f k t743 t746 t747).bind fun t764 => ((spec_IsFactorization.f k t743 t746 t747).bind fun t765 => (if (t764 != t765) = true then (laws_FnFactorizations.j0 k t733 t735 true t730) else ((impl_ValueOf.f k t751 t754).bind fun t766 => ((spec_ValueOf.f k t751 t754).bind fun t767 => (if t766 = t767 then ((impl_FactorText.f k t751 t754).bind fun t768 => ((spec_FactorText.f k t751 t754).bind fun t769 => (laws_FnFactorizations.j0 k t733 t735 (t768.toList != t769.toList) t730))) else (laws_FnFactorizations.j0 k t733 t735 true t730))))))) else (laws_FnFactorizations.j0 k t733 t735 true t730)))) = some true := by rw [if_pos rfl] at H; exact H
   clear H
   have H := H1
   clear H1
   replace H := ga H; obtain ⟨t762, A36, H⟩ := H
   replace H := ga H; obtain ⟨t763, A37, H⟩ := H
   by_cases c38 : t762 = t763
   ·rw [if_pos c38] at H
    have c38b0 : (t762 == t763) = true := beq_iff_eq.mpr c38
    have c38b1 : (t762 != t763) = false := bne_eq_false_iff_eq.mpr c38
    clear c38
    (first | rw [c38b0] | (simp only [i64_w, i32_w]; rw [c38b0]) | skip)
    replace H := ga H; obtain ⟨t764, A39, H⟩ := H
    replace H := ga H; obtain ⟨t765, A40, H⟩ := H
    by_cases c41 : (t764 != t765) = true
    ·rw [if_pos c41] at H
     exact absurd H (laws_FnFactorizations.j0_no)
    rw [if_neg c41] at H
    have c41b0 : (t764 != t765) = false := by simpa using c41
    (try (have c41b1 : decide (t764 = t765) = true := by simpa using c41))
    (try (have c41b2 : (t764 == t765) = true := by simpa using c41))
    clear c41
    replace H := ga H; obtain ⟨t766, A52, H⟩ := H
    replace H := ga H; obtain ⟨t767, A53, H⟩ := H
    by_cases c54 : t766 = t767
    ·rw [if_pos c54] at H
     have c54b0 : (t766 == t767) = true := beq_iff_eq.mpr c54
     have c54b1 : (t766 != t767) = false := bne_eq_false_iff_eq.mpr c54
     clear c54
     replace H := ga H; obtain ⟨t768, A55, H⟩ := H
     replace H := ga H; obtain ⟨t769, A56, H⟩ := H
     have H' := am H
     clear H
     try go_wp2
     have n0_ : Aside0 (Kd.Q (Kd.int .i64) 3 (w27.setCell ⟨gb757, 0, none⟩ (.slice Ao28 t751.length co28)) w.heap.size (fun k_ => nb k_ Ao17 t738 co17 ∧ nb k_ Ao22 t743 co22 ∧ some k_ ≠ (v748 : Value).ownBlock ∧ nb k_ Ao28 t751 co28 ∧ some k_ ≠ (v755 : Value).ownBlock) (.slice Ao12 t730.length co12) t730) := ⟨by (with_reducible repeat (first | apply Kd.Q_alloc | apply Kd.Q_drewN | apply Kd.Q_drew)); exact Kd.Q_mono (Kd.Q_far (p := ⟨gb757, 0, none⟩) (Kd.Q_types HO732.out BK757.out (by decide)) (fun _ hk => hk.2) (.slice Ao28 t751.length co28)) (fun _ hk => ⟨hk.1.1.1.1.1.2, ⟨hk.1.1.1.1.2, ⟨hk.1.1.1.2, ⟨hk.1.1.2, hk.1.2⟩⟩⟩⟩)⟩
     have n1_ : Aside0 (Kd.N (Kd.slice 3 (Kd.int .i64)) 24 (w27.setCell ⟨gb757, 0, none⟩ (.slice Ao28 t751.length co28)) w.heap.size (fun k_ => nb k_ Ao12 t730 co12 ∧ nb k_ Ao17 t738 co17 ∧ nb k_ Ao22 t743 co22 ∧ some k_ ≠ (v748 : Value).ownBlock ∧ nb k_ Ao28 t751 co28 ∧ some k_ ≠ (v755 : Value).ownBlock ∧ k_ ≠ gb734 ∧ k_ ≠ gb742 ∧ k_ ≠ gb750 ∧ k_ ≠ gb757) v736 t735) := ⟨by (with_reducible repeat (first | apply Kd.N_alloc | apply Kd.N_drewN | apply Kd.N_drew)); exact Kd.N_mono (Kd.N_far (p := ⟨gb757, 0, none⟩) (Kd.N_mono HO737.out (fun k_ hk => (⟨hk, hk.2⟩ : _ ∧ k_ ≠ gb757))) (fun _ hk => hk.2) (.slice Ao28 t751.length co28)) (fun _ hk => ⟨hk.1.1.1.1.1.1.1.1.1.1, ⟨hk.1.1.1.1.1.1.1.1.2, ⟨hk.1.1.1.1.1.1.2, ⟨hk.1.1.1.1.1.2, ⟨hk.1.1.1.2, ⟨hk.1.1.2, ⟨hk.1.1.1.1.1.1.1.1.1.2, ⟨hk.1.1.1.1.1.1.1.2, ⟨hk.1.1.1.1.2, hk.1.2⟩⟩⟩⟩⟩⟩⟩⟩⟩)⟩
     have n2_ : Aside0 (Kd.Q (Kd.int .i64) 3 (w27.setCell ⟨gb757, 0, none⟩ (.slice Ao28 t751.length co28)) w.heap.size (fun k_ => nb k_ Ao12 t730 co12 ∧ nb k_ Ao22 t743 co22 ∧ some k_ ≠ (v748 : Value).ownBlock ∧ nb k_ Ao28 t751 co28 ∧ some k_ ≠ (v755 : Value).ownBlock) (.slice Ao17 t738.length co17) t738) := ⟨by (with_reducible repeat (first | apply Kd.Q_alloc | apply Kd.Q_drewN | apply Kd.Q_drew)); exact Kd.Q_mono (Kd.Q_far (p := ⟨gb757, 0, none⟩) (Kd.Q_types HO740.out BK757.out (by decide)) (fun _ hk => hk.2) (.slice Ao28 t751.length co28)) (fun _ hk => ⟨hk.1.1.1.1.1.2, ⟨hk.1.1.1.1.2, ⟨hk.1.1.1.2, ⟨hk.1.1.2, hk.1.2⟩⟩⟩⟩)⟩
     have n3_ : Aside0 (Kd.Q (Kd.int .i64) 3 (w27.setCell ⟨gb757, 0, none⟩ (.slice Ao28 t751.length co28)) w.heap.size (fun k_ => nb k_ Ao12 t730 co12 ∧ nb k_ Ao17 t738 co17 ∧ some k_ ≠ (v748 : Value).ownBlock ∧ nb k_ Ao28 t751 co28 ∧ some k_ ≠ (v755 : Value).ownBlock) (.slice Ao22 t743.length co22) t743) := ⟨by (with_reducible repeat (first | apply Kd.Q_alloc | apply Kd.Q_drewN | apply Kd.Q_drew)); exact Kd.Q_mono (Kd.Q_far (p := ⟨gb757, 0, none⟩) (Kd.Q_types HO745.out BK757.out (by decide)) (fun _ hk => hk.2) (.slice Ao28 t751.length co28)) (fun _ hk => ⟨hk.1.1.1.1.2, ⟨hk.1.1.1.2, ⟨hk.1.1.1.1.1, ⟨hk.1.1.2, hk.1.2⟩⟩⟩⟩)⟩
     have n4_ : Aside0 (Kd.R (Kd.int .i64) 3 (w27.setCell ⟨gb757, 0, none⟩ (.slice Ao28 t751.length co28)) w.heap.size (fun k_ => nb k_ Ao12 t730 co12 ∧ nb k_ Ao17 t738 co17 ∧ nb k_ Ao22 t743 co22 ∧ nb k_ Ao28 t751 co28 ∧ some k_ ≠ (v755 : Value).ownBlock) v748 t747) := ⟨by (with_reducible repeat (first | apply Kd.R_alloc | apply Kd.R_drewN | apply Kd.R_drew)); exact Kd.R_mono (Kd.R_far (p := ⟨gb757, 0, none⟩) (Kd.R_types HO749.out BK757.out (by decide)) (fun _ hk => hk.2) (.slice Ao28 t751.length co28)) (fun _ hk => ⟨hk.1.1.1.1.2, ⟨hk.1.1.1.2, ⟨hk.1.1.1.1.1, ⟨hk.1.1.2, hk.1.2⟩⟩⟩⟩)⟩
     have n5_ : Aside0 (Kd.Q (Kd.int .i64) 3 (w27.setCell ⟨gb757, 0, none⟩ (.slice Ao28 t751.length co28)) w.heap.size (fun k_ => nb k_ Ao12 t730 co12 ∧ nb k_ Ao17 t738 co17 ∧ nb k_ Ao22 t743 co22 ∧ some k_ ≠ (v748 : Value).ownBlock ∧ some k_ ≠ (v755 : Value).ownBlock) (.slice Ao28 t751.length co28) t751) := ⟨by (with_reducible repeat (first | apply Kd.Q_alloc | apply Kd.Q_drewN | apply Kd.Q_drew)); exact Kd.Q_mono (Kd.Q_far (p := ⟨gb757, 0, none⟩) (Kd.Q_types HO753.out BK757.out (by decide)) (fun _ hk => hk.2) (.slice Ao28 t751.length co28)) (fun _ hk => ⟨hk.1.1.1.1.2, ⟨hk.1.1.1.2, ⟨hk.1.1.2, ⟨hk.1.2, hk.1.1.1.1.1⟩⟩⟩⟩)⟩
     have n6_ : Aside0 (Kd.R (Kd.int .i64) 3 (w27.setCell ⟨gb757, 0, none⟩ (.slice Ao28 t751.length co28)) w.heap.size (fun k_ => nb k_ Ao12 t730 co12 ∧ nb k_ Ao17 t738 co17 ∧ nb k_ Ao22 t743 co22 ∧ some k_ ≠ (v748 : Value).ownBlock ∧ nb k_ Ao28 t751 co28) v755 t754) := ⟨by (with_reducible repeat (first | apply Kd.R_alloc | apply Kd.R_drewN | apply Kd.R_drew)); exact Kd.R_mono (Kd.R_far (p := ⟨gb757, 0, none⟩) (Kd.R_types HO756.out BK757.out (by decide)) (fun _ hk => hk.2) (.slice Ao28 t751.length co28)) (fun _ hk => ⟨hk.1.1.1.1.2, ⟨hk.1.1.1.2, ⟨hk.1.1.2, ⟨hk.1.2, hk.1.1.1.1.1⟩⟩⟩⟩)⟩
     have n7_ : Aside0 ((w27.setCell ⟨gb757, 0, none⟩ (.slice Ao28 t751.length co28)).heap[gb734]? = some (.cells #[.slice Ao12 t730.length co12] 26 (0, 0))) := ⟨bf BK734.out⟩
     have n8_ : Aside0 ((w27.setCell ⟨gb757, 0, none⟩ (.slice Ao28 t751.length co28)).heap[gb742]? = some (.cells #[.slice Ao17 t738.length co17] 26 (0, 0))) := ⟨bf BK742.out⟩
     have n9_ : Aside0 ((w27.setCell ⟨gb757, 0, none⟩ (.slice Ao28 t751.length co28)).heap[gb750]? = some (.cells #[.slice Ao22 t743.length co22] 26 (0, 0))) := ⟨bf BK750.out⟩
     have n10_ : Aside0 ((w27.setCell ⟨gb757, 0, none⟩ (.slice Ao28 t751.length co28)).heap[gb757]? = some (.cells #[.slice Ao28 t751.length co28] 26 (0, 0))) := ⟨bp BK757.out⟩
     have n11_ : Aside0 (Below w.heap.size w (w27.setCell ⟨gb757, 0, none⟩ (.slice Ao28 t751.length co28))) := ⟨bw⟩
     (try clear HO732); (try clear HO737); (try clear HO740); (try clear HO745); (try clear HO749); (try clear HO753); (try clear HO756); (try clear BK734); (try clear BK742); (try clear BK750); (try clear BK757); (try clear HB)
     generalize (w27.setCell ⟨gb757, 0, none⟩ (.slice Ao28 t751.length co28)) = w57 at n0_ n1_ n2_ n3_ n4_ n5_ n6_ n7_ n8_ n9_ n10_ n11_ ⊢
     have HO732 := n0_
     have HO737 := n1_
     have HO740 := n2_
     have HO745 := n3_
     have HO749 := n4_
     have HO753 := n5_
     have HO756 := n6_
     have BK734 := n7_
     have BK742 := n8_
     have BK750 := n9_
     have BK757 := n10_
     have HB := n11_
     clear n0_ n1_ n2_ n3_ n4_ n5_ n6_ n7_ n8_ n9_ n10_ n11_
     replace HO732 := am (Kd.Q_drew HO732.out)
     replace HO737 := am (Kd.N_drew HO737.out)
     replace HO740 := am (Kd.Q_drew HO740.out)
     replace HO745 := am (Kd.Q_drew HO745.out)
     replace HO749 := am (Kd.R_drew HO749.out)
     replace HO753 := am (Kd.Q_drew HO753.out)
     replace HO756 := am (Kd.R_drew HO756.out)
     replace BK734 := bd BK734
     replace BK742 := bd BK742
     replace BK750 := bd BK750
     replace BK757 := bd BK757
     replace HB := am (below_drew1 HB.out)
     refine start_ (n := 44) (S := fun w' => w'.cell? ⟨gb734, 0, none⟩ = some (.slice Ao12 t730.length co12) ∧ w'.cell? ⟨gb742, 0, none⟩ = some (.slice Ao17 t738.length co17) ∧ w'.cell? ⟨gb750, 0, none⟩ = some (.slice Ao22 t743.length co22) ∧ w'.cell? ⟨gb757, 0, none⟩ = some (.slice Ao28 t751.length co28)) (ds := []) (yz 44 0) (by kernel_rfl) rfl rfl ⟨bc BK734 0 _, bc BK742 0 _, bc BK750 0 _, bc BK757 0 _⟩ (fun hHeld => ?_); refine with_tabW laws_FnFactorizations.tab8 laws_FnFactorizations.bits8 (fun HT_ HW_ => ?_)
     generalize w57.drew = w58 at HO732 HO737 HO740 HO745 HO749 HO753 HO756 BK734 BK742 BK750 BK757 HB hHeld ⊢
     refine pa 0 (some 40) (yz 44 1) HT_ ?_
     refine pa 2 (some 42) (yz 44 5) HT_ ?_
     refine tk 1 (some 41) (yz 44 7) HT_ HW_ hHeld ?_
     refine oa 3 (some 43) (yz 44 15) HT_ (fun K hK => ?_)
     refine goes_ Tryd.func11 (by kernel_rfl) rfl #[.agg #[.slice Ao12 t730.length co12], .int .i64 t733] (by rfl) rfl rfl (by (try simp only [List.map_toArray, List.map_cons, List.map_nil]); first | done | rfl | (simp only [List.length_drop, List.length_take]; rfl)) ?_
     with_reducible refine (spec_Factorizations.calls k _ _ t730 t733 t758 _ ?side1 ?side2 A33.out).mono ?_
     (case side1 => exact co (Kd.Q_reads' HO732.out).2.2)
     (case side2 => exact (Kd.Q_reads' HO732.out).2.1)
     rintro e w59 ⟨v759, rfl, ho0, hb⟩
     refine ⟨_, rfl, ?_⟩
     have HO760 := am (Kd.N_lower (Kd.N_mono (ok' := fun k_ => nb k_ Ao12 t730 co12 ∧ some k_ ≠ (v736 : Value).ownBlock ∧ nb k_ Ao17 t738 co17 ∧ nb k_ Ao22 t743 co22 ∧ some k_ ≠ (v748 : Value).ownBlock ∧ nb k_ Ao28 t751 co28 ∧ some k_ ≠ (v755 : Value).ownBlock ∧ k_ ≠ gb734 ∧ k_ ≠ gb742 ∧ k_ ≠ gb750 ∧ k_ ≠ gb757) ho0 (fun k_ hk_ => ⟨(Kd.fresh' (Kd.Q_lt (qo HO732.out)) k_ hk_), (Kd.fresh' (Kd.N_lt (no HO737.out)) k_ hk_), (Kd.fresh' (Kd.Q_lt (qo HO740.out)) k_ hk_), (Kd.fresh' (Kd.Q_lt (qo HO745.out)) k_ hk_), (Kd.fresh' (Kd.R_lt (ro HO749.out)) k_ hk_), (Kd.fresh' (Kd.Q_lt (qo HO753.out)) k_ hk_), (Kd.fresh' (Kd.R_lt (ro HO756.out)) k_ hk_), (Kd.freshB (g := gb734) (o := .cells #[.slice Ao12 t730.length co12] 26 (0, 0)) (bo BK734.out) k_ hk_), (Kd.freshB (g := gb742) (o := .cells #[.slice Ao17 t738.length co17] 26 (0, 0)) (bo BK742.out) k_ hk_), (Kd.freshB (g := gb750) (o := .cells #[.slice Ao22 t743.length co22] 26 (0, 0)) (bo BK750.out) k_ hk_), (Kd.freshB (g := gb757) (o := .cells #[.slice Ao28 t751.length co28] 26 (0, 0)) (bo BK757.out) k_ hk_)⟩)) (below_size bw))
     replace HO732 := qK HO732 hb
     replace HO737 := am (Kd.N_elder' (no HO737.out) (Kd.N_base ho0) hb)
     replace HO740 := qK HO740 hb
     replace HO745 := qK HO745 hb
     replace HO749 := rK HO749 hb
     replace HO753 := qK HO753 hb
     replace HO756 := rK HO756 hb
     replace BK734 := kb BK734 hb
     replace BK742 := kb BK742 hb
     replace BK750 := kb BK750 hb
     replace BK757 := kb BK757 hb
     replace HB := am (below_step bw hb)
     clear hb ho0
     obtain ⟨Ao60, co60, eo60⟩ := Kd.N_slice HO737.out
     (first | subst eo60 | (injection eo60 with f1_ f2_ f3_; have f4_ := f1_.symm; have f5_ := f3_.symm; clear f1_ f2_ f3_; subst f4_; subst f5_))
     obtain ⟨Ao61, co61, eo61⟩ := Kd.N_slice HO760.out
     (first | subst eo61 | (injection eo61 with f1_ f2_ f3_; have f4_ := f1_.symm; have f5_ := f3_.symm; clear f1_ f2_ f3_; subst f4_; subst f5_))
     refine hK.out _ _ ⟨bc BK734 0 _, bc BK742 0 _, bc BK750 0 _, bc BK757 0 _⟩ (fun hHeld => ?_)
     clear hK K
     refine nm (some 43) ?_
     refine oa 4 (some 44) (yz 44 31) HT_ (fun K hK => ?_)
     refine goes_ Tryd.func10 (by kernel_rfl) rfl #[.slice Ao60 t735.length co60, .slice Ao61 t758.length co61] (by rfl) rfl rfl (by (try simp only [List.map_toArray, List.map_cons, List.map_nil]); first | done | rfl | (simp only [List.length_drop, List.length_take]; rfl)) ?_
     with_reducible refine (laws_sameLists.calls k _ _ t735 _ _ t758 true _ ?side1 ?side2 ?side3 ?side4 A34.out).mono ?_
     (case side1 => exact co (Kd.N_reads' HO737.out).2.2)
     (case side2 => exact (Kd.N_reads' HO737.out).2.1)
     (case side3 => exact co (Kd.N_reads' HO760.out).2.2)
     (case side4 => exact (Kd.N_reads' HO760.out).2.1)
     rintro e w' ⟨rfl, ⟨nd, rfl⟩⟩
     refine ⟨_, rfl, ?_⟩
     refine hK.out _ _ ⟨bc BK734 0 _, bc BK742 0 _, bc BK750 0 _, bc BK757 0 _⟩ (fun hHeld => ?_)
     clear hK K
     refine nm (some 44) ?_
     refine pa 5 (some 45) (yz 44 63) HT_ ?_
     refine pa 6 (some 46) (yz 44 127) HT_ ?_
     refine pa 8 (some 48) (yz 44 383) HT_ ?_
     refine pa 11 (some 51) (yz 44 2431) HT_ ?_
     refine tk 7 (some 47) (yz 44 2559) HT_ HW_ hHeld ?_
     refine tk 10 (some 50) (yz 44 3583) HT_ HW_ hHeld ?_
     refine oa 9 (some 49) (yz 44 4095) HT_ (fun K hK => ?_)
     refine goes_ Tryd.func12 (by kernel_rfl) rfl #[.agg #[.slice Ao17 t738.length co17], .int .i64 t741] (by rfl) rfl rfl (by (try simp only [List.map_toArray, List.map_cons, List.map_nil]); first | done | rfl | (simp only [List.length_drop, List.length_take]; rfl)) ?_
     with_reducible refine (impl_CountFactorizations.calls k _ _ t738 t741 t762 _ ?side1 ?side2 A36.out).mono ?_
     (case side1 => exact co (Kd.Q_reads' HO740.out).2.2)
     (case side2 => exact (Kd.Q_reads' HO740.out).2.1)
     rintro e w62 ⟨rfl, hb⟩
     refine ⟨_, rfl, ?_⟩
     replace HO732 := qK HO732 hb
     replace HO737 := nK HO737 hb
     replace HO740 := qK HO740 hb
     replace HO745 := qK HO745 hb
     replace HO749 := rK HO749 hb
     replace HO753 := qK HO753 hb
     replace HO756 := rK HO756 hb
     replace HO760 := nK HO760 hb
     replace BK734 := kb BK734 hb
     replace BK742 := kb BK742 hb
     replace BK750 := kb BK750 hb
     replace BK757 := kb BK757 hb
     replace HB := am (below_step bw hb)
     clear hb
     refine hK.out _ _ ⟨bc BK734 0 _, bc BK742 0 _, bc BK750 0 _, bc BK757 0 _⟩ (fun hHeld => ?_)
     clear hK K
     refine nm (some 49) ?_
     refine oa 12 (some 52) (yz 44 8191) HT_ (fun K hK => ?_)
     refine goes_ Tryd.func13 (by kernel_rfl) rfl #[.agg #[.slice Ao17 t738.length co17], .int .i64 t741] (by rfl) rfl rfl (by (try simp only [List.map_toArray, List.map_cons, List.map_nil]); first | done | rfl | (simp only [List.length_drop, List.length_take]; rfl)) ?_
     with_reducible refine (spec_CountFactorizations.calls k _ _ t738 t741 t763 _ ?side1 ?side2 A37.out).mono ?_
     (case side1 => exact co (Kd.Q_reads' HO740.out).2.2)
     (case side2 => exact (Kd.Q_reads' HO740.out).2.1)
     rintro e w63 ⟨rfl, hb⟩
     refine ⟨_, rfl, ?_⟩
     replace HO732 := qK HO732 hb
     replace HO737 := nK HO737 hb
     replace HO740 := qK HO740 hb
     replace HO745 := qK HO745 hb
     replace HO749 := rK HO749 hb
     replace HO753 := qK HO753 hb
     replace HO756 := rK HO756 hb
     replace HO760 := nK HO760 hb
     replace BK734 := kb BK734 hb
     replace BK742 := kb BK742 hb
     replace BK750 := kb BK750 hb
     replace BK757 := kb BK757 hb
     replace HB := am (below_step bw hb)
     clear hb
     obtain ⟨Ao64, co64, eo64⟩ := Kd.R_slice HO749.out
     (first | subst eo64 | (injection eo64 with f1_ f2_ f3_; have f4_ := f1_.symm; have f5_ := f3_.symm; clear f1_ f2_ f3_; subst f4_; subst f5_))
     refine hK.out _ _ ⟨bc BK734 0 _, bc BK742 0 _, bc BK750 0 _, bc BK757 0 _⟩ (fun hHeld => ?_)
     clear hK K
     refine nm (some 52) ?_
     refine pa 13 (some 53) (yz 44 16383) HT_ ?_
     refine pa 14 (some 54) (yz 44 32767) HT_ ?_
     refine pa 15 (some 55) (yz 44 65535) HT_ ?_
     refine pa 17 (some 57) (yz 44 196607) HT_ ?_
     refine pa 18 (some 58) (yz 44 458751) HT_ ?_
     refine pa 21 (some 61) (yz 44 2555903) HT_ ?_
     refine pa 22 (some 62) (yz 44 6750207) HT_ ?_
     refine tk 16 (some 56) (yz 44 6815743) HT_ HW_ hHeld ?_
     refine tk 20 (some 60) (yz 44 7864319) HT_ HW_ hHeld ?_
     refine oa 19 (some 59) (yz 44 8388607) HT_ (fun K hK => ?_)
     refine goes_ Tryd.func14 (by kernel_rfl) rfl #[.agg #[.slice Ao22 t743.length co22], .int .i64 t746, .slice Ao64 t747.length co64] (by rfl) rfl rfl (by (try simp only [List.map_toArray, List.map_cons, List.map_nil]); first | done | rfl | (simp only [List.length_drop, List.length_take]; rfl)) ?_
     with_reducible refine (impl_IsFactorization.calls k _ _ t743 t746 _ _ t747 t764 _ ?side1 ?side2 ?side3 ?side4 A39.out).mono ?_
     (case side1 => exact co (Kd.Q_reads' HO745.out).2.2)
     (case side2 => exact (Kd.Q_reads' HO745.out).2.1)
     (case side3 => exact co (Kd.R_reads' HO749.out).2.2)
     (case side4 => exact (Kd.R_reads' HO749.out).2.1)
     rintro e w65 ⟨rfl, hb⟩
     refine ⟨_, rfl, ?_⟩
     replace HO732 := qK HO732 hb
     replace HO737 := nK HO737 hb
     replace HO740 := qK HO740 hb
     replace HO745 := qK HO745 hb
     replace HO749 := rK HO749 hb
     replace HO753 := qK HO753 hb
     replace HO756 := rK HO756 hb
     replace HO760 := nK HO760 hb
     replace BK734 := kb BK734 hb
     replace BK742 := kb BK742 hb
     replace BK750 := kb BK750 hb
     replace BK757 := kb BK757 hb
     replace HB := am (below_step bw hb)
     clear hb
     refine hK.out _ _ ⟨bc BK734 0 _, bc BK742 0 _, bc BK750 0 _, bc BK757 0 _⟩ (fun hHeld => ?_)
     clear hK K
     refine nm (some 59) ?_
     refine oa 23 (some 63) (yz 44 16777215) HT_ (fun K hK => ?_)
     refine goes_ Tryd.func15 (by kernel_rfl) rfl #[.agg #[.slice Ao22 t743.length co22], .int .i64 t746, .slice Ao64 t747.length co64] (by rfl) rfl rfl (by (try simp only [List.map_toArray, List.map_cons, List.map_nil]); first | done | rfl | (simp only [List.length_drop, List.length_take]; rfl)) ?_
     with_reducible refine (spec_IsFactorization.calls k _ _ t743 t746 _ _ t747 t765 _ ?side1 ?side2 ?side3 ?side4 A40.out).mono ?_
     (case side1 => exact co (Kd.Q_reads' HO745.out).2.2)
     (case side2 => exact (Kd.Q_reads' HO745.out).2.1)
     (case side3 => exact co (Kd.R_reads' HO749.out).2.2)
     (case side4 => exact (Kd.R_reads' HO749.out).2.1)
     rintro e w66 ⟨rfl, hb⟩
     refine ⟨_, rfl, ?_⟩
     replace HO732 := qK HO732 hb
     replace HO737 := nK HO737 hb
     replace HO740 := qK HO740 hb
     replace HO745 := qK HO745 hb
     replace HO749 := rK HO749 hb
     replace HO753 := qK HO753 hb
     replace HO756 := rK HO756 hb
     replace HO760 := nK HO760 hb
     replace BK734 := kb BK734 hb
     replace BK742 := kb BK742 hb
     replace BK750 := kb BK750 hb
     replace BK757 := kb BK757 hb
     replace HB := am (below_step bw hb)
     clear hb
     obtain ⟨Ao67, co67, eo67⟩ := Kd.R_slice HO756.out
     (first | subst eo67 | (injection eo67 with f1_ f2_ f3_; have f4_ := f1_.symm; have f5_ := f3_.symm; clear f1_ f2_ f3_; subst f4_; subst f5_))
     refine hK.out _ _ ⟨bc BK734 0 _, bc BK742 0 _, bc BK750 0 _, bc BK757 0 _⟩ (fun hHeld => ?_)
     clear hK K
     refine nm (some 63) ?_
     refine pa 24 (some 64) (yz 44 33554431) HT_ ?_
     refine pa 25 (some 65) (yz 44 67108863) HT_ ?_
     refine pa 26 (some 66) (yz 44 134217727) HT_ ?_
     refine pa 28 (some 68) (yz 44 402653183) HT_ ?_
     refine pa 31 (some 71) (yz 44 2550136831) HT_ ?_
     refine tk 27 (some 67) (yz 44 2684354559) HT_ HW_ hHeld ?_
     refine tk 30 (some 70) (yz 44 3758096383) HT_ HW_ hHeld ?_
     refine oa 29 (some 69) (yz 44 4294967295) HT_ (fun K hK => ?_)
     refine goes_ Tryd.func16 (by kernel_rfl) rfl #[.agg #[.slice Ao28 t751.length co28], .slice Ao67 t754.length co67] (by rfl) rfl rfl (by (try simp only [List.map_toArray, List.map_cons, List.map_nil]); first | done | rfl | (simp only [List.length_drop, List.length_take]; rfl)) ?_
     with_reducible refine (impl_ValueOf.calls k _ _ t751 _ _ t754 t766 _ ?side1 ?side2 ?side3 ?side4 A52.out).mono ?_
     (case side1 => exact co (Kd.Q_reads' HO753.out).2.2)
     (case side2 => exact (Kd.Q_reads' HO753.out).2.1)
     (case side3 => exact co (Kd.R_reads' HO756.out).2.2)
     (case side4 => exact (Kd.R_reads' HO756.out).2.1)
     rintro e w68 ⟨rfl, hb⟩
     refine ⟨_, rfl, ?_⟩
     replace HO732 := qK HO732 hb
     replace HO737 := nK HO737 hb
     replace HO740 := qK HO740 hb
     replace HO745 := qK HO745 hb
     replace HO749 := rK HO749 hb
     replace HO753 := qK HO753 hb
     replace HO756 := rK HO756 hb
     replace HO760 := nK HO760 hb
     replace BK734 := kb BK734 hb
     replace BK742 := kb BK742 hb
     replace BK750 := kb BK750 hb
     replace BK757 := kb BK757 hb
     replace HB := am (below_step bw hb)
     clear hb
     refine hK.out _ _ ⟨bc BK734 0 _, bc BK742 0 _, bc BK750 0 _, bc BK757 0 _⟩ (fun hHeld => ?_)
     clear hK K
     refine nm (some 69) ?_
     refine oa 32 (some 72) (yz 44 8589934591) HT_ (fun K hK => ?_)
     refine goes_ Tryd.func17 (by kernel_rfl) rfl #[.agg #[.slice Ao28 t751.length co28], .slice Ao67 t754.length co67] (by rfl) rfl rfl (by (try simp only [List.map_toArray, List.map_cons, List.map_nil]); first | done | rfl | (simp only [List.length_drop, List.length_take]; rfl)) ?_
     with_reducible refine (spec_ValueOf.calls k _ _ t751 _ _ t754 t767 _ ?side1 ?side2 ?side3 ?side4 A53.out).mono ?_
     (case side1 => exact co (Kd.Q_reads' HO753.out).2.2)
     (case side2 => exact (Kd.Q_reads' HO753.out).2.1)
     (case side3 => exact co (Kd.R_reads' HO756.out).2.2)
     (case side4 => exact (Kd.R_reads' HO756.out).2.1)
     rintro e w69 ⟨rfl, hb⟩
     refine ⟨_, rfl, ?_⟩
     replace HO732 := qK HO732 hb
     replace HO737 := nK HO737 hb
     replace HO740 := qK HO740 hb
     replace HO745 := qK HO745 hb
     replace HO749 := rK HO749 hb
     replace HO753 := qK HO753 hb
     replace HO756 := rK HO756 hb
     replace HO760 := nK HO760 hb
     replace BK734 := kb BK734 hb
     replace BK742 := kb BK742 hb
     replace BK750 := kb BK750 hb
     replace BK757 := kb BK757 hb
     replace HB := am (below_step bw hb)
     clear hb
     refine hK.out _ _ ⟨bc BK734 0 _, bc BK742 0 _, bc BK750 0 _, bc BK757 0 _⟩ (fun hHeld => ?_)
     clear hK K
     refine nm (some 72) ?_
     refine pa 33 (some 73) (yz 44 17179869183) HT_ ?_
     refine pa 34 (some 74) (yz 44 34359738367) HT_ ?_
     refine pa 35 (some 75) (yz 44 68719476735) HT_ ?_
     refine pa 37 (some 77) (yz 44 206158430207) HT_ ?_
     refine pa 40 (some 80) (yz 44 1305670057983) HT_ ?_
     refine tk 36 (some 76) (yz 44 1374389534719) HT_ HW_ hHeld ?_
     refine tk 39 (some 79) (yz 44 1924145348607) HT_ HW_ hHeld ?_
     refine oa 38 (some 78) (yz 44 2199023255551) HT_ (fun K hK => ?_)
     refine goes_ Tryd.func18 (by kernel_rfl) rfl #[.agg #[.slice Ao28 t751.length co28], .slice Ao67 t754.length co67] (by rfl) rfl rfl (by (try simp only [List.map_toArray, List.map_cons, List.map_nil]); first | done | rfl | (simp only [List.length_drop, List.length_take]; rfl)) ?_
     with_reducible refine (impl_FactorText.calls k _ _ t751 _ _ t754 t768 _ ?side1 ?side2 ?side3 ?side4 A55.out (htab.below bw)).mono ?_
     (case side1 => exact co (Kd.Q_reads' HO753.out).2.2)
     (case side2 => exact (Kd.Q_reads' HO753.out).2.1)
     (case side3 => exact co (Kd.R_reads' HO756.out).2.2)
     (case side4 => exact (Kd.R_reads' HO756.out).2.1)
     rintro e w70 ⟨rfl, hb⟩
     refine ⟨_, rfl, ?_⟩
     replace HO732 := qK HO732 hb
     replace HO737 := nK HO737 hb
     replace HO740 := qK HO740 hb
     replace HO745 := qK HO745 hb
     replace HO749 := rK HO749 hb
     replace HO753 := qK HO753 hb
     replace HO756 := rK HO756 hb
     replace HO760 := nK HO760 hb
     replace BK734 := kb BK734 hb
     replace BK742 := kb BK742 hb
     replace BK750 := kb BK750 hb
     replace BK757 := kb BK757 hb
     replace HB := am (below_step bw hb)
     clear hb
     refine hK.out _ _ ⟨bc BK734 0 _, bc BK742 0 _, bc BK750 0 _, bc BK757 0 _⟩ (fun hHeld => ?_)
     clear hK K
     refine nm (some 78) ?_
     refine oa 41 (some 81) (yz 44 4398046511103) HT_ (fun K hK => ?_)
     refine goes_ Tryd.func19 (by kernel_rfl) rfl #[.agg #[.slice Ao28 t751.length co28], .slice Ao67 t754.length co67] (by rfl) rfl rfl (by (try simp only [List.map_toArray, List.map_cons, List.map_nil]); first | done | rfl | (simp only [List.length_drop, List.length_take]; rfl)) ?_
     with_reducible refine (spec_FactorText.calls k _ _ t751 _ _ t754 t769 _ ?side1 ?side2 ?side3 ?side4 A56.out).mono ?_
     (case side1 => exact co (Kd.Q_reads' HO753.out).2.2)
     (case side2 => exact (Kd.Q_reads' HO753.out).2.1)
     (case side3 => exact co (Kd.R_reads' HO756.out).2.2)
     (case side4 => exact (Kd.R_reads' HO756.out).2.1)
     rintro e w71 ⟨rfl, hb⟩
     refine ⟨_, rfl, ?_⟩
     replace HO732 := qK HO732 hb
     replace HO737 := nK HO737 hb
     replace HO740 := qK HO740 hb
     replace HO745 := qK HO745 hb
     replace HO749 := rK HO749 hb
     replace HO753 := qK HO753 hb
     replace HO756 := rK HO756 hb
     replace HO760 := nK HO760 hb
     replace BK734 := kb BK734 hb
     replace BK742 := kb BK742 hb
     replace BK750 := kb BK750 hb
     replace BK757 := kb BK757 hb
     replace HB := am (below_step bw hb)
     clear hb
     refine hK.out _ _ ⟨bc BK734 0 _, bc BK742 0 _, bc BK750 0 _, bc BK757 0 _⟩ (fun hHeld => ?_)
     clear hK K
     refine nm (some 81) ?_
     refine pa 42 (some 82) (yz 44 8796093022207) HT_ ?_
     refine pa 43 (some 83) (yz 44 17592186044415) HT_ ?_
     refine done_ (done_of HT_.out (by kernel_rfl)) ?_
     try go_wp2
     go_meet
     case rel => exact ⟨_, ((t768.toList != t769.toList)), rr, H', ⟨om⟩, ⟨by (with_reducible repeat (first | apply Kd.N_alloc | apply Kd.N_drewN | apply Kd.N_drew)); exact Kd.N_mono HO737.out (fun _ hk => ⟨hk.1.1, ⟨hk.1.2.1, ⟨hk.1.2.2.1, ⟨hk.1.2.2.2.2.1, ⟨hk.1.2.2.2.2.2.2.1, ⟨hk.1.2.2.2.2.2.2.2.1, ⟨hk.1.2.2.2.2.2.2.2.2.1, hk.1.2.2.2.2.2.2.2.2.2⟩⟩⟩⟩⟩⟩⟩)⟩, ⟨by (with_reducible repeat (first | apply Kd.Q_alloc | apply Kd.Q_drewN | apply Kd.Q_drew)); exact Kd.Q_mono HO732.out (fun _ hk => ⟨hk.1, ⟨hk.2.1, hk.2.2.2.1⟩⟩)⟩, ⟨by (with_reducible repeat (first | apply Kd.Q_alloc | apply Kd.Q_drewN | apply Kd.Q_drew)); exact Kd.Q_mono HO740.out (fun _ hk => ⟨hk.1, ⟨hk.2.1, hk.2.2.2.1⟩⟩)⟩, ⟨by (with_reducible repeat (first | apply Kd.Q_alloc | apply Kd.Q_drewN | apply Kd.Q_drew)); exact Kd.Q_mono HO745.out (fun _ hk => ⟨hk.1, ⟨hk.2.1, hk.2.2.2.1⟩⟩)⟩, ⟨by (with_reducible repeat (first | apply Kd.Q_alloc | apply Kd.Q_drewN | apply Kd.Q_drew)); exact Kd.Q_mono HO753.out (fun _ hk => ⟨hk.1, ⟨hk.2.1, hk.2.2.1⟩⟩)⟩, ⟨bo BK734.out⟩, ⟨bo BK742.out⟩, ⟨bo BK750.out⟩, ⟨bo BK757.out⟩, ⟨bw⟩⟩
    rw [if_neg c54] at H
    exact absurd H (laws_FnFactorizations.j0_no)
   rw [if_neg c38] at H
   exact absurd H (laws_FnFactorizations.j0_no)
  replace c35 := Bool.eq_false_iff.mpr c35
  subst c35
  exact absurd H (laws_FnFactorizations.j0_no)
 case rest =>
  clear HC9
  try clear c3; try clear c35
  obtain ⟨kq, x83_8, rfl, HA, HJ8, HO_5, HO_735000, HO_743000, HO_751000, HO_758000, BK734, BK742, BK750, BK757, HB⟩ := hcut
  cases kq with
  | zero => exact absurd HA.out (by simp [laws_FnFactorizations.j0])
  | succ kj8 =>
   have H := HA.out
   clear HA
   simp only [laws_FnFactorizations.j0] at H
   replace H := gb H; obtain ⟨rfl, H⟩ | ⟨rfl, H⟩ := H
   ·exact absurd (Option.some.inj H) (by decide)
   have H' := am H
   clear H
   go_wp2
   go_loopg [13] kj8 (fun kq v13 w' => ∃ (x13_2 : Int), v13 = .int .i64 x13_2 ∧ Aside0 (laws_FnFactorizations.l0 kq t733 t735 x13_2 t730 = some true) ∧ Aside0 (kq ≤ kj8) ∧ Aside0 (Kd.N (Kd.slice 3 (Kd.int .i64)) 24 w' w.heap.size (fun k_ => nb k_ Ao12 t730 co12 ∧ nb k_ Ao17 t738 co17 ∧ nb k_ Ao22 t743 co22 ∧ nb k_ Ao28 t751 co28 ∧ k_ ≠ gb734 ∧ k_ ≠ gb742 ∧ k_ ≠ gb750 ∧ k_ ≠ gb757) v736 t735) ∧ Aside0 (Kd.Q (Kd.int .i64) 3 w' w.heap.size (fun k_ => nb k_ Ao17 t738 co17 ∧ nb k_ Ao22 t743 co22 ∧ nb k_ Ao28 t751 co28) (.slice Ao12 t730.length co12) t730) ∧ Aside0 (Kd.Q (Kd.int .i64) 3 w' w.heap.size (fun k_ => nb k_ Ao12 t730 co12 ∧ nb k_ Ao22 t743 co22 ∧ nb k_ Ao28 t751 co28) (.slice Ao17 t738.length co17) t738) ∧ Aside0 (Kd.Q (Kd.int .i64) 3 w' w.heap.size (fun k_ => nb k_ Ao12 t730 co12 ∧ nb k_ Ao17 t738 co17 ∧ nb k_ Ao28 t751 co28) (.slice Ao22 t743.length co22) t743) ∧ Aside0 (Kd.Q (Kd.int .i64) 3 w' w.heap.size (fun k_ => nb k_ Ao12 t730 co12 ∧ nb k_ Ao17 t738 co17 ∧ nb k_ Ao22 t743 co22) (.slice Ao28 t751.length co28) t751) ∧ Aside0 (w'.heap[gb734]? = some (.cells #[(.slice Ao12 t730.length co12)] 26 (0, 0))) ∧ Aside0 (w'.heap[gb742]? = some (.cells #[(.slice Ao17 t738.length co17)] 26 (0, 0))) ∧ Aside0 (w'.heap[gb750]? = some (.cells #[(.slice Ao22 t743.length co22)] 26 (0, 0))) ∧ Aside0 (w'.heap[gb757]? = some (.cells #[(.slice Ao28 t751.length co28)] 26 (0, 0))) ∧ Aside0 (Below w.heap.size w w'))
   case atStart => exact ⟨(0), rr, H', ⟨Nat.le_refl _⟩, ⟨no HO_5.out⟩, ⟨qo HO_735000.out⟩, ⟨qo HO_743000.out⟩, ⟨qo HO_751000.out⟩, ⟨qo HO_758000.out⟩, ⟨bo BK734.out⟩, ⟨bo BK742.out⟩, ⟨bo BK750.out⟩, ⟨bo BK757.out⟩, ⟨bw⟩⟩
   case round =>
    clear H'
    try clear c3; try clear c35
    obtain ⟨x13_2, rfl, HA, HK2, HO_5, HO_735000, HO_743000, HO_751000, HO_758000, BK734, BK742, BK750, BK757, HB⟩ := hrel
    cases gk with
    | zero => exact absurd HA.out (by simp [laws_FnFactorizations.l0])
    | succ k2 =>
     have H := HA.out
     clear HA
     simp only [laws_FnFactorizations.l0] at H
     replace H := gi H; obtain ⟨c98b0, H⟩ | ⟨c98b0, H⟩ := H
     ·replace H := gd H; obtain ⟨c99b0, H⟩ := H
      replace H := ga H; obtain ⟨t774, A100, H⟩ := H
      replace H := gb H; obtain ⟨rfl, H⟩ | ⟨rfl, H⟩ := H
      ·replace H := ga H; obtain ⟨t776, A102, H⟩ := H
       by_cases c103 : t776 = t733
       ·rw [if_pos c103] at H
        have c103b0 : (t776 == t733) = true := beq_iff_eq.mpr c103
        have c103b1 : (t776 != t733) = false := bne_eq_false_iff_eq.mpr c103
        clear c103
        replace H := gj H; obtain ⟨c104, H⟩ | ⟨c104, H⟩ := H
        ·have c104b0 : decide (0 < x13_2) = true := decide_eq_true c104
         clear c104
         obtain ⟨ji105, hji105⟩ : ∃ j_ : Int, (wrap64 (x13_2 - 1)) = j_ := ⟨_, rfl⟩
         replace H : (if 0 ≤ (ji105) then (if (ji105) < (t735.length : Int) then ((laws_sameInts.f k2 (rd_L2 t735 (ji105)) (rd_L2 t735 x13_2)).bind fun t779 => (if t779 = true then (some false) else (laws_FnFactorizations.l0 k2 t733 t735 (wrap64 (x13_2 + 1)) t730))) else (none)) else (none)) = some true := by first | (rw [hji105] at H; exact H) | (simp only [hji105] at H ⊢; exact H)
         (try rw [hji105] at A100)
         (try rw [hji105] at A102)
         have hji105w : (IntKind.i64.wrap (x13_2 - 1)) = ji105 := (i64_w _).trans hji105
         replace H := gd H; obtain ⟨c106b0, H⟩ := H
         replace H := gd H; obtain ⟨c107b0, H⟩ := H
         replace H := ga H; obtain ⟨t779, A108, H⟩ := H
         replace H := gb H; obtain ⟨rfl, H⟩ | ⟨rfl, H⟩ := H
         ·exact absurd (Option.some.inj H) (by decide)
         have H' := am H
         clear H
         obtain ⟨Ao113, co113, eo113⟩ := Kd.N_slice HO_5.out
         subst eo113
         try go_wp2
         replace HO_5 := am (Kd.N_drew HO_5.out)
         replace HO_735000 := am (Kd.Q_drew HO_735000.out)
         replace HO_743000 := am (Kd.Q_drew HO_743000.out)
         replace HO_751000 := am (Kd.Q_drew HO_751000.out)
         replace HO_758000 := am (Kd.Q_drew HO_758000.out)
         replace BK734 := bd BK734
         replace BK742 := bd BK742
         replace BK750 := bd BK750
         replace BK757 := bd BK757
         replace HB := am (below_drew1 HB.out)
         have p773 : 0 ≤ (x13_2 : Int) := of_decide_eq_true (by first | (with_reducible assumption) | assumption)
         have q773 : x13_2 < (t735.length : Int) := of_decide_eq_true (by first | (with_reducible assumption) | assumption)
         obtain ⟨ad773, A773_0, c773_0, e773, hx773_0, hl773_0, hi773_0⟩ := at_L2 (Kd.N_reads' HO_5.out).2.2 x13_2 p773 q773
         cases e773
         obtain ⟨ce773, hce773, hMe773, hcc773⟩ := Kd.N_get HO_5.out [] x13_2 p773 (by first | exact q773 | exact of_decide_eq_true (by first | (with_reducible assumption) | assumption) | (have e_ := (Kd.N_reads' HO_5.out).1; omega))
         obtain ⟨ua773_0, uc773_0, rfl, ul773_0, ge773_0⟩ := Kd.FK_slice_open hMe773
         have hv773_0 := hcc773 0 _ rfl
         rw [Nat.add_zero, show ((Kd.slice 3 (Kd.int .i64))).sz = 1 from rfl, Nat.mul_one] at hv773_0
         replace hv773_0 := Option.some.inj (hv773_0.symm.trans hx773_0)
         injection hv773_0 with hva_ hvn_ hvc_
         rw [hva_] at ge773_0
         rw [hvc_] at ul773_0
         have HL773_0 := am (show Kd.V (Kd.int .i64) 3 _ w.heap.size _ _ (rd_L2 t735 x13_2) from Kd.V_mk ul773_0 ge773_0)
         clear hva_ hvn_ hvc_ ge773_0 ul773_0
         clear hcc773 hce773
         have HR773_0 := am hi773_0
         have HC773_0 := am hl773_0
         clear hi773_0 hl773_0
         replace p773 := eq_true p773
         replace q773 := eq_true q773
         have p775 : 0 ≤ (x13_2 : Int) := of_decide_eq_true (by first | (with_reducible assumption) | assumption)
         have q775 : x13_2 < (t735.length : Int) := of_decide_eq_true (by first | (with_reducible assumption) | assumption)
         obtain ⟨ad775, A775_0, c775_0, e775, hx775_0, hl775_0, hi775_0⟩ := at_L2 (Kd.N_reads' HO_5.out).2.2 x13_2 p775 q775
         obtain rfl : ad773 = ad775 := (by injection e775)
         obtain ⟨ce775, hce775, hMe775, hcc775⟩ := Kd.N_get HO_5.out [] x13_2 p775 (by first | exact q775 | exact of_decide_eq_true (by first | (with_reducible assumption) | assumption) | (have e_ := (Kd.N_reads' HO_5.out).1; omega))
         obtain ⟨ua775_0, uc775_0, rfl, ul775_0, ge775_0⟩ := Kd.FK_slice_open hMe775
         have hv775_0 := hcc775 0 _ rfl
         rw [Nat.add_zero, show ((Kd.slice 3 (Kd.int .i64))).sz = 1 from rfl, Nat.mul_one] at hv775_0
         replace hv775_0 := Option.some.inj (hv775_0.symm.trans hx775_0)
         injection hv775_0 with hva_ hvn_ hvc_
         rw [hva_] at ge775_0
         rw [hvc_] at ul775_0
         have HL775_0 := am (show Kd.V (Kd.int .i64) 3 _ w.heap.size _ _ (rd_L2 t735 x13_2) from Kd.V_mk ul775_0 ge775_0)
         clear hva_ hvn_ hvc_ ge775_0 ul775_0
         clear hcc775 hce775
         have HR775_0 := am hi775_0
         have HC775_0 := am hl775_0
         clear hi775_0 hl775_0
         replace p775 := eq_true p775
         replace q775 := eq_true q775
         have ea_ := Option.some.inj (hx773_0.symm.trans hx775_0)
         injection ea_ with ea_ en_ ec_
         subst ea_
         subst ec_
         clear en_
         have p777 : 0 ≤ ((ji105) : Int) := of_decide_eq_true (by first | (with_reducible assumption) | assumption)
         have q777 : (ji105) < (t735.length : Int) := of_decide_eq_true (by first | (with_reducible assumption) | assumption)
         obtain ⟨ad777, A777_0, c777_0, e777, hx777_0, hl777_0, hi777_0⟩ := at_L2 (Kd.N_reads' HO_5.out).2.2 (ji105) p777 q777
         obtain rfl : ad773 = ad777 := (by injection e777)
         obtain ⟨ce777, hce777, hMe777, hcc777⟩ := Kd.N_get HO_5.out [] (ji105) p777 (by first | exact q777 | exact of_decide_eq_true (by first | (with_reducible assumption) | assumption) | (have e_ := (Kd.N_reads' HO_5.out).1; omega))
         obtain ⟨ua777_0, uc777_0, rfl, ul777_0, ge777_0⟩ := Kd.FK_slice_open hMe777
         have hv777_0 := hcc777 0 _ rfl
         rw [Nat.add_zero, show ((Kd.slice 3 (Kd.int .i64))).sz = 1 from rfl, Nat.mul_one] at hv777_0
         replace hv777_0 := Option.some.inj (hv777_0.symm.trans hx777_0)
         injection hv777_0 with hva_ hvn_ hvc_
         rw [hva_] at ge777_0
         rw [hvc_] at ul777_0
         have HL777_0 := am (show Kd.V (Kd.int .i64) 3 _ w.heap.size _ _ (rd_L2 t735 (ji105)) from Kd.V_mk ul777_0 ge777_0)
         clear hva_ hvn_ hvc_ ge777_0 ul777_0
         clear hcc777 hce777
         have HR777_0 := am hi777_0
         have HC777_0 := am hl777_0
         clear hi777_0 hl777_0
         replace p777 := eq_true p777
         replace q777 := eq_true q777
         have p778 : 0 ≤ (x13_2 : Int) := of_decide_eq_true (by first | (with_reducible assumption) | assumption)
         have q778 : x13_2 < (t735.length : Int) := of_decide_eq_true (by first | (with_reducible assumption) | assumption)
         obtain ⟨ad778, A778_0, c778_0, e778, hx778_0, hl778_0, hi778_0⟩ := at_L2 (Kd.N_reads' HO_5.out).2.2 x13_2 p778 q778
         obtain rfl : ad773 = ad778 := (by injection e778)
         obtain ⟨ce778, hce778, hMe778, hcc778⟩ := Kd.N_get HO_5.out [] x13_2 p778 (by first | exact q778 | exact of_decide_eq_true (by first | (with_reducible assumption) | assumption) | (have e_ := (Kd.N_reads' HO_5.out).1; omega))
         obtain ⟨ua778_0, uc778_0, rfl, ul778_0, ge778_0⟩ := Kd.FK_slice_open hMe778
         have hv778_0 := hcc778 0 _ rfl
         rw [Nat.add_zero, show ((Kd.slice 3 (Kd.int .i64))).sz = 1 from rfl, Nat.mul_one] at hv778_0
         replace hv778_0 := Option.some.inj (hv778_0.symm.trans hx778_0)
         injection hv778_0 with hva_ hvn_ hvc_
         rw [hva_] at ge778_0
         rw [hvc_] at ul778_0
         have HL778_0 := am (show Kd.V (Kd.int .i64) 3 _ w.heap.size _ _ (rd_L2 t735 x13_2) from Kd.V_mk ul778_0 ge778_0)
         clear hva_ hvn_ hvc_ ge778_0 ul778_0
         clear hcc778 hce778
         have HR778_0 := am hi778_0
         have HC778_0 := am hl778_0
         clear hi778_0 hl778_0
         replace p778 := eq_true p778
         replace q778 := eq_true q778
         have ea_ := Option.some.inj (hx775_0.symm.trans hx778_0)
         injection ea_ with ea_ en_ ec_
         subst ea_
         subst ec_
         clear en_
         refine start_ (n := 35) (S := fun w' => w'.cell? ⟨gb734, 0, none⟩ = some (.slice Ao12 t730.length co12) ∧ w'.cell? (ad773.add (x13_2).toNat) = some (.slice A773_0 (rd_L2 t735 x13_2).length c773_0) ∧ w'.cell? (ad773.add (x13_2).toNat) = some (.slice A773_0 (rd_L2 t735 x13_2).length c773_0) ∧ w'.cell? (ad773.add ((ji105)).toNat) = some (.slice A777_0 (rd_L2 t735 (ji105)).length c777_0) ∧ w'.cell? (ad773.add (x13_2).toNat) = some (.slice A773_0 (rd_L2 t735 x13_2).length c773_0)) (ds := []) (yz 35 0) (by kernel_rfl) rfl rfl ⟨bc BK734 0 _, hx773_0, hx775_0, hx777_0, hx778_0⟩ (fun hHeld => ?_); refine with_tabW laws_FnFactorizations.tab13 laws_FnFactorizations.bits13 (fun HT_ HW_ => ?_)
         generalize wr.drew = w114 at HO_5 HO_735000 HO_743000 HO_751000 HO_758000 BK734 BK742 BK750 BK757 HB HL773_0 HL775_0 HL777_0 HL778_0 HR773_0 HR775_0 HR777_0 HR778_0 hx773_0 hx775_0 hx777_0 hx778_0 hHeld ⊢
         refine pa 1 (some 91) (yz 35 2) HT_ ?_
         refine pa 2 (some 92) (yz 35 6) HT_ ?_
         refine pa 3 (some 93) (yz 35 14) HT_ ?_
         refine pa 4 (some 94) (yz 35 30) HT_ ?_
         refine tk 0 (some 90) (yz 35 31) HT_ HW_ hHeld ?_
         refine tk 5 (some 95) (yz 35 63) HT_ HW_ hHeld ?_
         refine oa 6 (some 96) (yz 35 127) HT_ (fun K hK => ?_)
         refine goes_ Tryd.func14 (by kernel_rfl) rfl #[.agg #[.slice Ao12 t730.length co12], .int .i64 t733, .slice A773_0 (rd_L2 t735 x13_2).length c773_0] (by rfl) rfl rfl (by (try simp only [List.map_toArray, List.map_cons, List.map_nil]); first | done | rfl | (simp only [List.length_drop, List.length_take]; rfl)) ?_
         with_reducible refine (impl_IsFactorization.calls k2 _ _ t730 t733 _ _ (rd_L2 t735 x13_2) true _ ?side1 ?side2 ?side3 ?side4 A100.out).mono ?_
         (case side1 => exact co (Kd.Q_reads' HO_735000.out).2.2)
         (case side2 => exact (Kd.Q_reads' HO_735000.out).2.1)
         (case side3 => exact co HR773_0.out)
         (case side4 => exact HC773_0.out)
         rintro e w115 ⟨rfl, hb⟩
         have HS1_ := (hb.cell (World.block_lt_of_cell? _ _ (hHeld.2.1))).trans (hHeld.2.1)
         have HS2_ := (hb.cell (World.block_lt_of_cell? _ _ (hHeld.2.2.1))).trans (hHeld.2.2.1)
         have HS3_ := (hb.cell (World.block_lt_of_cell? _ _ (hHeld.2.2.2.1))).trans (hHeld.2.2.2.1)
         have HS4_ := (hb.cell (World.block_lt_of_cell? _ _ (hHeld.2.2.2.2))).trans (hHeld.2.2.2.2)
         refine ⟨_, rfl, ?_⟩
         replace HO_5 := nK HO_5 hb
         replace HO_735000 := qK HO_735000 hb
         replace HO_743000 := qK HO_743000 hb
         replace HO_751000 := qK HO_751000 hb
         replace HO_758000 := qK HO_758000 hb
         replace HL773_0 := am (Kd.V_below (vo HL773_0.out) hb)
         replace BK734 := kb BK734 hb
         replace BK742 := kb BK742 hb
         replace BK750 := kb BK750 hb
         replace BK757 := kb BK757 hb
         replace HR775_0 := am (Kd.C_below (co HR775_0.out) hb)
         replace HR777_0 := am (Kd.C_below (co HR777_0.out) hb)
         replace HR778_0 := am (Kd.C_below (co HR778_0.out) hb)
         replace HR773_0 := am (Kd.C_below (co HR773_0.out) hb)
         replace HB := am (below_step bw hb)
         clear hb
         refine hK.out _ _ ⟨bc BK734 0 _, HS1_, HS2_, HS3_, HS4_⟩ (fun hHeld => ?_)
         clear hK K
         refine nm (some 96) ?_
         refine pa 7 (some 97) (yz 35 255) HT_ ?_
         refine pa 8 (some 98) (yz 35 511) HT_ ?_
         refine pa 9 (some 99) (yz 35 1023) HT_ ?_
         refine pa 10 (some 100) (yz 35 2047) HT_ ?_
         refine pa 11 (some 101) (yz 35 4095) HT_ ?_
         refine pa 13 (some 103) (yz 35 12287) HT_ ?_
         refine pa 16 (some 106) (yz 35 77823) HT_ ?_
         refine tk 12 (some 102) (yz 35 81919) HT_ HW_ hHeld ?_
         refine tk 14 (some 104) (yz 35 98303) HT_ HW_ hHeld ?_
         refine oa 15 (some 105) (yz 35 131071) HT_ (fun K hK => ?_)
         refine goes_ Tryd.func20 (by kernel_rfl) rfl #[.slice A773_0 (rd_L2 t735 x13_2).length c773_0, .slice Ao12 t730.length co12] (by rfl) rfl rfl (by (try simp only [List.map_toArray, List.map_cons, List.map_nil]); first | done | rfl | (simp only [List.length_drop, List.length_take]; rfl)) ?_
         with_reducible refine (laws_worth.calls k2 _ _ (rd_L2 t735 x13_2) _ _ t730 t776 _ ?side1 ?side2 ?side3 ?side4 A102.out).mono ?_
         (case side1 => exact co HR775_0.out)
         (case side2 => exact HC775_0.out)
         (case side3 => exact co (Kd.Q_reads' HO_735000.out).2.2)
         (case side4 => exact (Kd.Q_reads' HO_735000.out).2.1)
         rintro e w' ⟨rfl, ⟨nd, rfl⟩⟩
         refine ⟨_, rfl, ?_⟩
         refine hK.out _ _ ⟨bc BK734 0 _, hHeld.2.1, hHeld.2.2.1, hHeld.2.2.2.1, hHeld.2.2.2.2⟩ (fun hHeld => ?_)
         clear hK K
         refine nm (some 105) ?_
         refine pa 17 (some 107) (yz 35 262143) HT_ ?_
         refine pa 18 (some 108) (yz 35 524287) HT_ ?_
         refine pa 19 (some 109) (yz 35 1048575) HT_ ?_
         refine pa 20 (some 110) (yz 35 2097151) HT_ ?_
         refine pa 21 (some 111) (yz 35 4194303) HT_ ?_
         refine pa 22 (some 112) (yz 35 8388607) HT_ ?_
         refine pa 23 (some 113) (yz 35 16777215) HT_ ?_
         refine pa 24 (some 114) (yz 35 33554431) HT_ ?_
         refine pa 25 (some 115) (yz 35 67108863) HT_ ?_
         refine pa 26 (some 116) (yz 35 134217727) HT_ ?_
         refine pa 28 (some 118) (yz 35 402653183) HT_ ?_
         refine pa 29 (some 119) (yz 35 939524095) HT_ ?_
         refine pa 30 (some 120) (yz 35 2013265919) HT_ ?_
         refine tk 27 (some 117) (yz 35 2147483647) HT_ HW_ hHeld ?_
         refine tk 31 (some 121) (yz 35 4294967295) HT_ HW_ hHeld ?_
         refine oa 32 (some 122) (yz 35 8589934591) HT_ (fun K hK => ?_)
         refine goes_ Tryd.func21 (by kernel_rfl) rfl #[.slice A777_0 (rd_L2 t735 (ji105)).length c777_0, .slice A773_0 (rd_L2 t735 x13_2).length c773_0] (by rfl) rfl rfl (by (try simp only [List.map_toArray, List.map_cons, List.map_nil]); first | done | (simp only [hji105]; rfl) | rfl | (simp only [List.length_drop, List.length_take]; rfl)) ?_
         with_reducible refine (laws_sameInts.calls k2 _ _ (rd_L2 t735 (ji105)) _ _ (rd_L2 t735 x13_2) false _ ?side1 ?side2 ?side3 ?side4 A108.out).mono ?_
         (case side1 => exact co HR777_0.out)
         (case side2 => exact HC777_0.out)
         (case side3 => exact co HR778_0.out)
         (case side4 => exact HC778_0.out)
         rintro e w' ⟨rfl, ⟨nd, rfl⟩⟩
         refine ⟨_, rfl, ?_⟩
         refine hK.out _ _ ⟨bc BK734 0 _, hHeld.2.1, hHeld.2.2.1, hHeld.2.2.2.1, hHeld.2.2.2.2⟩ (fun hHeld => ?_)
         clear hK K
         refine nm (some 122) ?_
         refine pa 33 (some 123) (yz 35 17179869183) HT_ ?_
         refine pa 34 (some 124) (yz 35 34359738367) HT_ ?_
         refine done_ (done_of HT_.out (by kernel_rfl)) ?_
         try go_wp2
         go_roundg k2
         case measure => have := HJ8.out; have := HK2.out; omega
         case rel => exact ⟨(wrap64 (x13_2 + 1)), rr, H', ⟨by have := HJ8.out; have := HK2.out; omega⟩, ⟨no HO_5.out⟩, ⟨qo HO_735000.out⟩, ⟨qo HO_743000.out⟩, ⟨qo HO_751000.out⟩, ⟨qo HO_758000.out⟩, ⟨bo BK734.out⟩, ⟨bo BK742.out⟩, ⟨bo BK750.out⟩, ⟨bo BK757.out⟩, ⟨bw⟩⟩
        have c104b0 : decide (0 < x13_2) = false := decide_eq_false c104
        clear c104
        have H' := am H
        clear H
        obtain ⟨Ao116, co116, eo116⟩ := Kd.N_slice HO_5.out
        subst eo116
        try go_wp2
        replace HO_5 := am (Kd.N_drew HO_5.out)
        replace HO_735000 := am (Kd.Q_drew HO_735000.out)
        replace HO_743000 := am (Kd.Q_drew HO_743000.out)
        replace HO_751000 := am (Kd.Q_drew HO_751000.out)
        replace HO_758000 := am (Kd.Q_drew HO_758000.out)
        replace BK734 := bd BK734
        replace BK742 := bd BK742
        replace BK750 := bd BK750
        replace BK757 := bd BK757
        replace HB := am (below_drew1 HB.out)
        have p773 : 0 ≤ (x13_2 : Int) := of_decide_eq_true (by first | (with_reducible assumption) | assumption)
        have q773 : x13_2 < (t735.length : Int) := of_decide_eq_true (by first | (with_reducible assumption) | assumption)
        obtain ⟨ad773, A773_0, c773_0, e773, hx773_0, hl773_0, hi773_0⟩ := at_L2 (Kd.N_reads' HO_5.out).2.2 x13_2 p773 q773
        cases e773
        obtain ⟨ce773, hce773, hMe773, hcc773⟩ := Kd.N_get HO_5.out [] x13_2 p773 (by first | exact q773 | exact of_decide_eq_true (by first | (with_reducible assumption) | assumption) | (have e_ := (Kd.N_reads' HO_5.out).1; omega))
        obtain ⟨ua773_0, uc773_0, rfl, ul773_0, ge773_0⟩ := Kd.FK_slice_open hMe773
        have hv773_0 := hcc773 0 _ rfl
        rw [Nat.add_zero, show ((Kd.slice 3 (Kd.int .i64))).sz = 1 from rfl, Nat.mul_one] at hv773_0
        replace hv773_0 := Option.some.inj (hv773_0.symm.trans hx773_0)
        injection hv773_0 with hva_ hvn_ hvc_
        rw [hva_] at ge773_0
        rw [hvc_] at ul773_0
        have HL773_0 := am (show Kd.V (Kd.int .i64) 3 _ w.heap.size _ _ (rd_L2 t735 x13_2) from Kd.V_mk ul773_0 ge773_0)
        clear hva_ hvn_ hvc_ ge773_0 ul773_0
        clear hcc773 hce773
        have HR773_0 := am hi773_0
        have HC773_0 := am hl773_0
        clear hi773_0 hl773_0
        replace p773 := eq_true p773
        replace q773 := eq_true q773
        have p775 : 0 ≤ (x13_2 : Int) := of_decide_eq_true (by first | (with_reducible assumption) | assumption)
        have q775 : x13_2 < (t735.length : Int) := of_decide_eq_true (by first | (with_reducible assumption) | assumption)
        obtain ⟨ad775, A775_0, c775_0, e775, hx775_0, hl775_0, hi775_0⟩ := at_L2 (Kd.N_reads' HO_5.out).2.2 x13_2 p775 q775
        obtain rfl : ad773 = ad775 := (by injection e775)
        obtain ⟨ce775, hce775, hMe775, hcc775⟩ := Kd.N_get HO_5.out [] x13_2 p775 (by first | exact q775 | exact of_decide_eq_true (by first | (with_reducible assumption) | assumption) | (have e_ := (Kd.N_reads' HO_5.out).1; omega))
        obtain ⟨ua775_0, uc775_0, rfl, ul775_0, ge775_0⟩ := Kd.FK_slice_open hMe775
        have hv775_0 := hcc775 0 _ rfl
        rw [Nat.add_zero, show ((Kd.slice 3 (Kd.int .i64))).sz = 1 from rfl, Nat.mul_one] at hv775_0
        replace hv775_0 := Option.some.inj (hv775_0.symm.trans hx775_0)
        injection hv775_0 with hva_ hvn_ hvc_
        rw [hva_] at ge775_0
        rw [hvc_] at ul775_0
        have HL775_0 := am (show Kd.V (Kd.int .i64) 3 _ w.heap.size _ _ (rd_L2 t735 x13_2) from Kd.V_mk ul775_0 ge775_0)
        clear hva_ hvn_ hvc_ ge775_0 ul775_0
        clear hcc775 hce775
        have HR775_0 := am hi775_0
        have HC775_0 := am hl775_0
        clear hi775_0 hl775_0
        replace p775 := eq_true p775
        replace q775 := eq_true q775
        have ea_ := Option.some.inj (hx773_0.symm.trans hx775_0)
        injection ea_ with ea_ en_ ec_
        subst ea_
        subst ec_
        clear en_
        refine start_ (n := 35) (S := fun w' => w'.cell? ⟨gb734, 0, none⟩ = some (.slice Ao12 t730.length co12) ∧ w'.cell? (ad773.add (x13_2).toNat) = some (.slice A773_0 (rd_L2 t735 x13_2).length c773_0) ∧ w'.cell? (ad773.add (x13_2).toNat) = some (.slice A773_0 (rd_L2 t735 x13_2).length c773_0)) (ds := []) (yz 35 0) (by kernel_rfl) rfl rfl ⟨bc BK734 0 _, hx773_0, hx775_0⟩ (fun hHeld => ?_); refine with_tabW laws_FnFactorizations.tab13 laws_FnFactorizations.bits13 (fun HT_ HW_ => ?_)
        generalize wr.drew = w117 at HO_5 HO_735000 HO_743000 HO_751000 HO_758000 BK734 BK742 BK750 BK757 HB HL773_0 HL775_0 HR773_0 HR775_0 hx773_0 hx775_0 hHeld ⊢
        refine pa 1 (some 91) (yz 35 2) HT_ ?_
        refine pa 2 (some 92) (yz 35 6) HT_ ?_
        refine pa 3 (some 93) (yz 35 14) HT_ ?_
        refine pa 4 (some 94) (yz 35 30) HT_ ?_
        refine tk 0 (some 90) (yz 35 31) HT_ HW_ hHeld ?_
        refine tk 5 (some 95) (yz 35 63) HT_ HW_ hHeld ?_
        refine oa 6 (some 96) (yz 35 127) HT_ (fun K hK => ?_)
        refine goes_ Tryd.func14 (by kernel_rfl) rfl #[.agg #[.slice Ao12 t730.length co12], .int .i64 t733, .slice A773_0 (rd_L2 t735 x13_2).length c773_0] (by rfl) rfl rfl (by (try simp only [List.map_toArray, List.map_cons, List.map_nil]); first | done | rfl | (simp only [List.length_drop, List.length_take]; rfl)) ?_
        with_reducible refine (impl_IsFactorization.calls k2 _ _ t730 t733 _ _ (rd_L2 t735 x13_2) true _ ?side1 ?side2 ?side3 ?side4 A100.out).mono ?_
        (case side1 => exact co (Kd.Q_reads' HO_735000.out).2.2)
        (case side2 => exact (Kd.Q_reads' HO_735000.out).2.1)
        (case side3 => exact co HR773_0.out)
        (case side4 => exact HC773_0.out)
        rintro e w118 ⟨rfl, hb⟩
        have HS1_ := (hb.cell (World.block_lt_of_cell? _ _ (hHeld.2.1))).trans (hHeld.2.1)
        have HS2_ := (hb.cell (World.block_lt_of_cell? _ _ (hHeld.2.2))).trans (hHeld.2.2)
        refine ⟨_, rfl, ?_⟩
        replace HO_5 := nK HO_5 hb
        replace HO_735000 := qK HO_735000 hb
        replace HO_743000 := qK HO_743000 hb
        replace HO_751000 := qK HO_751000 hb
        replace HO_758000 := qK HO_758000 hb
        replace HL773_0 := am (Kd.V_below (vo HL773_0.out) hb)
        replace BK734 := kb BK734 hb
        replace BK742 := kb BK742 hb
        replace BK750 := kb BK750 hb
        replace BK757 := kb BK757 hb
        replace HR775_0 := am (Kd.C_below (co HR775_0.out) hb)
        replace HR773_0 := am (Kd.C_below (co HR773_0.out) hb)
        replace HB := am (below_step bw hb)
        clear hb
        refine hK.out _ _ ⟨bc BK734 0 _, HS1_, HS2_⟩ (fun hHeld => ?_)
        clear hK K
        refine nm (some 96) ?_
        refine pa 7 (some 97) (yz 35 255) HT_ ?_
        refine pa 8 (some 98) (yz 35 511) HT_ ?_
        refine pa 9 (some 99) (yz 35 1023) HT_ ?_
        refine pa 10 (some 100) (yz 35 2047) HT_ ?_
        refine pa 11 (some 101) (yz 35 4095) HT_ ?_
        refine pa 13 (some 103) (yz 35 12287) HT_ ?_
        refine pa 16 (some 106) (yz 35 77823) HT_ ?_
        refine tk 12 (some 102) (yz 35 81919) HT_ HW_ hHeld ?_
        refine tk 14 (some 104) (yz 35 98303) HT_ HW_ hHeld ?_
        refine oa 15 (some 105) (yz 35 131071) HT_ (fun K hK => ?_)
        refine goes_ Tryd.func20 (by kernel_rfl) rfl #[.slice A773_0 (rd_L2 t735 x13_2).length c773_0, .slice Ao12 t730.length co12] (by rfl) rfl rfl (by (try simp only [List.map_toArray, List.map_cons, List.map_nil]); first | done | rfl | (simp only [List.length_drop, List.length_take]; rfl)) ?_
        with_reducible refine (laws_worth.calls k2 _ _ (rd_L2 t735 x13_2) _ _ t730 t776 _ ?side1 ?side2 ?side3 ?side4 A102.out).mono ?_
        (case side1 => exact co HR775_0.out)
        (case side2 => exact HC775_0.out)
        (case side3 => exact co (Kd.Q_reads' HO_735000.out).2.2)
        (case side4 => exact (Kd.Q_reads' HO_735000.out).2.1)
        rintro e w' ⟨rfl, ⟨nd, rfl⟩⟩
        refine ⟨_, rfl, ?_⟩
        refine hK.out _ _ ⟨bc BK734 0 _, hHeld.2.1, hHeld.2.2⟩ (fun hHeld => ?_)
        clear hK K
        refine nm (some 105) ?_
        refine pa 17 (some 107) (yz 35 262143) HT_ ?_
        refine pa 18 (some 108) (yz 35 524287) HT_ ?_
        refine pa 19 (some 109) (yz 35 1048575) HT_ ?_
        refine pa 20 (some 110) (yz 35 2097151) HT_ ?_
        refine pa 21 (some 111) (yz 35 4194303) HT_ ?_
        refine pa 22 (some 112) (yz 35 8388607) HT_ ?_
        refine pu 23 (some 113) (yz 35 16777215) HT_ ?_
        refine pu 24 (some 114) (yz 35 33554431) HT_ ?_
        refine pu 25 (some 115) (yz 35 67108863) HT_ ?_
        refine pu 26 (some 116) (yz 35 134217727) HT_ ?_
        refine pu 27 (some 117) (yz 35 268435455) HT_ ?_
        refine pu 28 (some 118) (yz 35 536870911) HT_ ?_
        refine pu 29 (some 119) (yz 35 1073741823) HT_ ?_
        refine pu 30 (some 120) (yz 35 2147483647) HT_ ?_
        refine pu 31 (some 121) (yz 35 4294967295) HT_ ?_
        refine pu 32 (some 122) (yz 35 8589934591) HT_ ?_
        refine pa 33 (some 123) (yz 35 17179869183) HT_ ?_
        refine pa 34 (some 124) (yz 35 34359738367) HT_ ?_
        refine done_ (done_of HT_.out (by kernel_rfl)) ?_
        try go_wp2
        go_roundg k2
        case measure => have := HJ8.out; have := HK2.out; omega
        case rel => exact ⟨(wrap64 (x13_2 + 1)), rr, H', ⟨by have := HJ8.out; have := HK2.out; omega⟩, ⟨no HO_5.out⟩, ⟨qo HO_735000.out⟩, ⟨qo HO_743000.out⟩, ⟨qo HO_751000.out⟩, ⟨qo HO_758000.out⟩, ⟨bo BK734.out⟩, ⟨bo BK742.out⟩, ⟨bo BK750.out⟩, ⟨bo BK757.out⟩, ⟨bw⟩⟩
       rw [if_neg c103] at H
       have c103b0 : (t776 == t733) = false := beq_eq_false_iff_ne.mpr c103
       have c103b1 : (t776 != t733) = true := bne_iff_ne.mpr c103
       exact absurd (Option.some.inj H) (by decide)
      exact absurd (Option.some.inj H) (by decide)
     replace H := gi H; obtain ⟨c125b0, H⟩ | ⟨c125b0, H⟩ := H
     ·have HRE_ := Option.some.inj H
      obtain ⟨Ao126, co126, eo126⟩ := Kd.N_slice HO_5.out
      subst eo126
      go_wp2
      go_ret
      exact ⟨re, bw⟩
     replace H := gj H; obtain ⟨c127, H⟩ | ⟨c127, H⟩ := H
     ·have c127b0 : decide (100 < t733) = true := decide_eq_true c127
      clear c127
      have HRE_ := Option.some.inj H
      obtain ⟨Ao128, co128, eo128⟩ := Kd.N_slice HO_5.out
      subst eo128
      go_wp2
      go_ret
      exact ⟨re, bw⟩
     have c127b0 : decide (100 < t733) = false := decide_eq_false c127
     clear c127
     replace H := ga H; obtain ⟨t770, A129, H⟩ := H
     by_cases c130 : t770 = true
     ·subst c130
      have H1 : ((impl_CountFactorizations.f k2 t730 t733).bind fun t771 => (if (t735.length : Int) = t771 then (if t733 = 0 then (some ((decide ((t735.length : Int) > 0)) == true)) else ((spec_Contains.f k2 t730 t733).bind fun t772 => (some ((decide ((t735.length : Int) > 0)) == t772)))) else (some false))) = some true := by rw [if_pos rfl] at H; exact H
      clear H
      have H := H1
      clear H1
      replace H := ga H; obtain ⟨t771, A131, H⟩ := H
      by_cases c132 : (t735.length : Int) = t771
      ·rw [if_pos c132] at H
       have c132b0 : ((t735.length : Int) == t771) = true := beq_iff_eq.mpr c132
       have c132b1 : ((t735.length : Int) != t771) = false := bne_eq_false_iff_eq.mpr c132
       clear c132
       by_cases c133 : t733 = 0
       ·rw [if_pos c133] at H
        have c133b0 : (t733 == 0) = true := beq_iff_eq.mpr c133
        have c133b1 : (t733 != 0) = false := bne_eq_false_iff_eq.mpr c133
        clear c133
        have HRE_ := Option.some.inj H
        obtain ⟨Ao134, co134, eo134⟩ := Kd.N_slice HO_5.out
        subst eo134
        have hnb135 := NB734_742.out
        have hnc135 := NB742_734.out
        have hnb136 := NB734_750.out
        have hnc136 := NB750_734.out
        have hnb137 := NB734_757.out
        have hnc137 := NB757_734.out
        have hcz138_0 := bc BK734 0 (.slice Ao12 t730.length co12)
        have hfz138_0 := blk_frozen BK734.out 0
        go_wp2_with (first | (go_at_call 22; (with_reducible refine (spec_IsSemigroup.calls k2 _ _ t730 true _ ?side1 ?side2 A129.out).mono ?_); (case side1 => exact co (Kd.Q_reads' HO_735000.out).2.2); (case side2 => exact (Kd.Q_reads' HO_735000.out).2.1); rintro e w139 ⟨rfl, hb⟩; replace HO_5 := nK HO_5 hb; replace HO_735000 := qK HO_735000 hb; replace HO_743000 := qK HO_743000 hb; replace HO_751000 := qK HO_751000 hb; replace HO_758000 := qK HO_758000 hb; replace BK734 := kb BK734 hb; replace BK742 := kb BK742 hb; replace BK750 := kb BK750 hb; replace BK757 := kb BK757 hb; replace HB := am (below_step bw hb); clear hb; have hcz140_0 := bc BK734 0 (.slice Ao12 t730.length co12); have hfz140_0 := blk_frozen BK734.out 0) | (go_at_call 12; (with_reducible refine (impl_CountFactorizations.calls k2 _ _ t730 t733 t771 _ ?side1 ?side2 A131.out).mono ?_); (case side1 => exact co (Kd.Q_reads' HO_735000.out).2.2); (case side2 => exact (Kd.Q_reads' HO_735000.out).2.1); rintro e w141 ⟨rfl, hb⟩; replace HO_5 := nK HO_5 hb; replace HO_735000 := qK HO_735000 hb; replace HO_743000 := qK HO_743000 hb; replace HO_751000 := qK HO_751000 hb; replace HO_758000 := qK HO_758000 hb; replace BK734 := kb BK734 hb; replace BK742 := kb BK742 hb; replace BK750 := kb BK750 hb; replace BK757 := kb BK757 hb; replace HB := am (below_step bw hb); clear hb))
        go_ret
        have hp_ : 0 < t735.length := (by have h_ := HRE_; simp at h_; omega)
        exact ⟨re, bw⟩
       rw [if_neg c133] at H
       have c133b0 : (t733 == 0) = false := beq_eq_false_iff_ne.mpr c133
       have c133b1 : (t733 != 0) = true := bne_iff_ne.mpr c133
       replace H := ga H; obtain ⟨t772, A142, H⟩ := H
       have HRE_ := Option.some.inj H
       obtain ⟨Ao143, co143, eo143⟩ := Kd.N_slice HO_5.out
       subst eo143
       have hnb144 := NB734_742.out
       have hnc144 := NB742_734.out
       have hnb145 := NB734_750.out
       have hnc145 := NB750_734.out
       have hnb146 := NB734_757.out
       have hnc146 := NB757_734.out
       have hcz147_0 := bc BK734 0 (.slice Ao12 t730.length co12)
       have hfz147_0 := blk_frozen BK734.out 0
       go_wp2_with (first | (go_at_call 22; (with_reducible refine (spec_IsSemigroup.calls k2 _ _ t730 true _ ?side1 ?side2 A129.out).mono ?_); (case side1 => exact co (Kd.Q_reads' HO_735000.out).2.2); (case side2 => exact (Kd.Q_reads' HO_735000.out).2.1); rintro e w148 ⟨rfl, hb⟩; replace HO_5 := nK HO_5 hb; replace HO_735000 := qK HO_735000 hb; replace HO_743000 := qK HO_743000 hb; replace HO_751000 := qK HO_751000 hb; replace HO_758000 := qK HO_758000 hb; replace BK734 := kb BK734 hb; replace BK742 := kb BK742 hb; replace BK750 := kb BK750 hb; replace BK757 := kb BK757 hb; replace HB := am (below_step bw hb); clear hb; have hcz149_0 := bc BK734 0 (.slice Ao12 t730.length co12); have hfz149_0 := blk_frozen BK734.out 0) | (go_at_call 12; (with_reducible refine (impl_CountFactorizations.calls k2 _ _ t730 t733 t771 _ ?side1 ?side2 A131.out).mono ?_); (case side1 => exact co (Kd.Q_reads' HO_735000.out).2.2); (case side2 => exact (Kd.Q_reads' HO_735000.out).2.1); rintro e w150 ⟨rfl, hb⟩; replace HO_5 := nK HO_5 hb; replace HO_735000 := qK HO_735000 hb; replace HO_743000 := qK HO_743000 hb; replace HO_751000 := qK HO_751000 hb; replace HO_758000 := qK HO_758000 hb; replace BK734 := kb BK734 hb; replace BK742 := kb BK742 hb; replace BK750 := kb BK750 hb; replace BK757 := kb BK757 hb; replace HB := am (below_step bw hb); clear hb; have hcz151_0 := bc BK734 0 (.slice Ao12 t730.length co12); have hfz151_0 := blk_frozen BK734.out 0) | (go_at_call 23; (with_reducible refine (spec_Contains.calls k2 _ _ t730 t733 t772 _ ?side1 ?side2 A142.out).mono ?_); (case side1 => exact co (Kd.Q_reads' HO_735000.out).2.2); (case side2 => exact (Kd.Q_reads' HO_735000.out).2.1); rintro e w152 ⟨rfl, hb⟩; replace HO_5 := nK HO_5 hb; replace HO_735000 := qK HO_735000 hb; replace HO_743000 := qK HO_743000 hb; replace HO_751000 := qK HO_751000 hb; replace HO_758000 := qK HO_758000 hb; replace BK734 := kb BK734 hb; replace BK742 := kb BK742 hb; replace BK750 := kb BK750 hb; replace BK757 := kb BK757 hb; replace HB := am (below_step bw hb); clear hb))
       go_ret
       have hq_ : t772 = decide (0 < t735.length) := (by have h_ := HRE_; revert h_; cases t772 <;> by_cases c_ : 0 < t735.length <;> simp [c_] <;> omega)
       subst hq_
       exact ⟨re, bw⟩
      rw [if_neg c132] at H
      have c132b0 : ((t735.length : Int) == t771) = false := beq_eq_false_iff_ne.mpr c132
      have c132b1 : ((t735.length : Int) != t771) = true := bne_iff_ne.mpr c132
      exact absurd (Option.some.inj H) (by decide)
     replace c130 := Bool.eq_false_iff.mpr c130
     subst c130
     have H1 : (some true) = some true := rfl
     clear H
     have H := H1
     clear H1
     skip
     obtain ⟨Ao161, co161, eo161⟩ := Kd.N_slice HO_5.out
     subst eo161
     have hnb162 := NB734_742.out
     have hnc162 := NB742_734.out
     have hnb163 := NB734_750.out
     have hnc163 := NB750_734.out
     have hnb164 := NB734_757.out
     have hnc164 := NB757_734.out
     have hcz165_0 := bc BK734 0 (.slice Ao12 t730.length co12)
     have hfz165_0 := blk_frozen BK734.out 0
     go_wp2_with (first | (go_at_call 22; (with_reducible refine (spec_IsSemigroup.calls k2 _ _ t730 false _ ?side1 ?side2 A129.out).mono ?_); (case side1 => exact co (Kd.Q_reads' HO_735000.out).2.2); (case side2 => exact (Kd.Q_reads' HO_735000.out).2.1); rintro e w166 ⟨rfl, hb⟩; replace HO_5 := nK HO_5 hb; replace HO_735000 := qK HO_735000 hb; replace HO_743000 := qK HO_743000 hb; replace HO_751000 := qK HO_751000 hb; replace HO_758000 := qK HO_758000 hb; replace BK734 := kb BK734 hb; replace BK742 := kb BK742 hb; replace BK750 := kb BK750 hb; replace BK757 := kb BK757 hb; replace HB := am (below_step bw hb); clear hb))
     go_ret
     exact ⟨re, bw⟩

/-- THE ONE PURE STATEMENT of laws_FnFactorizations: yours. -/
def laws_FnFactorizations.Pure : Prop := ∀ (l0 : List Int), l0.length ≤ maxLen → l0.length * 1 ≤ 140737488351232 → (∀ x ∈ l0, (Lit.int .u8 x).wf = true) → ∃ k, laws_FnFactorizations.f k l0 = some true
end Go.Proofs.YtbbehmbpoilffaaDoor.C
