/- Contracts of functions of the program: laws_FnQuotients. -/
import Derived.Test.YtkfplkdchkmgbaaC0
import Derived.Test.YtkfplkdchkmgbaaC1
import Derived.Test.YtkfplkdchkmgbaaC10
import Derived.Test.YtkfplkdchkmgbaaC15
import Derived.Test.YtkfplkdchkmgbaaC17
import Derived.Test.YtkfplkdchkmgbaaC24
import Derived.Test.YtkfplkdchkmgbaaC25
namespace Go.Proofs.Ytkfplkdchkmgbaa.C
open Go.RowKit Go.Proofs.YtkfplkdchkmgbaaW.PrintWords Go.Proofs.YtkfplkdchkmgbaaW.PrintLast Go.Proofs.YtkfplkdchkmgbaaW.PrintMore
attribute [local go_sem] max2_int min2_int max_two min_two max_three min_three max_four min_four
set_option linter.unusedVariables false
set_option linter.unusedSimpArgs false

/-! ### laws_FnQuotients: function 4 -/
mutual
def laws_FnQuotients.j0 : Nat → Int → Bool → Bool → List Int → List Int → Option (Bool)
 | 0, _, _, _, _, _ => none
 | k + 1, x4, x6, x59, x625000, x630000 => if x59 = true then (some false) else (laws_FnQuotients.l0 k x4 x6 0 x625000 x630000)
def laws_FnQuotients.l0 : Nat → Int → Bool → Int → List Int → List Int → Option (Bool)
 | 0, _, _, _, _, _ => none
 | k + 1, x4, x6, x12, x625000, x630000 => if x12 ≤ 40 then (laws_FnQuotients.j2 k x4 x6 x12 x6 x625000 x630000) else (laws_FnQuotients.j2 k x4 x6 x12 false x625000 x630000)
def laws_FnQuotients.j2 : Nat → Int → Bool → Int → Bool → List Int → List Int → Option (Bool)
 | 0, _, _, _, _, _, _ => none
 | k + 1, x4, x6, x12, x64, x625000, x630000 => if x64 = true then ((impl_Contains.f k x630000 x12).bind fun t649 => ((spec_Contains.f k x625000 (wrap64 (x12 * x4))).bind fun t650 => (if (t649 != t650) = true then (some false) else (laws_FnQuotients.l0 k x4 x6 (wrap64 (x12 + 1)) x625000 x630000)))) else (laws_FnQuotients.l1 k x6 0 x625000 x630000)
def laws_FnQuotients.l1 : Nat → Bool → Int → List Int → List Int → Option (Bool)
 | 0, _, _, _, _ => none
 | k + 1, x6, x13, x625000, x630000 => if x13 < (x625000.length : Int) then (laws_FnQuotients.j4 k x6 x13 x6 x625000 x630000) else (laws_FnQuotients.j4 k x6 x13 false x625000 x630000)
def laws_FnQuotients.j4 : Nat → Bool → Int → Bool → List Int → List Int → Option (Bool)
 | 0, _, _, _, _, _ => none
 | k + 1, x6, x13, x83, x625000, x630000 => if x83 = true then (if 0 ≤ x13 then (if x13 < (x625000.length : Int) then ((impl_Contains.f k x630000 (rd x625000 x13)).bind fun t652 => (if t652 = true then (laws_FnQuotients.l1 k x6 (wrap64 (x13 + 1)) x625000 x630000) else (some false))) else (none)) else (none)) else (some true)
end
def laws_FnQuotients.f (k : Nat) (l0 : List Int) : Option (Bool) := (laws_big.f l0).bind fun t619 => (if t619 = true then (some true) else ((spec_DrawQuotientOf.f k l0).bind fun bt620 => ((impl_QuotientOf.f k bt620.1 bt620.2).bind fun bt625 => ((spec_QuotientOf.f k bt620.1 bt620.2).bind fun bt630 => ((spec_DrawScaledElements.f k l0).bind fun bt635 => (if (bt625.2 != bt630.2) = true then (laws_FnQuotients.j0 k bt620.2 bt625.2 true bt620.1 bt625.1) else ((spec_EqualSemigroup.f k bt625.1 bt630.1).bind fun t641 => (if t641 = true then ((impl_ScaledElements.f k bt635.1 bt635.2.1 bt635.2.2).bind fun t642 => ((spec_ScaledElements.f k bt635.1 bt635.2.1 bt635.2.2).bind fun t645 => ((laws_sameInts.f k t642 t645).bind fun t648 => (laws_FnQuotients.j0 k bt620.2 bt625.2 (!t648) bt620.1 bt625.1)))) else (laws_FnQuotients.j0 k bt620.2 bt625.2 true bt620.1 bt625.1)))))))))
def laws_FnQuotients.T7 : Bool × List (List Nat × List Nat) := (true, [([], []), ([], []), ([0, 1], [0, 1]), ([2], [2]), ([3], [3]), ([3], [3]), ([4, 5, 3, 3], [3, 4, 5]), ([6, 3], [3, 6]), ([3, 7], [3, 7]), ([8, 6], [8]), ([9], [9]), ([9], [9]), ([9], [9]), ([10, 11, 12, 9, 9], [9, 10, 11, 12]), ([9], [9]), ([9], [9]), ([9], [9]), ([14, 15, 16, 13, 9], [9, 14, 15, 16]), ([13, 17, 17, 9], [9, 13, 17]), ([18, 9], [9, 18]), ([9, 19], [9, 19])])
def laws_FnQuotients.B7 : List Nat := [0, 0, 3, 7, 15, 15, 63, 127, 255, 511, 1023, 1023, 1023, 8191, 1023, 1023, 1023, 131071, 262143, 524287, 1048575]
theorem laws_FnQuotients.tab7 : rtab .any (opsOf Try.f4 7) = laws_FnQuotients.T7 := by kernel_rfl
theorem laws_FnQuotients.bits7 : waitsOk laws_FnQuotients.T7.2 laws_FnQuotients.B7 = true := by kernel_rfl
def laws_FnQuotients.T12 : Bool × List (List Nat × List Nat) := (true, [([], []), ([], []), ([0, 1], [0, 1]), ([], []), ([], []), ([], []), ([4, 5], [4, 5]), ([3, 6, 2], [3, 6]), ([2, 7], [2, 7])])
def laws_FnQuotients.B12 : List Nat := [0, 0, 3, 0, 0, 0, 48, 127, 255]
theorem laws_FnQuotients.tab12 : rtab .any (opsOf Try.f4 12) = laws_FnQuotients.T12 := by kernel_rfl
theorem laws_FnQuotients.bits12 : waitsOk laws_FnQuotients.T12.2 laws_FnQuotients.B12 = true := by kernel_rfl
def laws_FnQuotients.T17 : Bool × List (List Nat × List Nat) := (true, [([], []), ([], []), ([1], [1]), ([], []), ([2, 3], [2, 3]), ([4], [4]), ([0, 5], [0, 5]), ([6], [6])])
def laws_FnQuotients.B17 : List Nat := [0, 0, 2, 0, 14, 30, 63, 127]
theorem laws_FnQuotients.tab17 : rtab .any (opsOf Try.f4 17) = laws_FnQuotients.T17 := by kernel_rfl
theorem laws_FnQuotients.bits17 : waitsOk laws_FnQuotients.T17.2 laws_FnQuotients.B17 = true := by kernel_rfl
set_option maxHeartbeats 8000000 in
set_option maxRecDepth 100000 in
theorem laws_FnQuotients.calls (k : Nat) (A0 : Option Addr) (c0 : Nat) (l0 : List Int) (w : World) (hr0 : Kd.C (Kd.int .u8) w A0 l0.length l0) (hc0 : l0.length ≤ c0) (h : laws_FnQuotients.f k l0 = some true) :
  Calls Try.prog 4 #[.slice A0 l0.length c0] w fun e w' => e = .returned (.bool true) ∧ Below w.heap.size w w' := by
 have hu26 := Try.underlying26
 have HR0 := Aside0.mk hr0
 have HC0 := Aside0.mk hc0
 clear hr0 hc0
 have HB := Aside0.mk (Below.refl w.heap.size w)
 have H : ((laws_big.f l0).bind fun t619 => (if t619 = true then (some true) else ((spec_DrawQuotientOf.f k l0).bind fun bt620 => ((impl_QuotientOf.f k bt620.1 bt620.2).bind fun bt625 => ((spec_QuotientOf.f k bt620.1 bt620.2).bind fun bt630 => ((spec_DrawScaledElements.f k l0).bind fun bt635 => (if (bt625.2 != bt630.2) = true then (laws_FnQuotients.j0 k bt620.2 bt625.2 true bt620.1 bt625.1) else ((spec_EqualSemigroup.f k bt625.1 bt630.1).bind fun t641 => (if t641 = true then ((impl_ScaledElements.f k bt635.1 bt635.2.1 bt635.2.2).bind fun t642 => ((spec_ScaledElements.f k bt635.1 bt635.2.1 bt635.2.2).bind fun t645 => ((laws_sameInts.f k t642 t645).bind fun t648 => (laws_FnQuotients.j0 k bt620.2 bt625.2 (!t648) bt620.1 bt625.1)))) else (laws_FnQuotients.j0 k bt620.2 bt625.2 true bt620.1 bt625.1)))))))))) = some true := h
 clear h
 replace H := ga H; obtain ⟨t619, A2, H⟩ := H
 by_cases c3 : t619 = true
 ·subst c3
  have H1 : (some true) = some true := rfl
  clear H
  have H := H1
  clear H1
  skip
  go_enter Try.func4, Try.ntmps4
  go_wp2_with (first | ((with_reducible refine gate_callee (f := 12) rfl ?_); refine gl (some 15) Try.func12 #[.slice A0 l0.length c0] ?_; (with_reducible refine (laws_big.calls _ _ l0 true _ ?side1 ?side2 A2.out).mono ?_); (case side1 => exact co HR0.out); (case side2 => exact HC0.out); rintro e w' ⟨rfl, ⟨nd, rfl⟩⟩; refine ⟨_, rfl, ?_⟩))
  go_ret
  exact ⟨re, bw⟩
 ·replace c3 := Bool.eq_false_iff.mpr c3
  subst c3
  have H1 : ((spec_DrawQuotientOf.f k l0).bind fun bt620 => ((impl_QuotientOf.f k bt620.1 bt620.2).bind fun bt625 => ((spec_QuotientOf.f k bt620.1 bt620.2).bind fun bt630 => ((spec_DrawScaledElements.f k l0).bind fun bt635 => (if (bt625.2 != bt630.2) = true then (laws_FnQuotients.j0 k bt620.2 bt625.2 true bt620.1 bt625.1) else ((spec_EqualSemigroup.f k bt625.1 bt630.1).bind fun t641 => (if t641 = true then ((impl_ScaledElements.f k bt635.1 bt635.2.1 bt635.2.2).bind fun t642 => ((spec_ScaledElements.f k bt635.1 bt635.2.1 bt635.2.2).bind fun t645 => ((laws_sameInts.f k t642 t645).bind fun t648 => (laws_FnQuotients.j0 k bt620.2 bt625.2 (!t648) bt620.1 bt625.1)))) else (laws_FnQuotients.j0 k bt620.2 bt625.2 true bt620.1 bt625.1)))))))) = some true := by rw [if_neg (show ¬ (false = true) by decide)] at H; exact H
  clear H
  have H := H1
  clear H1
  replace H := ga H; obtain ⟨⟨t620, t623⟩, A4, H⟩ := H
  replace H : ((impl_QuotientOf.f k t620 t623).bind fun bt625 => ((spec_QuotientOf.f k t620 t623).bind fun bt630 => ((spec_DrawScaledElements.f k l0).bind fun bt635 => (if (bt625.2 != bt630.2) = true then (laws_FnQuotients.j0 k t623 bt625.2 true t620 bt625.1) else ((spec_EqualSemigroup.f k bt625.1 bt630.1).bind fun t641 => (if t641 = true then ((impl_ScaledElements.f k bt635.1 bt635.2.1 bt635.2.2).bind fun t642 => ((spec_ScaledElements.f k bt635.1 bt635.2.1 bt635.2.2).bind fun t645 => ((laws_sameInts.f k t642 t645).bind fun t648 => (laws_FnQuotients.j0 k t623 bt625.2 (!t648) t620 bt625.1)))) else (laws_FnQuotients.j0 k t623 bt625.2 true t620 bt625.1))))))) = some true := H
  replace H := ga H; obtain ⟨⟨t625, t628⟩, A5, H⟩ := H
  replace H : ((spec_QuotientOf.f k t620 t623).bind fun bt630 => ((spec_DrawScaledElements.f k l0).bind fun bt635 => (if (t628 != bt630.2) = true then (laws_FnQuotients.j0 k t623 t628 true t620 t625) else ((spec_EqualSemigroup.f k t625 bt630.1).bind fun t641 => (if t641 = true then ((impl_ScaledElements.f k bt635.1 bt635.2.1 bt635.2.2).bind fun t642 => ((spec_ScaledElements.f k bt635.1 bt635.2.1 bt635.2.2).bind fun t645 => ((laws_sameInts.f k t642 t645).bind fun t648 => (laws_FnQuotients.j0 k t623 t628 (!t648) t620 t625)))) else (laws_FnQuotients.j0 k t623 t628 true t620 t625)))))) = some true := H
  replace H := ga H; obtain ⟨⟨t630, t633⟩, A6, H⟩ := H
  replace H : ((spec_DrawScaledElements.f k l0).bind fun bt635 => (if (t628 != t633) = true then (laws_FnQuotients.j0 k t623 t628 true t620 t625) else ((spec_EqualSemigroup.f k t625 t630).bind fun t641 => (if t641 = true then ((impl_ScaledElements.f k bt635.1 bt635.2.1 bt635.2.2).bind fun t642 => ((spec_ScaledElements.f k bt635.1 bt635.2.1 bt635.2.2).bind fun t645 => ((laws_sameInts.f k t642 t645).bind fun t648 => (laws_FnQuotients.j0 k t623 t628 (!t648) t620 t625)))) else (laws_FnQuotients.j0 k t623 t628 true t620 t625))))) = some true := H
  replace H := ga H; obtain ⟨⟨t635, t638, t639⟩, A7, H⟩ := H
  replace H : (if (t628 != t633) = true then (laws_FnQuotients.j0 k t623 t628 true t620 t625) else ((spec_EqualSemigroup.f k t625 t630).bind fun t641 => (if t641 = true then ((impl_ScaledElements.f k t635 t638 t639).bind fun t642 => ((spec_ScaledElements.f k t635 t638 t639).bind fun t645 => ((laws_sameInts.f k t642 t645).bind fun t648 => (laws_FnQuotients.j0 k t623 t628 (!t648) t620 t625)))) else (laws_FnQuotients.j0 k t623 t628 true t620 t625)))) = some true := H
  have HC8 := Aside0.mk H
  clear H
  go_enter Try.func4, Try.ntmps4
  go_upto_region 7 with (first | ((with_reducible refine gate_callee (f := 12) rfl ?_); refine gl (some 15) Try.func12 #[.slice A0 l0.length c0] ?_; (with_reducible refine (laws_big.calls _ _ l0 false _ ?side1 ?side2 A2.out).mono ?_); (case side1 => exact co HR0.out); (case side2 => exact HC0.out); rintro e w' ⟨rfl, ⟨nd, rfl⟩⟩; refine ⟨_, rfl, ?_⟩) | ((with_reducible refine gate_callee (f := 26) rfl ?_); refine gl (some 18) Try.func26 #[.slice A0 l0.length c0] ?_; (with_reducible refine (spec_DrawQuotientOf.calls k _ _ l0 t620 t623 _ ?side1 ?side2 A4.out).mono ?_); (case side1 => exact co HR0.out); (case side2 => exact HC0.out); rintro e w9 ⟨v621, rfl, ho0, hb⟩; refine ⟨_, rfl, ?_⟩; have HO622 := Aside0.mk (Kd.Q_lower ho0 (below_size bw)); replace HB := Aside0.mk (below_step bw hb); clear hb ho0) | ((with_reducible refine gate_dst (N := 3) rfl ?_); refine bx 3 #[.slice none 0 0] 26 ?_; intro gb624 hg w10 hbox hb; replace HO622 := Aside0.mk (Kd.Q_below (by (with_reducible repeat (first | apply Kd.Q_alloc | apply Kd.Q_drewN | apply Kd.Q_drew)); exact HO622.out) hb); have BK624 := Aside0.mk (hbox); have GW624 := Aside0.mk (gs hg : w.heap.size ≤ gb624); have GE624 := Aside0.mk (gs hg : w.heap.size ≤ gb624); replace HB := Aside0.mk (below_step bw hb); clear hb hbox hg; obtain ⟨Ao11, co11, eo11, _⟩ := Kd.Q_slice HO622.out; subst eo11; have hcz12_0 := bc BK624 0 (.slice none 0 0); have hfz12_0 := blk_frozen BK624.out 0) | ((with_reducible refine gate_callee (f := 27) rfl ?_); refine gl (some 24) Try.func27 #[.agg #[.slice Ao11 t620.length co11], .int .i64 t623] ?_; (with_reducible refine (impl_QuotientOf.calls k _ _ t620 t623 t625 t628 _ ?side1 ?side2 A5.out).mono ?_); (case side1 => refine (Kd.Q_reads' (e := 3) (base := w.heap.size) (ok := fun k_ => True) (n := t620.length) (c := co11) ?_).2.2; exact (by (with_reducible repeat (first | apply Kd.Q_alloc | apply Kd.Q_drewN | apply Kd.Q_drew)); exact (Kd.Q_mono (Kd.Q_far (p := ⟨gb624, 0, none⟩) (Kd.Q_types HO622.out BK624.out (by decide)) (fun _ hk => hk.2) (.slice Ao11 t620.length co11)) (fun _ h_ => h_.1)))); (case side2 => exact (Kd.Q_reads' HO622.out).2.1); rintro e w13 ⟨v626, rfl, ho0, hb⟩; refine ⟨_, rfl, ?_⟩; have HO627 := Aside0.mk (Kd.R_lower (Kd.R_new' ho0 (Kd.Q_lt (by (with_reducible repeat (first | apply Kd.Q_alloc | apply Kd.Q_drewN | apply Kd.Q_drew)); exact (Kd.Q_mono (Kd.Q_far (p := ⟨gb624, 0, none⟩) (Kd.Q_types HO622.out BK624.out (by decide)) (fun _ hk => hk.2) (.slice Ao11 t620.length co11)) (fun _ h_ => h_.1))))) (below_size bw)); replace HO622 := Aside0.mk (Kd.Q_elder' (by (with_reducible repeat (first | apply Kd.Q_alloc | apply Kd.Q_drewN | apply Kd.Q_drew)); exact (Kd.Q_mono (Kd.Q_far (p := ⟨gb624, 0, none⟩) (Kd.Q_types HO622.out BK624.out (by decide)) (fun _ hk => hk.2) (.slice Ao11 t620.length co11)) (fun _ h_ => h_.1))) (Kd.R_base ho0) hb); replace BK624 := Aside0.mk (blk_below (g := gb624) (o := .cells #[.slice Ao11 t620.length co11] 26 (0, 0)) (by (with_reducible repeat (first | refine blk_drewN ?_ _ | refine blk_drew ?_ | refine blk_alloc ?_ _)); refine blk_put (cs := #[.slice none 0 0]) ?_ 0 _ rfl; (with_reducible repeat (first | refine blk_drewN ?_ _ | refine blk_drew ?_ | refine blk_alloc ?_ _)); exact BK624.out) hb); replace HB := Aside0.mk (below_step bw hb); clear hb ho0) | ((with_reducible refine gate_dst (N := 5) rfl ?_); refine bx 5 #[.slice none 0 0] 26 ?_; intro gb629 hg w14 hbox hb; replace HO622 := Aside0.mk (Kd.Q_below (by (with_reducible repeat (first | apply Kd.Q_alloc | apply Kd.Q_drewN | apply Kd.Q_drew)); exact HO622.out) hb); replace HO627 := Aside0.mk (Kd.R_below (ro HO627.out) hb); have BK629 := Aside0.mk (hbox); have GW629 := Aside0.mk (gs hg : w.heap.size ≤ gb629); have GE629 := Aside0.mk (gs hg : w.heap.size ≤ gb629); replace HB := Aside0.mk (below_step bw hb); have NB624_629 := Aside0.mk ((by rw [hg]; exact Nat.ne_of_lt (blk_lt (g := gb624) (o := .cells #[.slice Ao11 t620.length co11] 26 (0, 0)) (bo BK624.out)) : gb624 ≠ gb629)); have NB629_624 := Aside0.mk ((by rw [hg]; exact Nat.ne_of_gt (blk_lt (g := gb624) (o := .cells #[.slice Ao11 t620.length co11] 26 (0, 0)) (bo BK624.out)) : gb629 ≠ gb624)); replace BK624 := Aside0.mk (blk_below (g := gb624) (o := .cells #[.slice Ao11 t620.length co11] 26 (0, 0)) (bo BK624.out) hb); clear hb hbox hg; obtain ⟨Ao15, co15, eo15⟩ := Kd.R_slice HO627.out; subst eo15; have hnb16 := NB629_624.out; have hnc16 := NB624_629.out; have hcz17_0 := bc BK629 0 (.slice none 0 0); have hfz17_0 := blk_frozen BK629.out 0; have hcz18_0 := bc BK624 0 (.slice Ao11 t620.length co11); have hfz18_0 := blk_frozen BK624.out 0) | ((with_reducible refine gate_callee (f := 28) rfl ?_); refine gl (some 30) Try.func28 #[.agg #[.slice Ao11 t620.length co11], .int .i64 t623] ?_; (with_reducible refine (spec_QuotientOf.calls k _ _ t620 t623 t630 t633 _ ?side1 ?side2 A6.out).mono ?_); (case side1 => refine (Kd.Q_reads' (e := 3) (base := w.heap.size) (ok := fun k_ => (True ∧ some k_ ≠ (.slice Ao15 t625.length co15 : Value).ownBlock)) (n := t620.length) (c := co11) ?_).2.2; exact (by (with_reducible repeat (first | apply Kd.Q_alloc | apply Kd.Q_drewN | apply Kd.Q_drew)); exact (Kd.Q_mono (Kd.Q_far (p := ⟨gb629, 0, none⟩) (Kd.Q_types HO622.out BK629.out (by decide)) (fun _ hk => hk.2) (.slice Ao15 t625.length co15)) (fun _ h_ => h_.1)))); (case side2 => exact (Kd.Q_reads' HO622.out).2.1); rintro e w19 ⟨v631, rfl, ho0, hb⟩; refine ⟨_, rfl, ?_⟩; have HO632 := Aside0.mk (Kd.R_lower (Kd.R_new' (Kd.R_new' ho0 (Kd.Q_lt (by (with_reducible repeat (first | apply Kd.Q_alloc | apply Kd.Q_drewN | apply Kd.Q_drew)); exact (Kd.Q_mono (Kd.Q_far (p := ⟨gb629, 0, none⟩) (Kd.Q_types HO622.out BK629.out (by decide)) (fun _ hk => hk.2) (.slice Ao15 t625.length co15)) (fun _ h_ => h_.1))))) (Kd.R_lt (by (with_reducible repeat (first | apply Kd.R_alloc | apply Kd.R_drewN | apply Kd.R_drew)); exact (Kd.R_mono (Kd.R_far (p := ⟨gb629, 0, none⟩) (Kd.R_types HO627.out BK629.out (by decide)) (fun _ hk => hk.2) (.slice Ao15 t625.length co15)) (fun _ h_ => h_.1))))) (below_size bw)); replace HO622 := Aside0.mk (Kd.Q_elder' (by (with_reducible repeat (first | apply Kd.Q_alloc | apply Kd.Q_drewN | apply Kd.Q_drew)); exact (Kd.Q_mono (Kd.Q_far (p := ⟨gb629, 0, none⟩) (Kd.Q_types HO622.out BK629.out (by decide)) (fun _ hk => hk.2) (.slice Ao15 t625.length co15)) (fun _ h_ => h_.1))) (Kd.R_base ho0) hb); replace HO627 := Aside0.mk (Kd.R_elder' (by (with_reducible repeat (first | apply Kd.R_alloc | apply Kd.R_drewN | apply Kd.R_drew)); exact (Kd.R_mono (Kd.R_far (p := ⟨gb629, 0, none⟩) (Kd.R_types HO627.out BK629.out (by decide)) (fun _ hk => hk.2) (.slice Ao15 t625.length co15)) (fun _ h_ => h_.1))) (Kd.R_base ho0) hb); replace BK624 := Aside0.mk (blk_below (g := gb624) (o := .cells #[.slice Ao11 t620.length co11] 26 (0, 0)) (by (with_reducible repeat (first | refine blk_drewN ?_ _ | refine blk_drew ?_ | refine blk_alloc ?_ _)); refine blk_far ?_ NB624_629.out _; (with_reducible repeat (first | refine blk_drewN ?_ _ | refine blk_drew ?_ | refine blk_alloc ?_ _)); exact BK624.out) hb); replace BK629 := Aside0.mk (blk_below (g := gb629) (o := .cells #[.slice Ao15 t625.length co15] 26 (0, 0)) (by (with_reducible repeat (first | refine blk_drewN ?_ _ | refine blk_drew ?_ | refine blk_alloc ?_ _)); refine blk_put (cs := #[.slice none 0 0]) ?_ 0 _ rfl; (with_reducible repeat (first | refine blk_drewN ?_ _ | refine blk_drew ?_ | refine blk_alloc ?_ _)); exact BK629.out) hb); replace HB := Aside0.mk (below_step bw hb); clear hb ho0) | ((with_reducible refine gate_dst (N := 7) rfl ?_); refine bx 7 #[.slice none 0 0] 26 ?_; intro gb634 hg w20 hbox hb; replace HO622 := Aside0.mk (Kd.Q_below (by (with_reducible repeat (first | apply Kd.Q_alloc | apply Kd.Q_drewN | apply Kd.Q_drew)); exact HO622.out) hb); replace HO627 := Aside0.mk (Kd.R_below (ro HO627.out) hb); replace HO632 := Aside0.mk (Kd.R_below (ro HO632.out) hb); have BK634 := Aside0.mk (hbox); have GW634 := Aside0.mk (gs hg : w.heap.size ≤ gb634); have GE634 := Aside0.mk (gs hg : w.heap.size ≤ gb634); replace HB := Aside0.mk (below_step bw hb); have NB624_634 := Aside0.mk ((by rw [hg]; exact Nat.ne_of_lt (blk_lt (g := gb624) (o := .cells #[.slice Ao11 t620.length co11] 26 (0, 0)) (bo BK624.out)) : gb624 ≠ gb634)); have NB634_624 := Aside0.mk ((by rw [hg]; exact Nat.ne_of_gt (blk_lt (g := gb624) (o := .cells #[.slice Ao11 t620.length co11] 26 (0, 0)) (bo BK624.out)) : gb634 ≠ gb624)); replace BK624 := Aside0.mk (blk_below (g := gb624) (o := .cells #[.slice Ao11 t620.length co11] 26 (0, 0)) (bo BK624.out) hb); have NB629_634 := Aside0.mk ((by rw [hg]; exact Nat.ne_of_lt (blk_lt (g := gb629) (o := .cells #[.slice Ao15 t625.length co15] 26 (0, 0)) (bo BK629.out)) : gb629 ≠ gb634)); have NB634_629 := Aside0.mk ((by rw [hg]; exact Nat.ne_of_gt (blk_lt (g := gb629) (o := .cells #[.slice Ao15 t625.length co15] 26 (0, 0)) (bo BK629.out)) : gb634 ≠ gb629)); replace BK629 := Aside0.mk (blk_below (g := gb629) (o := .cells #[.slice Ao15 t625.length co15] 26 (0, 0)) (bo BK629.out) hb); clear hb hbox hg; obtain ⟨Ao21, co21, eo21⟩ := Kd.R_slice HO632.out; subst eo21; have hnb22 := NB634_624.out; have hnc22 := NB624_634.out; have hnb23 := NB634_629.out; have hnc23 := NB629_634.out; have hcz24_0 := bc BK634 0 (.slice none 0 0); have hfz24_0 := blk_frozen BK634.out 0) | ((with_reducible refine gate_callee (f := 29) rfl ?_); refine gl (some 35) Try.func29 #[.slice A0 l0.length c0] ?_; (with_reducible refine (spec_DrawScaledElements.calls k _ _ l0 t635 t638 t639 _ ?side1 ?side2 A7.out).mono ?_); (case side1 => exact Kd.C_below HR0.out bw); (case side2 => exact HC0.out); rintro e w25 ⟨v636, rfl, ho0, hb⟩; refine ⟨_, rfl, ?_⟩; have HO637 := Aside0.mk (Kd.Q_lower (Kd.Q_new' (Kd.Q_new' (Kd.Q_new' ho0 (Kd.Q_lt (by (with_reducible repeat (first | apply Kd.Q_alloc | apply Kd.Q_drewN | apply Kd.Q_drew)); exact (Kd.Q_mono (Kd.Q_far (p := ⟨gb634, 0, none⟩) (Kd.Q_types HO622.out BK634.out (by decide)) (fun _ hk => hk.2) (.slice Ao21 t630.length co21)) (fun _ h_ => h_.1))))) (Kd.R_lt (by (with_reducible repeat (first | apply Kd.R_alloc | apply Kd.R_drewN | apply Kd.R_drew)); exact (Kd.R_mono (Kd.R_far (p := ⟨gb634, 0, none⟩) (Kd.R_types HO627.out BK634.out (by decide)) (fun _ hk => hk.2) (.slice Ao21 t630.length co21)) (fun _ h_ => h_.1))))) (Kd.R_lt (by (with_reducible repeat (first | apply Kd.R_alloc | apply Kd.R_drewN | apply Kd.R_drew)); exact (Kd.R_mono (Kd.R_far (p := ⟨gb634, 0, none⟩) (Kd.R_types HO632.out BK634.out (by decide)) (fun _ hk => hk.2) (.slice Ao21 t630.length co21)) (fun _ h_ => h_.1))))) (below_size bw)); replace HO622 := Aside0.mk (Kd.Q_elder' (by (with_reducible repeat (first | apply Kd.Q_alloc | apply Kd.Q_drewN | apply Kd.Q_drew)); exact (Kd.Q_mono (Kd.Q_far (p := ⟨gb634, 0, none⟩) (Kd.Q_types HO622.out BK634.out (by decide)) (fun _ hk => hk.2) (.slice Ao21 t630.length co21)) (fun _ h_ => h_.1))) (Kd.Q_base ho0) hb); replace HO627 := Aside0.mk (Kd.R_elder' (by (with_reducible repeat (first | apply Kd.R_alloc | apply Kd.R_drewN | apply Kd.R_drew)); exact (Kd.R_mono (Kd.R_far (p := ⟨gb634, 0, none⟩) (Kd.R_types HO627.out BK634.out (by decide)) (fun _ hk => hk.2) (.slice Ao21 t630.length co21)) (fun _ h_ => h_.1))) (Kd.Q_base ho0) hb); replace HO632 := Aside0.mk (Kd.R_elder' (by (with_reducible repeat (first | apply Kd.R_alloc | apply Kd.R_drewN | apply Kd.R_drew)); exact (Kd.R_mono (Kd.R_far (p := ⟨gb634, 0, none⟩) (Kd.R_types HO632.out BK634.out (by decide)) (fun _ hk => hk.2) (.slice Ao21 t630.length co21)) (fun _ h_ => h_.1))) (Kd.Q_base ho0) hb); replace BK624 := Aside0.mk (blk_below (g := gb624) (o := .cells #[.slice Ao11 t620.length co11] 26 (0, 0)) (by (with_reducible repeat (first | refine blk_drewN ?_ _ | refine blk_drew ?_ | refine blk_alloc ?_ _)); refine blk_far ?_ NB624_634.out _; (with_reducible repeat (first | refine blk_drewN ?_ _ | refine blk_drew ?_ | refine blk_alloc ?_ _)); exact BK624.out) hb); replace BK629 := Aside0.mk (blk_below (g := gb629) (o := .cells #[.slice Ao15 t625.length co15] 26 (0, 0)) (by (with_reducible repeat (first | refine blk_drewN ?_ _ | refine blk_drew ?_ | refine blk_alloc ?_ _)); refine blk_far ?_ NB629_634.out _; (with_reducible repeat (first | refine blk_drewN ?_ _ | refine blk_drew ?_ | refine blk_alloc ?_ _)); exact BK629.out) hb); replace BK634 := Aside0.mk (blk_below (g := gb634) (o := .cells #[.slice Ao21 t630.length co21] 26 (0, 0)) (by (with_reducible repeat (first | refine blk_drewN ?_ _ | refine blk_drew ?_ | refine blk_alloc ?_ _)); refine blk_put (cs := #[.slice none 0 0]) ?_ 0 _ rfl; (with_reducible repeat (first | refine blk_drewN ?_ _ | refine blk_drew ?_ | refine blk_alloc ?_ _)); exact BK634.out) hb); replace HB := Aside0.mk (below_step bw hb); clear hb ho0) | ((with_reducible refine gate_dst (N := 9) rfl ?_); refine bx 9 #[.slice none 0 0] 26 ?_; intro gb640 hg w26 hbox hb; replace HO622 := Aside0.mk (Kd.Q_below (by (with_reducible repeat (first | apply Kd.Q_alloc | apply Kd.Q_drewN | apply Kd.Q_drew)); exact HO622.out) hb); replace HO627 := Aside0.mk (Kd.R_below (ro HO627.out) hb); replace HO632 := Aside0.mk (Kd.R_below (ro HO632.out) hb); replace HO637 := Aside0.mk (Kd.Q_below (by (with_reducible repeat (first | apply Kd.Q_alloc | apply Kd.Q_drewN | apply Kd.Q_drew)); exact HO637.out) hb); have BK640 := Aside0.mk (hbox); have GW640 := Aside0.mk (gs hg : w.heap.size ≤ gb640); have GE640 := Aside0.mk (gs hg : w.heap.size ≤ gb640); replace HB := Aside0.mk (below_step bw hb); have NB624_640 := Aside0.mk ((by rw [hg]; exact Nat.ne_of_lt (blk_lt (g := gb624) (o := .cells #[.slice Ao11 t620.length co11] 26 (0, 0)) (bo BK624.out)) : gb624 ≠ gb640)); have NB640_624 := Aside0.mk ((by rw [hg]; exact Nat.ne_of_gt (blk_lt (g := gb624) (o := .cells #[.slice Ao11 t620.length co11] 26 (0, 0)) (bo BK624.out)) : gb640 ≠ gb624)); replace BK624 := Aside0.mk (blk_below (g := gb624) (o := .cells #[.slice Ao11 t620.length co11] 26 (0, 0)) (bo BK624.out) hb); have NB629_640 := Aside0.mk ((by rw [hg]; exact Nat.ne_of_lt (blk_lt (g := gb629) (o := .cells #[.slice Ao15 t625.length co15] 26 (0, 0)) (bo BK629.out)) : gb629 ≠ gb640)); have NB640_629 := Aside0.mk ((by rw [hg]; exact Nat.ne_of_gt (blk_lt (g := gb629) (o := .cells #[.slice Ao15 t625.length co15] 26 (0, 0)) (bo BK629.out)) : gb640 ≠ gb629)); replace BK629 := Aside0.mk (blk_below (g := gb629) (o := .cells #[.slice Ao15 t625.length co15] 26 (0, 0)) (bo BK629.out) hb); have NB634_640 := Aside0.mk ((by rw [hg]; exact Nat.ne_of_lt (blk_lt (g := gb634) (o := .cells #[.slice Ao21 t630.length co21] 26 (0, 0)) (bo BK634.out)) : gb634 ≠ gb640)); have NB640_634 := Aside0.mk ((by rw [hg]; exact Nat.ne_of_gt (blk_lt (g := gb634) (o := .cells #[.slice Ao21 t630.length co21] 26 (0, 0)) (bo BK634.out)) : gb640 ≠ gb634)); replace BK634 := Aside0.mk (blk_below (g := gb634) (o := .cells #[.slice Ao21 t630.length co21] 26 (0, 0)) (bo BK634.out) hb); clear hb hbox hg; obtain ⟨Ao27, co27, eo27, _⟩ := Kd.Q_slice HO637.out; subst eo27; have hnb28 := NB640_624.out; have hnc28 := NB624_640.out; have hnb29 := NB640_629.out; have hnc29 := NB629_640.out; have hnb30 := NB640_634.out; have hnc30 := NB634_640.out; have hcz31_0 := bc BK640 0 (.slice none 0 0); have hfz31_0 := blk_frozen BK640.out 0))
  (try simp only [Act.put, List.setIfInBounds_toArray, List.set_cons_zero, List.set_cons_succ])
  go_cut [59] (fun v59 wc => ∃ (kq : Nat) (x59_7 : Bool), v59 = .bool x59_7 ∧ Aside0 (laws_FnQuotients.j0 kq t623 t628 x59_7 t620 t625 = some true) ∧ Aside0 (kq ≤ k) ∧ Aside0 (Kd.Q (Kd.int .i64) 3 wc w.heap.size (fun k_ => some k_ ≠ ((.slice Ao15 t625.length co15) : Value).ownBlock ∧ some k_ ≠ ((.slice Ao21 t630.length co21) : Value).ownBlock ∧ some k_ ≠ ((.slice Ao27 t635.length co27) : Value).ownBlock) (.slice Ao11 t620.length co11) t620) ∧ Aside0 (Kd.Q (Kd.int .i64) 3 wc w.heap.size (fun k_ => some k_ ≠ ((.slice Ao11 t620.length co11) : Value).ownBlock ∧ some k_ ≠ ((.slice Ao21 t630.length co21) : Value).ownBlock ∧ some k_ ≠ ((.slice Ao27 t635.length co27) : Value).ownBlock) (.slice Ao15 t625.length co15) t625) ∧ Aside0 (Kd.Q (Kd.int .i64) 3 wc w.heap.size (fun k_ => some k_ ≠ ((.slice Ao11 t620.length co11) : Value).ownBlock ∧ some k_ ≠ ((.slice Ao15 t625.length co15) : Value).ownBlock ∧ some k_ ≠ ((.slice Ao27 t635.length co27) : Value).ownBlock) (.slice Ao21 t630.length co21) t630) ∧ Aside0 (Kd.Q (Kd.int .i64) 3 wc w.heap.size (fun k_ => some k_ ≠ ((.slice Ao11 t620.length co11) : Value).ownBlock ∧ some k_ ≠ ((.slice Ao15 t625.length co15) : Value).ownBlock ∧ some k_ ≠ ((.slice Ao21 t630.length co21) : Value).ownBlock) (.slice Ao27 t635.length co27) t635) ∧ Aside0 (wc.heap[gb624]? = some (.cells #[(.slice Ao11 t620.length co11)] 26 (0, 0))) ∧ Aside0 (wc.heap[gb629]? = some (.cells #[(.slice Ao15 t625.length co15)] 26 (0, 0))) ∧ Aside0 (wc.heap[gb634]? = some (.cells #[(.slice Ao21 t630.length co21)] 26 (0, 0))) ∧ Aside0 (wc.heap[gb640]? = some (.cells #[(.slice Ao27 t635.length co27)] 26 (0, 0))) ∧ Aside0 (Below w.heap.size w wc))
  case first =>
   have H := HC8.out
   clear HC8
   by_cases c32 : (t628 != t633) = true
   ·rw [if_pos c32] at H
    have c32b0 : (t628 != t633) = true := c32
    (try (have c32b1 : decide (t628 = t633) = false := by simpa using c32))
    (try (have c32b2 : (t628 == t633) = false := by simpa using c32))
    (try (have c32b3 : ¬ (t628 = t633) := by simpa using c32))
    clear c32
    (first | rw [c32b0] | (simp only [i64_w, i32_w]; rw [c32b0]) | skip)
    have H' := Aside0.mk H
    clear H
    try go_wp2
    have n0_ : Aside0 (Kd.Q (Kd.int .i64) 3 (w26.setCell ⟨gb640, 0, none⟩ (.slice Ao27 t635.length co27)) w.heap.size (fun k_ => some k_ ≠ (.slice Ao15 t625.length co15 : Value).ownBlock ∧ some k_ ≠ (.slice Ao21 t630.length co21 : Value).ownBlock ∧ some k_ ≠ (.slice Ao27 t635.length co27 : Value).ownBlock) (.slice Ao11 t620.length co11) t620) := ⟨by (with_reducible repeat (first | apply Kd.Q_alloc | apply Kd.Q_drewN | apply Kd.Q_drew)); exact Kd.Q_mono (Kd.Q_far (p := ⟨gb640, 0, none⟩) (Kd.Q_types HO622.out BK640.out (by decide)) (fun _ hk => hk.2) (.slice Ao27 t635.length co27)) (fun _ hk => ⟨hk.1.1.1.2, ⟨hk.1.1.2, hk.1.2⟩⟩)⟩
    have n1_ : Aside0 (Kd.R (Kd.int .i64) 3 (w26.setCell ⟨gb640, 0, none⟩ (.slice Ao27 t635.length co27)) w.heap.size (fun k_ => some k_ ≠ (.slice Ao11 t620.length co11 : Value).ownBlock ∧ some k_ ≠ (.slice Ao21 t630.length co21 : Value).ownBlock ∧ some k_ ≠ (.slice Ao27 t635.length co27 : Value).ownBlock) (.slice Ao15 t625.length co15) t625) := ⟨by (with_reducible repeat (first | apply Kd.R_alloc | apply Kd.R_drewN | apply Kd.R_drew)); exact Kd.R_mono (Kd.R_far (p := ⟨gb640, 0, none⟩) (Kd.R_types HO627.out BK640.out (by decide)) (fun _ hk => hk.2) (.slice Ao27 t635.length co27)) (fun _ hk => ⟨hk.1.1.1.2, ⟨hk.1.1.2, hk.1.2⟩⟩)⟩
    have n2_ : Aside0 (Kd.R (Kd.int .i64) 3 (w26.setCell ⟨gb640, 0, none⟩ (.slice Ao27 t635.length co27)) w.heap.size (fun k_ => some k_ ≠ (.slice Ao11 t620.length co11 : Value).ownBlock ∧ some k_ ≠ (.slice Ao15 t625.length co15 : Value).ownBlock ∧ some k_ ≠ (.slice Ao27 t635.length co27 : Value).ownBlock) (.slice Ao21 t630.length co21) t630) := ⟨by (with_reducible repeat (first | apply Kd.R_alloc | apply Kd.R_drewN | apply Kd.R_drew)); exact Kd.R_mono (Kd.R_far (p := ⟨gb640, 0, none⟩) (Kd.R_types HO632.out BK640.out (by decide)) (fun _ hk => hk.2) (.slice Ao27 t635.length co27)) (fun _ hk => ⟨hk.1.1.1.2, ⟨hk.1.1.2, hk.1.2⟩⟩)⟩
    have n3_ : Aside0 (Kd.Q (Kd.int .i64) 3 (w26.setCell ⟨gb640, 0, none⟩ (.slice Ao27 t635.length co27)) w.heap.size (fun k_ => some k_ ≠ (.slice Ao11 t620.length co11 : Value).ownBlock ∧ some k_ ≠ (.slice Ao15 t625.length co15 : Value).ownBlock ∧ some k_ ≠ (.slice Ao21 t630.length co21 : Value).ownBlock) (.slice Ao27 t635.length co27) t635) := ⟨by (with_reducible repeat (first | apply Kd.Q_alloc | apply Kd.Q_drewN | apply Kd.Q_drew)); exact Kd.Q_mono (Kd.Q_far (p := ⟨gb640, 0, none⟩) (Kd.Q_types HO637.out BK640.out (by decide)) (fun _ hk => hk.2) (.slice Ao27 t635.length co27)) (fun _ hk => ⟨hk.1.1.1.2, ⟨hk.1.1.2, hk.1.2⟩⟩)⟩
    have n4_ : Aside0 ((w26.setCell ⟨gb640, 0, none⟩ (.slice Ao27 t635.length co27)).heap[gb624]? = some (.cells #[.slice Ao11 t620.length co11] 26 (0, 0))) := ⟨by (with_reducible repeat (first | refine blk_drewN ?_ _ | refine blk_drew ?_ | refine blk_alloc ?_ _)); refine blk_far ?_ NB624_640.out _; (with_reducible repeat (first | refine blk_drewN ?_ _ | refine blk_drew ?_ | refine blk_alloc ?_ _)); exact BK624.out⟩
    have n5_ : Aside0 ((w26.setCell ⟨gb640, 0, none⟩ (.slice Ao27 t635.length co27)).heap[gb629]? = some (.cells #[.slice Ao15 t625.length co15] 26 (0, 0))) := ⟨by (with_reducible repeat (first | refine blk_drewN ?_ _ | refine blk_drew ?_ | refine blk_alloc ?_ _)); refine blk_far ?_ NB629_640.out _; (with_reducible repeat (first | refine blk_drewN ?_ _ | refine blk_drew ?_ | refine blk_alloc ?_ _)); exact BK629.out⟩
    have n6_ : Aside0 ((w26.setCell ⟨gb640, 0, none⟩ (.slice Ao27 t635.length co27)).heap[gb634]? = some (.cells #[.slice Ao21 t630.length co21] 26 (0, 0))) := ⟨by (with_reducible repeat (first | refine blk_drewN ?_ _ | refine blk_drew ?_ | refine blk_alloc ?_ _)); refine blk_far ?_ NB634_640.out _; (with_reducible repeat (first | refine blk_drewN ?_ _ | refine blk_drew ?_ | refine blk_alloc ?_ _)); exact BK634.out⟩
    have n7_ : Aside0 ((w26.setCell ⟨gb640, 0, none⟩ (.slice Ao27 t635.length co27)).heap[gb640]? = some (.cells #[.slice Ao27 t635.length co27] 26 (0, 0))) := ⟨by (with_reducible repeat (first | refine blk_drewN ?_ _ | refine blk_drew ?_ | refine blk_alloc ?_ _)); refine blk_put (cs := #[.slice none 0 0]) ?_ 0 _ rfl; (with_reducible repeat (first | refine blk_drewN ?_ _ | refine blk_drew ?_ | refine blk_alloc ?_ _)); exact BK640.out⟩
    have n8_ : Aside0 (Below w.heap.size w (w26.setCell ⟨gb640, 0, none⟩ (.slice Ao27 t635.length co27))) := ⟨bw⟩
    (try clear HO622)
    (try clear HO627)
    (try clear HO632)
    (try clear HO637)
    (try clear BK624)
    (try clear BK629)
    (try clear BK634)
    (try clear BK640)
    (try clear HB)
    generalize (w26.setCell ⟨gb640, 0, none⟩ (.slice Ao27 t635.length co27)) = w33 at n0_ n1_ n2_ n3_ n4_ n5_ n6_ n7_ n8_ ⊢
    have HO622 := n0_
    have HO627 := n1_
    have HO632 := n2_
    have HO637 := n3_
    have BK624 := n4_
    have BK629 := n5_
    have BK634 := n6_
    have BK640 := n7_
    have HB := n8_
    clear n0_ n1_ n2_ n3_ n4_ n5_ n6_ n7_ n8_
    replace HO622 := Aside0.mk (Kd.Q_drew HO622.out)
    replace HO627 := Aside0.mk (Kd.R_drew HO627.out)
    replace HO632 := Aside0.mk (Kd.R_drew HO632.out)
    replace HO637 := Aside0.mk (Kd.Q_drew HO637.out)
    replace BK624 := Aside0.mk (blk_drew BK624.out)
    replace BK629 := Aside0.mk (blk_drew BK629.out)
    replace BK634 := Aside0.mk (blk_drew BK634.out)
    replace BK640 := Aside0.mk (blk_drew BK640.out)
    replace HB := Aside0.mk (below_drew1 HB.out)
    refine start_ (n := 21) (S := fun w' => True) (ds := []) #[Z,Z,Z,Z,Z,Z,Z,Z,Z,Z,Z,Z,Z,Z,Z,Z,Z,Z,Z,Z,Z] (by kernel_rfl) rfl rfl trivial (fun hHeld => ?_); refine with_tabW laws_FnQuotients.tab7 laws_FnQuotients.bits7 (fun HT_ HW_ => ?_)
    generalize w33.drew = w34 at HO622 HO627 HO632 HO637 BK624 BK629 BK634 BK640 HB hHeld ⊢
    refine pa 0 (some 39) #[Y,Z,Z,Z,Z,Z,Z,Z,Z,Z,Z,Z,Z,Z,Z,Z,Z,Z,Z,Z,Z] HT_ ?_
    refine pa 1 (some 40) #[Y,Y,Z,Z,Z,Z,Z,Z,Z,Z,Z,Z,Z,Z,Z,Z,Z,Z,Z,Z,Z] HT_ ?_
    refine pa 2 (some 41) #[Y,Y,Y,Z,Z,Z,Z,Z,Z,Z,Z,Z,Z,Z,Z,Z,Z,Z,Z,Z,Z] HT_ ?_
    refine pa 3 (some 42) #[Y,Y,Y,Y,Z,Z,Z,Z,Z,Z,Z,Z,Z,Z,Z,Z,Z,Z,Z,Z,Z] HT_ ?_
    refine pu 4 (some 43) #[Y,Y,Y,Y,Y,Z,Z,Z,Z,Z,Z,Z,Z,Z,Z,Z,Z,Z,Z,Z,Z] HT_ ?_
    refine pu 5 (some 44) #[Y,Y,Y,Y,Y,Y,Z,Z,Z,Z,Z,Z,Z,Z,Z,Z,Z,Z,Z,Z,Z] HT_ ?_
    refine pu 6 (some 45) #[Y,Y,Y,Y,Y,Y,Y,Z,Z,Z,Z,Z,Z,Z,Z,Z,Z,Z,Z,Z,Z] HT_ ?_
    refine pu 7 (some 46) #[Y,Y,Y,Y,Y,Y,Y,Y,Z,Z,Z,Z,Z,Z,Z,Z,Z,Z,Z,Z,Z] HT_ ?_
    refine pa 8 (some 47) #[Y,Y,Y,Y,Y,Y,Y,Y,Y,Z,Z,Z,Z,Z,Z,Z,Z,Z,Z,Z,Z] HT_ ?_
    refine pa 9 (some 48) #[Y,Y,Y,Y,Y,Y,Y,Y,Y,Y,Z,Z,Z,Z,Z,Z,Z,Z,Z,Z,Z] HT_ ?_
    refine pu 10 (some 49) #[Y,Y,Y,Y,Y,Y,Y,Y,Y,Y,Y,Z,Z,Z,Z,Z,Z,Z,Z,Z,Z] HT_ ?_
    refine pu 11 (some 50) #[Y,Y,Y,Y,Y,Y,Y,Y,Y,Y,Y,Y,Z,Z,Z,Z,Z,Z,Z,Z,Z] HT_ ?_
    refine pu 12 (some 51) #[Y,Y,Y,Y,Y,Y,Y,Y,Y,Y,Y,Y,Y,Z,Z,Z,Z,Z,Z,Z,Z] HT_ ?_
    refine pu 13 (some 52) #[Y,Y,Y,Y,Y,Y,Y,Y,Y,Y,Y,Y,Y,Y,Z,Z,Z,Z,Z,Z,Z] HT_ ?_
    refine pu 14 (some 53) #[Y,Y,Y,Y,Y,Y,Y,Y,Y,Y,Y,Y,Y,Y,Y,Z,Z,Z,Z,Z,Z] HT_ ?_
    refine pu 15 (some 54) #[Y,Y,Y,Y,Y,Y,Y,Y,Y,Y,Y,Y,Y,Y,Y,Y,Z,Z,Z,Z,Z] HT_ ?_
    refine pu 16 (some 55) #[Y,Y,Y,Y,Y,Y,Y,Y,Y,Y,Y,Y,Y,Y,Y,Y,Y,Z,Z,Z,Z] HT_ ?_
    refine pu 17 (some 56) #[Y,Y,Y,Y,Y,Y,Y,Y,Y,Y,Y,Y,Y,Y,Y,Y,Y,Y,Z,Z,Z] HT_ ?_
    refine pu 18 (some 57) #[Y,Y,Y,Y,Y,Y,Y,Y,Y,Y,Y,Y,Y,Y,Y,Y,Y,Y,Y,Z,Z] HT_ ?_
    refine pu 19 (some 58) #[Y,Y,Y,Y,Y,Y,Y,Y,Y,Y,Y,Y,Y,Y,Y,Y,Y,Y,Y,Y,Z] HT_ ?_
    refine pa 20 (some 59) #[Y,Y,Y,Y,Y,Y,Y,Y,Y,Y,Y,Y,Y,Y,Y,Y,Y,Y,Y,Y,Y] HT_ ?_
    refine done_ (done_of HT_.out (by kernel_rfl)) ?_
    try go_wp2
    go_meet
    case rel => exact ⟨_, (true), rr, H', ⟨om⟩, ⟨by (with_reducible repeat (first | apply Kd.Q_alloc | apply Kd.Q_drewN | apply Kd.Q_drew)); exact HO622.out⟩, ⟨Kd.Q_of_R (ro HO627.out)⟩, ⟨Kd.Q_of_R (ro HO632.out)⟩, ⟨by (with_reducible repeat (first | apply Kd.Q_alloc | apply Kd.Q_drewN | apply Kd.Q_drew)); exact HO637.out⟩, ⟨bo BK624.out⟩, ⟨bo BK629.out⟩, ⟨bo BK634.out⟩, ⟨bo BK640.out⟩, ⟨bw⟩⟩
   ·rw [if_neg c32] at H
    have c32b0 : (t628 != t633) = false := by simpa using c32
    (try (have c32b1 : decide (t628 = t633) = true := by simpa using c32))
    (try (have c32b2 : (t628 == t633) = true := by simpa using c32))
    clear c32
    (first | rw [c32b0] | (simp only [i64_w, i32_w]; rw [c32b0]) | skip)
    replace H := ga H; obtain ⟨t641, A35, H⟩ := H
    replace H := gb H; obtain ⟨rfl, H⟩ | ⟨rfl, H⟩ := H
    ·replace H := ga H; obtain ⟨t642, A37, H⟩ := H
     replace H := ga H; obtain ⟨t645, A38, H⟩ := H
     replace H := ga H; obtain ⟨t648, A39, H⟩ := H
     have H' := Aside0.mk H
     clear H
     try go_wp2
     have n0_ : Aside0 (Kd.Q (Kd.int .i64) 3 (w26.setCell ⟨gb640, 0, none⟩ (.slice Ao27 t635.length co27)) w.heap.size (fun k_ => some k_ ≠ (.slice Ao15 t625.length co15 : Value).ownBlock ∧ some k_ ≠ (.slice Ao21 t630.length co21 : Value).ownBlock ∧ some k_ ≠ (.slice Ao27 t635.length co27 : Value).ownBlock) (.slice Ao11 t620.length co11) t620) := ⟨by (with_reducible repeat (first | apply Kd.Q_alloc | apply Kd.Q_drewN | apply Kd.Q_drew)); exact Kd.Q_mono (Kd.Q_far (p := ⟨gb640, 0, none⟩) (Kd.Q_types HO622.out BK640.out (by decide)) (fun _ hk => hk.2) (.slice Ao27 t635.length co27)) (fun _ hk => ⟨hk.1.1.1.2, ⟨hk.1.1.2, hk.1.2⟩⟩)⟩
     have n1_ : Aside0 (Kd.R (Kd.int .i64) 3 (w26.setCell ⟨gb640, 0, none⟩ (.slice Ao27 t635.length co27)) w.heap.size (fun k_ => some k_ ≠ (.slice Ao11 t620.length co11 : Value).ownBlock ∧ some k_ ≠ (.slice Ao21 t630.length co21 : Value).ownBlock ∧ some k_ ≠ (.slice Ao27 t635.length co27 : Value).ownBlock) (.slice Ao15 t625.length co15) t625) := ⟨by (with_reducible repeat (first | apply Kd.R_alloc | apply Kd.R_drewN | apply Kd.R_drew)); exact Kd.R_mono (Kd.R_far (p := ⟨gb640, 0, none⟩) (Kd.R_types HO627.out BK640.out (by decide)) (fun _ hk => hk.2) (.slice Ao27 t635.length co27)) (fun _ hk => ⟨hk.1.1.1.2, ⟨hk.1.1.2, hk.1.2⟩⟩)⟩
     have n2_ : Aside0 (Kd.R (Kd.int .i64) 3 (w26.setCell ⟨gb640, 0, none⟩ (.slice Ao27 t635.length co27)) w.heap.size (fun k_ => some k_ ≠ (.slice Ao11 t620.length co11 : Value).ownBlock ∧ some k_ ≠ (.slice Ao15 t625.length co15 : Value).ownBlock ∧ some k_ ≠ (.slice Ao27 t635.length co27 : Value).ownBlock) (.slice Ao21 t630.length co21) t630) := ⟨by (with_reducible repeat (first | apply Kd.R_alloc | apply Kd.R_drewN | apply Kd.R_drew)); exact Kd.R_mono (Kd.R_far (p := ⟨gb640, 0, none⟩) (Kd.R_types HO632.out BK640.out (by decide)) (fun _ hk => hk.2) (.slice Ao27 t635.length co27)) (fun _ hk => ⟨hk.1.1.1.2, ⟨hk.1.1.2, hk.1.2⟩⟩)⟩
     have n3_ : Aside0 (Kd.Q (Kd.int .i64) 3 (w26.setCell ⟨gb640, 0, none⟩ (.slice Ao27 t635.length co27)) w.heap.size (fun k_ => some k_ ≠ (.slice Ao11 t620.length co11 : Value).ownBlock ∧ some k_ ≠ (.slice Ao15 t625.length co15 : Value).ownBlock ∧ some k_ ≠ (.slice Ao21 t630.length co21 : Value).ownBlock) (.slice Ao27 t635.length co27) t635) := ⟨by (with_reducible repeat (first | apply Kd.Q_alloc | apply Kd.Q_drewN | apply Kd.Q_drew)); exact Kd.Q_mono (Kd.Q_far (p := ⟨gb640, 0, none⟩) (Kd.Q_types HO637.out BK640.out (by decide)) (fun _ hk => hk.2) (.slice Ao27 t635.length co27)) (fun _ hk => ⟨hk.1.1.1.2, ⟨hk.1.1.2, hk.1.2⟩⟩)⟩
     have n4_ : Aside0 ((w26.setCell ⟨gb640, 0, none⟩ (.slice Ao27 t635.length co27)).heap[gb624]? = some (.cells #[.slice Ao11 t620.length co11] 26 (0, 0))) := ⟨by (with_reducible repeat (first | refine blk_drewN ?_ _ | refine blk_drew ?_ | refine blk_alloc ?_ _)); refine blk_far ?_ NB624_640.out _; (with_reducible repeat (first | refine blk_drewN ?_ _ | refine blk_drew ?_ | refine blk_alloc ?_ _)); exact BK624.out⟩
     have n5_ : Aside0 ((w26.setCell ⟨gb640, 0, none⟩ (.slice Ao27 t635.length co27)).heap[gb629]? = some (.cells #[.slice Ao15 t625.length co15] 26 (0, 0))) := ⟨by (with_reducible repeat (first | refine blk_drewN ?_ _ | refine blk_drew ?_ | refine blk_alloc ?_ _)); refine blk_far ?_ NB629_640.out _; (with_reducible repeat (first | refine blk_drewN ?_ _ | refine blk_drew ?_ | refine blk_alloc ?_ _)); exact BK629.out⟩
     have n6_ : Aside0 ((w26.setCell ⟨gb640, 0, none⟩ (.slice Ao27 t635.length co27)).heap[gb634]? = some (.cells #[.slice Ao21 t630.length co21] 26 (0, 0))) := ⟨by (with_reducible repeat (first | refine blk_drewN ?_ _ | refine blk_drew ?_ | refine blk_alloc ?_ _)); refine blk_far ?_ NB634_640.out _; (with_reducible repeat (first | refine blk_drewN ?_ _ | refine blk_drew ?_ | refine blk_alloc ?_ _)); exact BK634.out⟩
     have n7_ : Aside0 ((w26.setCell ⟨gb640, 0, none⟩ (.slice Ao27 t635.length co27)).heap[gb640]? = some (.cells #[.slice Ao27 t635.length co27] 26 (0, 0))) := ⟨by (with_reducible repeat (first | refine blk_drewN ?_ _ | refine blk_drew ?_ | refine blk_alloc ?_ _)); refine blk_put (cs := #[.slice none 0 0]) ?_ 0 _ rfl; (with_reducible repeat (first | refine blk_drewN ?_ _ | refine blk_drew ?_ | refine blk_alloc ?_ _)); exact BK640.out⟩
     have n8_ : Aside0 (Below w.heap.size w (w26.setCell ⟨gb640, 0, none⟩ (.slice Ao27 t635.length co27))) := ⟨bw⟩
     (try clear HO622)
     (try clear HO627)
     (try clear HO632)
     (try clear HO637)
     (try clear BK624)
     (try clear BK629)
     (try clear BK634)
     (try clear BK640)
     (try clear HB)
     generalize (w26.setCell ⟨gb640, 0, none⟩ (.slice Ao27 t635.length co27)) = w40 at n0_ n1_ n2_ n3_ n4_ n5_ n6_ n7_ n8_ ⊢
     have HO622 := n0_
     have HO627 := n1_
     have HO632 := n2_
     have HO637 := n3_
     have BK624 := n4_
     have BK629 := n5_
     have BK634 := n6_
     have BK640 := n7_
     have HB := n8_
     clear n0_ n1_ n2_ n3_ n4_ n5_ n6_ n7_ n8_
     replace HO622 := Aside0.mk (Kd.Q_drew HO622.out)
     replace HO627 := Aside0.mk (Kd.R_drew HO627.out)
     replace HO632 := Aside0.mk (Kd.R_drew HO632.out)
     replace HO637 := Aside0.mk (Kd.Q_drew HO637.out)
     replace BK624 := Aside0.mk (blk_drew BK624.out)
     replace BK629 := Aside0.mk (blk_drew BK629.out)
     replace BK634 := Aside0.mk (blk_drew BK634.out)
     replace BK640 := Aside0.mk (blk_drew BK640.out)
     replace HB := Aside0.mk (below_drew1 HB.out)
     refine start_ (n := 21) (S := fun w' => w'.cell? ⟨gb629, 0, none⟩ = some (.slice Ao15 t625.length co15) ∧ w'.cell? ⟨gb634, 0, none⟩ = some (.slice Ao21 t630.length co21) ∧ w'.cell? ⟨gb640, 0, none⟩ = some (.slice Ao27 t635.length co27)) (ds := []) #[Z,Z,Z,Z,Z,Z,Z,Z,Z,Z,Z,Z,Z,Z,Z,Z,Z,Z,Z,Z,Z] (by kernel_rfl) rfl rfl ⟨(blk_cell BK629.out 0).trans rfl, (blk_cell BK634.out 0).trans rfl, (blk_cell BK640.out 0).trans rfl⟩ (fun hHeld => ?_); refine with_tabW laws_FnQuotients.tab7 laws_FnQuotients.bits7 (fun HT_ HW_ => ?_)
     generalize w40.drew = w41 at HO622 HO627 HO632 HO637 BK624 BK629 BK634 BK640 HB hHeld ⊢
     refine pa 0 (some 39) #[Y,Z,Z,Z,Z,Z,Z,Z,Z,Z,Z,Z,Z,Z,Z,Z,Z,Z,Z,Z,Z] HT_ ?_
     refine pa 1 (some 40) #[Y,Y,Z,Z,Z,Z,Z,Z,Z,Z,Z,Z,Z,Z,Z,Z,Z,Z,Z,Z,Z] HT_ ?_
     refine pa 2 (some 41) #[Y,Y,Y,Z,Z,Z,Z,Z,Z,Z,Z,Z,Z,Z,Z,Z,Z,Z,Z,Z,Z] HT_ ?_
     refine pa 3 (some 42) #[Y,Y,Y,Y,Z,Z,Z,Z,Z,Z,Z,Z,Z,Z,Z,Z,Z,Z,Z,Z,Z] HT_ ?_
     refine take_ (i := 4) (N := some 43) (v := ?_) (a' := ?_) #[Y,Y,Y,Y,Y,Z,Z,Z,Z,Z,Z,Z,Z,Z,Z,Z,Z,Z,Z,Z,Z] rfl rfl (take_ofW HT_.out HW_.out (by kernel_rfl)) (fun _ _ _ h => h) (Or.inl ⟨by rfl, ?_⟩) hHeld ?_ ?_
     rotate_left
     ·rintro w' ⟨s0, s1, s2⟩
      go_simp
      with_reducible rfl
     rotate_left
     ·simp only [Act.put, qa, qb, qc, i64_w, i32_w]
      rfl
     refine take_ (i := 5) (N := some 44) (v := ?_) (a' := ?_) #[Y,Y,Y,Y,Y,Y,Z,Z,Z,Z,Z,Z,Z,Z,Z,Z,Z,Z,Z,Z,Z] rfl rfl (take_ofW HT_.out HW_.out (by kernel_rfl)) (fun _ _ _ h => h) (Or.inl ⟨by rfl, ?_⟩) hHeld ?_ ?_
     rotate_left
     ·rintro w' ⟨s0, s1, s2⟩
      go_simp
      with_reducible rfl
     rotate_left
     ·simp only [Act.put, qa, qb, qc, i64_w, i32_w]
      rfl
     refine oa 6 (some 45) #[Y,Y,Y,Y,Y,Y,Y,Z,Z,Z,Z,Z,Z,Z,Z,Z,Z,Z,Z,Z,Z] HT_ (fun K hK => ?_)
     refine gm Try.func22 #[.agg #[.slice Ao15 t625.length co15], .agg #[.slice Ao21 t630.length co21]] ?_
     with_reducible refine (spec_EqualSemigroup.calls k _ _ t625 _ _ t630 true _ ?side1 ?side2 ?side3 ?side4 A35.out).mono ?_
     (case side1 => exact co (Kd.R_reads' HO627.out).2.2)
     (case side2 => exact (Kd.R_reads' HO627.out).2.1)
     (case side3 => exact co (Kd.R_reads' HO632.out).2.2)
     (case side4 => exact (Kd.R_reads' HO632.out).2.1)
     rintro e w42 ⟨rfl, hb⟩
     refine ⟨_, rfl, ?_⟩
     replace HO622 := Aside0.mk (Kd.Q_below (by (with_reducible repeat (first | apply Kd.Q_alloc | apply Kd.Q_drewN | apply Kd.Q_drew)); exact HO622.out) hb)
     replace HO627 := Aside0.mk (Kd.R_below (ro HO627.out) hb)
     replace HO632 := Aside0.mk (Kd.R_below (ro HO632.out) hb)
     replace HO637 := Aside0.mk (Kd.Q_below (by (with_reducible repeat (first | apply Kd.Q_alloc | apply Kd.Q_drewN | apply Kd.Q_drew)); exact HO637.out) hb)
     replace BK624 := Aside0.mk (blk_below (g := gb624) (o := .cells #[.slice Ao11 t620.length co11] 26 (0, 0)) (bo BK624.out) hb)
     replace BK629 := Aside0.mk (blk_below (g := gb629) (o := .cells #[.slice Ao15 t625.length co15] 26 (0, 0)) (bo BK629.out) hb)
     replace BK634 := Aside0.mk (blk_below (g := gb634) (o := .cells #[.slice Ao21 t630.length co21] 26 (0, 0)) (bo BK634.out) hb)
     replace BK640 := Aside0.mk (blk_below (g := gb640) (o := .cells #[.slice Ao27 t635.length co27] 26 (0, 0)) (bo BK640.out) hb)
     replace HB := Aside0.mk (below_step bw hb)
     clear hb
     refine hK.out _ _ ⟨(blk_cell BK629.out 0).trans rfl, (blk_cell BK634.out 0).trans rfl, (blk_cell BK640.out 0).trans rfl⟩ (fun hHeld => ?_)
     clear hK K
     refine norm_ (a' := ?_) ?_ ?_
     rotate_left
     ·show Act.put _ (some 45) _ = _
      simp only [Act.put, qa, qb, qc, i64_w, i32_w]
      rfl
     refine pa 7 (some 46) #[Y,Y,Y,Y,Y,Y,Y,Y,Z,Z,Z,Z,Z,Z,Z,Z,Z,Z,Z,Z,Z] HT_ ?_
     refine pa 8 (some 47) #[Y,Y,Y,Y,Y,Y,Y,Y,Y,Z,Z,Z,Z,Z,Z,Z,Z,Z,Z,Z,Z] HT_ ?_
     refine pa 9 (some 48) #[Y,Y,Y,Y,Y,Y,Y,Y,Y,Y,Z,Z,Z,Z,Z,Z,Z,Z,Z,Z,Z] HT_ ?_
     refine pa 11 (some 50) #[Y,Y,Y,Y,Y,Y,Y,Y,Y,Y,Z,Y,Z,Z,Z,Z,Z,Z,Z,Z,Z] HT_ ?_
     refine pa 12 (some 51) #[Y,Y,Y,Y,Y,Y,Y,Y,Y,Y,Z,Y,Y,Z,Z,Z,Z,Z,Z,Z,Z] HT_ ?_
     refine pa 15 (some 54) #[Y,Y,Y,Y,Y,Y,Y,Y,Y,Y,Z,Y,Y,Z,Z,Y,Z,Z,Z,Z,Z] HT_ ?_
     refine pa 16 (some 55) #[Y,Y,Y,Y,Y,Y,Y,Y,Y,Y,Z,Y,Y,Z,Z,Y,Y,Z,Z,Z,Z] HT_ ?_
     refine take_ (i := 10) (N := some 49) (v := ?_) (a' := ?_) #[Y,Y,Y,Y,Y,Y,Y,Y,Y,Y,Y,Y,Y,Z,Z,Y,Y,Z,Z,Z,Z] rfl rfl (take_ofW HT_.out HW_.out (by kernel_rfl)) (fun _ _ _ h => h) (Or.inl ⟨by rfl, ?_⟩) hHeld ?_ ?_
     rotate_left
     ·rintro w' ⟨s0, s1, s2⟩
      go_simp
      with_reducible rfl
     rotate_left
     ·simp only [Act.put, qa, qb, qc, i64_w, i32_w]
      rfl
     refine take_ (i := 14) (N := some 53) (v := ?_) (a' := ?_) #[Y,Y,Y,Y,Y,Y,Y,Y,Y,Y,Y,Y,Y,Z,Y,Y,Y,Z,Z,Z,Z] rfl rfl (take_ofW HT_.out HW_.out (by kernel_rfl)) (fun _ _ _ h => h) (Or.inl ⟨by rfl, ?_⟩) hHeld ?_ ?_
     rotate_left
     ·rintro w' ⟨s0, s1, s2⟩
      go_simp
      with_reducible rfl
     rotate_left
     ·simp only [Act.put, qa, qb, qc, i64_w, i32_w]
      rfl
     refine oa 13 (some 52) #[Y,Y,Y,Y,Y,Y,Y,Y,Y,Y,Y,Y,Y,Y,Y,Y,Y,Z,Z,Z,Z] HT_ (fun K hK => ?_)
     refine gm Try.func30 #[.agg #[.slice Ao27 t635.length co27], .int .i64 t638, .int .i64 t639] ?_
     with_reducible refine (impl_ScaledElements.calls k _ _ t635 t638 t639 t642 _ ?side1 ?side2 A37.out).mono ?_
     (case side1 => exact co (Kd.Q_reads' HO637.out).2.2)
     (case side2 => exact (Kd.Q_reads' HO637.out).2.1)
     rintro e w43 ⟨v643, rfl, ho0, hb⟩
     refine ⟨_, rfl, ?_⟩
     have HO644 := Aside0.mk (Kd.R_lower (Kd.R_new' (Kd.R_new' (Kd.R_new' (Kd.R_new' ho0 (Kd.Q_lt (by (with_reducible repeat (first | apply Kd.Q_alloc | apply Kd.Q_drewN | apply Kd.Q_drew)); exact HO622.out))) (Kd.R_lt (ro HO627.out))) (Kd.R_lt (ro HO632.out))) (Kd.Q_lt (by (with_reducible repeat (first | apply Kd.Q_alloc | apply Kd.Q_drewN | apply Kd.Q_drew)); exact HO637.out))) (below_size bw))
     replace HO622 := Aside0.mk (Kd.Q_elder' (by (with_reducible repeat (first | apply Kd.Q_alloc | apply Kd.Q_drewN | apply Kd.Q_drew)); exact HO622.out) (Kd.R_base ho0) hb)
     replace HO627 := Aside0.mk (Kd.R_elder' (ro HO627.out) (Kd.R_base ho0) hb)
     replace HO632 := Aside0.mk (Kd.R_elder' (ro HO632.out) (Kd.R_base ho0) hb)
     replace HO637 := Aside0.mk (Kd.Q_elder' (by (with_reducible repeat (first | apply Kd.Q_alloc | apply Kd.Q_drewN | apply Kd.Q_drew)); exact HO637.out) (Kd.R_base ho0) hb)
     replace BK624 := Aside0.mk (blk_below (g := gb624) (o := .cells #[.slice Ao11 t620.length co11] 26 (0, 0)) (bo BK624.out) hb)
     replace BK629 := Aside0.mk (blk_below (g := gb629) (o := .cells #[.slice Ao15 t625.length co15] 26 (0, 0)) (bo BK629.out) hb)
     replace BK634 := Aside0.mk (blk_below (g := gb634) (o := .cells #[.slice Ao21 t630.length co21] 26 (0, 0)) (bo BK634.out) hb)
     replace BK640 := Aside0.mk (blk_below (g := gb640) (o := .cells #[.slice Ao27 t635.length co27] 26 (0, 0)) (bo BK640.out) hb)
     replace HB := Aside0.mk (below_step bw hb)
     clear hb ho0
     refine hK.out _ _ ⟨(blk_cell BK629.out 0).trans rfl, (blk_cell BK634.out 0).trans rfl, (blk_cell BK640.out 0).trans rfl⟩ (fun hHeld => ?_)
     clear hK K
     refine norm_ (a' := ?_) ?_ ?_
     rotate_left
     ·show Act.put _ (some 52) _ = _
      simp only [Act.put, qa, qb, qc, i64_w, i32_w]
      rfl
     refine oa 17 (some 56) #[Y,Y,Y,Y,Y,Y,Y,Y,Y,Y,Y,Y,Y,Y,Y,Y,Y,Y,Z,Z,Z] HT_ (fun K hK => ?_)
     refine gm Try.func31 #[.agg #[.slice Ao27 t635.length co27], .int .i64 t638, .int .i64 t639] ?_
     with_reducible refine (spec_ScaledElements.calls k _ _ t635 t638 t639 t645 _ ?side1 ?side2 A38.out).mono ?_
     (case side1 => exact co (Kd.Q_reads' HO637.out).2.2)
     (case side2 => exact (Kd.Q_reads' HO637.out).2.1)
     rintro e w44 ⟨v646, rfl, ho0, hb⟩
     refine ⟨_, rfl, ?_⟩
     have HO647 := Aside0.mk (Kd.R_lower (Kd.R_new' (Kd.R_new' (Kd.R_new' (Kd.R_new' (Kd.R_new' ho0 (Kd.Q_lt (by (with_reducible repeat (first | apply Kd.Q_alloc | apply Kd.Q_drewN | apply Kd.Q_drew)); exact HO622.out))) (Kd.R_lt (ro HO627.out))) (Kd.R_lt (ro HO632.out))) (Kd.Q_lt (by (with_reducible repeat (first | apply Kd.Q_alloc | apply Kd.Q_drewN | apply Kd.Q_drew)); exact HO637.out))) (Kd.R_lt (ro HO644.out))) (below_size bw))
     replace HO622 := Aside0.mk (Kd.Q_elder' (by (with_reducible repeat (first | apply Kd.Q_alloc | apply Kd.Q_drewN | apply Kd.Q_drew)); exact HO622.out) (Kd.R_base ho0) hb)
     replace HO627 := Aside0.mk (Kd.R_elder' (ro HO627.out) (Kd.R_base ho0) hb)
     replace HO632 := Aside0.mk (Kd.R_elder' (ro HO632.out) (Kd.R_base ho0) hb)
     replace HO637 := Aside0.mk (Kd.Q_elder' (by (with_reducible repeat (first | apply Kd.Q_alloc | apply Kd.Q_drewN | apply Kd.Q_drew)); exact HO637.out) (Kd.R_base ho0) hb)
     replace HO644 := Aside0.mk (Kd.R_elder' (ro HO644.out) (Kd.R_base ho0) hb)
     replace BK624 := Aside0.mk (blk_below (g := gb624) (o := .cells #[.slice Ao11 t620.length co11] 26 (0, 0)) (bo BK624.out) hb)
     replace BK629 := Aside0.mk (blk_below (g := gb629) (o := .cells #[.slice Ao15 t625.length co15] 26 (0, 0)) (bo BK629.out) hb)
     replace BK634 := Aside0.mk (blk_below (g := gb634) (o := .cells #[.slice Ao21 t630.length co21] 26 (0, 0)) (bo BK634.out) hb)
     replace BK640 := Aside0.mk (blk_below (g := gb640) (o := .cells #[.slice Ao27 t635.length co27] 26 (0, 0)) (bo BK640.out) hb)
     replace HB := Aside0.mk (below_step bw hb)
     clear hb ho0
     obtain ⟨Ao45, co45, eo45⟩ := Kd.R_slice HO644.out
     (first | subst eo45 | (injection eo45 with f1_ f2_ f3_; have f4_ := f1_.symm; have f5_ := f3_.symm; clear f1_ f2_ f3_; subst f4_; subst f5_))
     obtain ⟨Ao46, co46, eo46⟩ := Kd.R_slice HO647.out
     (first | subst eo46 | (injection eo46 with f1_ f2_ f3_; have f4_ := f1_.symm; have f5_ := f3_.symm; clear f1_ f2_ f3_; subst f4_; subst f5_))
     refine hK.out _ _ ⟨(blk_cell BK629.out 0).trans rfl, (blk_cell BK634.out 0).trans rfl, (blk_cell BK640.out 0).trans rfl⟩ (fun hHeld => ?_)
     clear hK K
     refine norm_ (a' := ?_) ?_ ?_
     rotate_left
     ·show Act.put _ (some 56) _ = _
      simp only [Act.put, qa, qb, qc, i64_w, i32_w]
      rfl
     refine oa 18 (some 57) #[Y,Y,Y,Y,Y,Y,Y,Y,Y,Y,Y,Y,Y,Y,Y,Y,Y,Y,Y,Z,Z] HT_ (fun K hK => ?_)
     refine gm Try.func20 #[.slice Ao45 t642.length co45, .slice Ao46 t645.length co46] ?_
     with_reducible refine (laws_sameInts.calls k _ _ t642 _ _ t645 t648 _ ?side1 ?side2 ?side3 ?side4 A39.out).mono ?_
     (case side1 => exact co (Kd.R_reads' HO644.out).2.2)
     (case side2 => exact (Kd.R_reads' HO644.out).2.1)
     (case side3 => exact co (Kd.R_reads' HO647.out).2.2)
     (case side4 => exact (Kd.R_reads' HO647.out).2.1)
     rintro e w' ⟨rfl, ⟨nd, rfl⟩⟩
     refine ⟨_, rfl, ?_⟩
     refine hK.out _ _ ⟨(blk_cell BK629.out 0).trans rfl, (blk_cell BK634.out 0).trans rfl, (blk_cell BK640.out 0).trans rfl⟩ (fun hHeld => ?_)
     clear hK K
     refine norm_ (a' := ?_) ?_ ?_
     rotate_left
     ·show Act.put _ (some 57) _ = _
      simp only [Act.put, qa, qb, qc, i64_w, i32_w]
      rfl
     refine pa 19 (some 58) #[Y,Y,Y,Y,Y,Y,Y,Y,Y,Y,Y,Y,Y,Y,Y,Y,Y,Y,Y,Y,Z] HT_ ?_
     refine pa 20 (some 59) #[Y,Y,Y,Y,Y,Y,Y,Y,Y,Y,Y,Y,Y,Y,Y,Y,Y,Y,Y,Y,Y] HT_ ?_
     refine done_ (done_of HT_.out (by kernel_rfl)) ?_
     try go_wp2
     go_meet
     case rel => exact ⟨_, (!t648), rr, H', ⟨om⟩, ⟨by (with_reducible repeat (first | apply Kd.Q_alloc | apply Kd.Q_drewN | apply Kd.Q_drew)); exact Kd.Q_mono HO622.out (fun _ hk => ⟨hk.1.1.1, ⟨hk.1.1.2.1, hk.1.1.2.2⟩⟩)⟩, ⟨Kd.Q_of_R (by (with_reducible repeat (first | apply Kd.R_alloc | apply Kd.R_drewN | apply Kd.R_drew)); exact Kd.R_mono HO627.out (fun _ hk => ⟨hk.1.1.1, ⟨hk.1.1.2.1, hk.1.1.2.2⟩⟩))⟩, ⟨Kd.Q_of_R (by (with_reducible repeat (first | apply Kd.R_alloc | apply Kd.R_drewN | apply Kd.R_drew)); exact Kd.R_mono HO632.out (fun _ hk => ⟨hk.1.1.1, ⟨hk.1.1.2.1, hk.1.1.2.2⟩⟩))⟩, ⟨by (with_reducible repeat (first | apply Kd.Q_alloc | apply Kd.Q_drewN | apply Kd.Q_drew)); exact Kd.Q_mono HO637.out (fun _ hk => ⟨hk.1.1.1, ⟨hk.1.1.2.1, hk.1.1.2.2⟩⟩)⟩, ⟨bo BK624.out⟩, ⟨bo BK629.out⟩, ⟨bo BK634.out⟩, ⟨bo BK640.out⟩, ⟨bw⟩⟩
    ·have H' := Aside0.mk H
     clear H
     try go_wp2
     have n0_ : Aside0 (Kd.Q (Kd.int .i64) 3 (w26.setCell ⟨gb640, 0, none⟩ (.slice Ao27 t635.length co27)) w.heap.size (fun k_ => some k_ ≠ (.slice Ao15 t625.length co15 : Value).ownBlock ∧ some k_ ≠ (.slice Ao21 t630.length co21 : Value).ownBlock ∧ some k_ ≠ (.slice Ao27 t635.length co27 : Value).ownBlock) (.slice Ao11 t620.length co11) t620) := ⟨by (with_reducible repeat (first | apply Kd.Q_alloc | apply Kd.Q_drewN | apply Kd.Q_drew)); exact Kd.Q_mono (Kd.Q_far (p := ⟨gb640, 0, none⟩) (Kd.Q_types HO622.out BK640.out (by decide)) (fun _ hk => hk.2) (.slice Ao27 t635.length co27)) (fun _ hk => ⟨hk.1.1.1.2, ⟨hk.1.1.2, hk.1.2⟩⟩)⟩
     have n1_ : Aside0 (Kd.R (Kd.int .i64) 3 (w26.setCell ⟨gb640, 0, none⟩ (.slice Ao27 t635.length co27)) w.heap.size (fun k_ => some k_ ≠ (.slice Ao11 t620.length co11 : Value).ownBlock ∧ some k_ ≠ (.slice Ao21 t630.length co21 : Value).ownBlock ∧ some k_ ≠ (.slice Ao27 t635.length co27 : Value).ownBlock) (.slice Ao15 t625.length co15) t625) := ⟨by (with_reducible repeat (first | apply Kd.R_alloc | apply Kd.R_drewN | apply Kd.R_drew)); exact Kd.R_mono (Kd.R_far (p := ⟨gb640, 0, none⟩) (Kd.R_types HO627.out BK640.out (by decide)) (fun _ hk => hk.2) (.slice Ao27 t635.length co27)) (fun _ hk => ⟨hk.1.1.1.2, ⟨hk.1.1.2, hk.1.2⟩⟩)⟩
     have n2_ : Aside0 (Kd.R (Kd.int .i64) 3 (w26.setCell ⟨gb640, 0, none⟩ (.slice Ao27 t635.length co27)) w.heap.size (fun k_ => some k_ ≠ (.slice Ao11 t620.length co11 : Value).ownBlock ∧ some k_ ≠ (.slice Ao15 t625.length co15 : Value).ownBlock ∧ some k_ ≠ (.slice Ao27 t635.length co27 : Value).ownBlock) (.slice Ao21 t630.length co21) t630) := ⟨by (with_reducible repeat (first | apply Kd.R_alloc | apply Kd.R_drewN | apply Kd.R_drew)); exact Kd.R_mono (Kd.R_far (p := ⟨gb640, 0, none⟩) (Kd.R_types HO632.out BK640.out (by decide)) (fun _ hk => hk.2) (.slice Ao27 t635.length co27)) (fun _ hk => ⟨hk.1.1.1.2, ⟨hk.1.1.2, hk.1.2⟩⟩)⟩
     have n3_ : Aside0 (Kd.Q (Kd.int .i64) 3 (w26.setCell ⟨gb640, 0, none⟩ (.slice Ao27 t635.length co27)) w.heap.size (fun k_ => some k_ ≠ (.slice Ao11 t620.length co11 : Value).ownBlock ∧ some k_ ≠ (.slice Ao15 t625.length co15 : Value).ownBlock ∧ some k_ ≠ (.slice Ao21 t630.length co21 : Value).ownBlock) (.slice Ao27 t635.length co27) t635) := ⟨by (with_reducible repeat (first | apply Kd.Q_alloc | apply Kd.Q_drewN | apply Kd.Q_drew)); exact Kd.Q_mono (Kd.Q_far (p := ⟨gb640, 0, none⟩) (Kd.Q_types HO637.out BK640.out (by decide)) (fun _ hk => hk.2) (.slice Ao27 t635.length co27)) (fun _ hk => ⟨hk.1.1.1.2, ⟨hk.1.1.2, hk.1.2⟩⟩)⟩
     have n4_ : Aside0 ((w26.setCell ⟨gb640, 0, none⟩ (.slice Ao27 t635.length co27)).heap[gb624]? = some (.cells #[.slice Ao11 t620.length co11] 26 (0, 0))) := ⟨by (with_reducible repeat (first | refine blk_drewN ?_ _ | refine blk_drew ?_ | refine blk_alloc ?_ _)); refine blk_far ?_ NB624_640.out _; (with_reducible repeat (first | refine blk_drewN ?_ _ | refine blk_drew ?_ | refine blk_alloc ?_ _)); exact BK624.out⟩
     have n5_ : Aside0 ((w26.setCell ⟨gb640, 0, none⟩ (.slice Ao27 t635.length co27)).heap[gb629]? = some (.cells #[.slice Ao15 t625.length co15] 26 (0, 0))) := ⟨by (with_reducible repeat (first | refine blk_drewN ?_ _ | refine blk_drew ?_ | refine blk_alloc ?_ _)); refine blk_far ?_ NB629_640.out _; (with_reducible repeat (first | refine blk_drewN ?_ _ | refine blk_drew ?_ | refine blk_alloc ?_ _)); exact BK629.out⟩
     have n6_ : Aside0 ((w26.setCell ⟨gb640, 0, none⟩ (.slice Ao27 t635.length co27)).heap[gb634]? = some (.cells #[.slice Ao21 t630.length co21] 26 (0, 0))) := ⟨by (with_reducible repeat (first | refine blk_drewN ?_ _ | refine blk_drew ?_ | refine blk_alloc ?_ _)); refine blk_far ?_ NB634_640.out _; (with_reducible repeat (first | refine blk_drewN ?_ _ | refine blk_drew ?_ | refine blk_alloc ?_ _)); exact BK634.out⟩
     have n7_ : Aside0 ((w26.setCell ⟨gb640, 0, none⟩ (.slice Ao27 t635.length co27)).heap[gb640]? = some (.cells #[.slice Ao27 t635.length co27] 26 (0, 0))) := ⟨by (with_reducible repeat (first | refine blk_drewN ?_ _ | refine blk_drew ?_ | refine blk_alloc ?_ _)); refine blk_put (cs := #[.slice none 0 0]) ?_ 0 _ rfl; (with_reducible repeat (first | refine blk_drewN ?_ _ | refine blk_drew ?_ | refine blk_alloc ?_ _)); exact BK640.out⟩
     have n8_ : Aside0 (Below w.heap.size w (w26.setCell ⟨gb640, 0, none⟩ (.slice Ao27 t635.length co27))) := ⟨bw⟩
     (try clear HO622)
     (try clear HO627)
     (try clear HO632)
     (try clear HO637)
     (try clear BK624)
     (try clear BK629)
     (try clear BK634)
     (try clear BK640)
     (try clear HB)
     generalize (w26.setCell ⟨gb640, 0, none⟩ (.slice Ao27 t635.length co27)) = w47 at n0_ n1_ n2_ n3_ n4_ n5_ n6_ n7_ n8_ ⊢
     have HO622 := n0_
     have HO627 := n1_
     have HO632 := n2_
     have HO637 := n3_
     have BK624 := n4_
     have BK629 := n5_
     have BK634 := n6_
     have BK640 := n7_
     have HB := n8_
     clear n0_ n1_ n2_ n3_ n4_ n5_ n6_ n7_ n8_
     replace HO622 := Aside0.mk (Kd.Q_drew HO622.out)
     replace HO627 := Aside0.mk (Kd.R_drew HO627.out)
     replace HO632 := Aside0.mk (Kd.R_drew HO632.out)
     replace HO637 := Aside0.mk (Kd.Q_drew HO637.out)
     replace BK624 := Aside0.mk (blk_drew BK624.out)
     replace BK629 := Aside0.mk (blk_drew BK629.out)
     replace BK634 := Aside0.mk (blk_drew BK634.out)
     replace BK640 := Aside0.mk (blk_drew BK640.out)
     replace HB := Aside0.mk (below_drew1 HB.out)
     refine start_ (n := 21) (S := fun w' => w'.cell? ⟨gb629, 0, none⟩ = some (.slice Ao15 t625.length co15) ∧ w'.cell? ⟨gb634, 0, none⟩ = some (.slice Ao21 t630.length co21)) (ds := []) #[Z,Z,Z,Z,Z,Z,Z,Z,Z,Z,Z,Z,Z,Z,Z,Z,Z,Z,Z,Z,Z] (by kernel_rfl) rfl rfl ⟨(blk_cell BK629.out 0).trans rfl, (blk_cell BK634.out 0).trans rfl⟩ (fun hHeld => ?_); refine with_tabW laws_FnQuotients.tab7 laws_FnQuotients.bits7 (fun HT_ HW_ => ?_)
     generalize w47.drew = w48 at HO622 HO627 HO632 HO637 BK624 BK629 BK634 BK640 HB hHeld ⊢
     refine pa 0 (some 39) #[Y,Z,Z,Z,Z,Z,Z,Z,Z,Z,Z,Z,Z,Z,Z,Z,Z,Z,Z,Z,Z] HT_ ?_
     refine pa 1 (some 40) #[Y,Y,Z,Z,Z,Z,Z,Z,Z,Z,Z,Z,Z,Z,Z,Z,Z,Z,Z,Z,Z] HT_ ?_
     refine pa 2 (some 41) #[Y,Y,Y,Z,Z,Z,Z,Z,Z,Z,Z,Z,Z,Z,Z,Z,Z,Z,Z,Z,Z] HT_ ?_
     refine pa 3 (some 42) #[Y,Y,Y,Y,Z,Z,Z,Z,Z,Z,Z,Z,Z,Z,Z,Z,Z,Z,Z,Z,Z] HT_ ?_
     refine take_ (i := 4) (N := some 43) (v := ?_) (a' := ?_) #[Y,Y,Y,Y,Y,Z,Z,Z,Z,Z,Z,Z,Z,Z,Z,Z,Z,Z,Z,Z,Z] rfl rfl (take_ofW HT_.out HW_.out (by kernel_rfl)) (fun _ _ _ h => h) (Or.inl ⟨by rfl, ?_⟩) hHeld ?_ ?_
     rotate_left
     ·rintro w' ⟨s0, s1⟩
      go_simp
      with_reducible rfl
     rotate_left
     ·simp only [Act.put, qa, qb, qc, i64_w, i32_w]
      rfl
     refine take_ (i := 5) (N := some 44) (v := ?_) (a' := ?_) #[Y,Y,Y,Y,Y,Y,Z,Z,Z,Z,Z,Z,Z,Z,Z,Z,Z,Z,Z,Z,Z] rfl rfl (take_ofW HT_.out HW_.out (by kernel_rfl)) (fun _ _ _ h => h) (Or.inl ⟨by rfl, ?_⟩) hHeld ?_ ?_
     rotate_left
     ·rintro w' ⟨s0, s1⟩
      go_simp
      with_reducible rfl
     rotate_left
     ·simp only [Act.put, qa, qb, qc, i64_w, i32_w]
      rfl
     refine oa 6 (some 45) #[Y,Y,Y,Y,Y,Y,Y,Z,Z,Z,Z,Z,Z,Z,Z,Z,Z,Z,Z,Z,Z] HT_ (fun K hK => ?_)
     refine gm Try.func22 #[.agg #[.slice Ao15 t625.length co15], .agg #[.slice Ao21 t630.length co21]] ?_
     with_reducible refine (spec_EqualSemigroup.calls k _ _ t625 _ _ t630 false _ ?side1 ?side2 ?side3 ?side4 A35.out).mono ?_
     (case side1 => exact co (Kd.R_reads' HO627.out).2.2)
     (case side2 => exact (Kd.R_reads' HO627.out).2.1)
     (case side3 => exact co (Kd.R_reads' HO632.out).2.2)
     (case side4 => exact (Kd.R_reads' HO632.out).2.1)
     rintro e w49 ⟨rfl, hb⟩
     refine ⟨_, rfl, ?_⟩
     replace HO622 := Aside0.mk (Kd.Q_below (by (with_reducible repeat (first | apply Kd.Q_alloc | apply Kd.Q_drewN | apply Kd.Q_drew)); exact HO622.out) hb)
     replace HO627 := Aside0.mk (Kd.R_below (ro HO627.out) hb)
     replace HO632 := Aside0.mk (Kd.R_below (ro HO632.out) hb)
     replace HO637 := Aside0.mk (Kd.Q_below (by (with_reducible repeat (first | apply Kd.Q_alloc | apply Kd.Q_drewN | apply Kd.Q_drew)); exact HO637.out) hb)
     replace BK624 := Aside0.mk (blk_below (g := gb624) (o := .cells #[.slice Ao11 t620.length co11] 26 (0, 0)) (bo BK624.out) hb)
     replace BK629 := Aside0.mk (blk_below (g := gb629) (o := .cells #[.slice Ao15 t625.length co15] 26 (0, 0)) (bo BK629.out) hb)
     replace BK634 := Aside0.mk (blk_below (g := gb634) (o := .cells #[.slice Ao21 t630.length co21] 26 (0, 0)) (bo BK634.out) hb)
     replace BK640 := Aside0.mk (blk_below (g := gb640) (o := .cells #[.slice Ao27 t635.length co27] 26 (0, 0)) (bo BK640.out) hb)
     replace HB := Aside0.mk (below_step bw hb)
     clear hb
     refine hK.out _ _ ⟨(blk_cell BK629.out 0).trans rfl, (blk_cell BK634.out 0).trans rfl⟩ (fun hHeld => ?_)
     clear hK K
     refine norm_ (a' := ?_) ?_ ?_
     rotate_left
     ·show Act.put _ (some 45) _ = _
      simp only [Act.put, qa, qb, qc, i64_w, i32_w]
      rfl
     refine pa 7 (some 46) #[Y,Y,Y,Y,Y,Y,Y,Y,Z,Z,Z,Z,Z,Z,Z,Z,Z,Z,Z,Z,Z] HT_ ?_
     refine pa 8 (some 47) #[Y,Y,Y,Y,Y,Y,Y,Y,Y,Z,Z,Z,Z,Z,Z,Z,Z,Z,Z,Z,Z] HT_ ?_
     refine pa 9 (some 48) #[Y,Y,Y,Y,Y,Y,Y,Y,Y,Y,Z,Z,Z,Z,Z,Z,Z,Z,Z,Z,Z] HT_ ?_
     refine pu 10 (some 49) #[Y,Y,Y,Y,Y,Y,Y,Y,Y,Y,Y,Z,Z,Z,Z,Z,Z,Z,Z,Z,Z] HT_ ?_
     refine pu 11 (some 50) #[Y,Y,Y,Y,Y,Y,Y,Y,Y,Y,Y,Y,Z,Z,Z,Z,Z,Z,Z,Z,Z] HT_ ?_
     refine pu 12 (some 51) #[Y,Y,Y,Y,Y,Y,Y,Y,Y,Y,Y,Y,Y,Z,Z,Z,Z,Z,Z,Z,Z] HT_ ?_
     refine pu 13 (some 52) #[Y,Y,Y,Y,Y,Y,Y,Y,Y,Y,Y,Y,Y,Y,Z,Z,Z,Z,Z,Z,Z] HT_ ?_
     refine pu 14 (some 53) #[Y,Y,Y,Y,Y,Y,Y,Y,Y,Y,Y,Y,Y,Y,Y,Z,Z,Z,Z,Z,Z] HT_ ?_
     refine pu 15 (some 54) #[Y,Y,Y,Y,Y,Y,Y,Y,Y,Y,Y,Y,Y,Y,Y,Y,Z,Z,Z,Z,Z] HT_ ?_
     refine pu 16 (some 55) #[Y,Y,Y,Y,Y,Y,Y,Y,Y,Y,Y,Y,Y,Y,Y,Y,Y,Z,Z,Z,Z] HT_ ?_
     refine pu 17 (some 56) #[Y,Y,Y,Y,Y,Y,Y,Y,Y,Y,Y,Y,Y,Y,Y,Y,Y,Y,Z,Z,Z] HT_ ?_
     refine pu 18 (some 57) #[Y,Y,Y,Y,Y,Y,Y,Y,Y,Y,Y,Y,Y,Y,Y,Y,Y,Y,Y,Z,Z] HT_ ?_
     refine pu 19 (some 58) #[Y,Y,Y,Y,Y,Y,Y,Y,Y,Y,Y,Y,Y,Y,Y,Y,Y,Y,Y,Y,Z] HT_ ?_
     refine pa 20 (some 59) #[Y,Y,Y,Y,Y,Y,Y,Y,Y,Y,Y,Y,Y,Y,Y,Y,Y,Y,Y,Y,Y] HT_ ?_
     refine done_ (done_of HT_.out (by kernel_rfl)) ?_
     try go_wp2
     go_meet
     case rel => exact ⟨_, (true), rr, H', ⟨om⟩, ⟨by (with_reducible repeat (first | apply Kd.Q_alloc | apply Kd.Q_drewN | apply Kd.Q_drew)); exact HO622.out⟩, ⟨Kd.Q_of_R (ro HO627.out)⟩, ⟨Kd.Q_of_R (ro HO632.out)⟩, ⟨by (with_reducible repeat (first | apply Kd.Q_alloc | apply Kd.Q_drewN | apply Kd.Q_drew)); exact HO637.out⟩, ⟨bo BK624.out⟩, ⟨bo BK629.out⟩, ⟨bo BK634.out⟩, ⟨bo BK640.out⟩, ⟨bw⟩⟩
  case rest =>
   clear HC8
   try clear c3
   obtain ⟨kq, x59_7, rfl, HA, HJ7, HO_625000, HO_630000, HO_635000, HO_641000, BK624, BK629, BK634, BK640, HB⟩ := hcut
   cases kq with
   | zero => exact absurd HA.out (by simp [laws_FnQuotients.j0])
   | succ kj7 =>
    have H := HA.out
    clear HA
    simp only [laws_FnQuotients.j0] at H
    replace H := gb H; obtain ⟨rfl, H⟩ | ⟨rfl, H⟩ := H
    ·exact absurd (Option.some.inj H) (by decide)
    ·have H' := Aside0.mk H
     clear H
     go_wp2
     go_loopg [12] kj7 (fun kq v12 w' => ∃ (x12_2 : Int), v12 = .int .i64 x12_2 ∧ Aside0 (laws_FnQuotients.l0 kq t623 t628 x12_2 t620 t625 = some true) ∧ Aside0 (kq ≤ kj7) ∧ Aside0 (Kd.Q (Kd.int .i64) 3 w' w.heap.size (fun k_ => some k_ ≠ ((.slice Ao15 t625.length co15) : Value).ownBlock ∧ some k_ ≠ ((.slice Ao21 t630.length co21) : Value).ownBlock ∧ some k_ ≠ ((.slice Ao27 t635.length co27) : Value).ownBlock) (.slice Ao11 t620.length co11) t620) ∧ Aside0 (Kd.Q (Kd.int .i64) 3 w' w.heap.size (fun k_ => some k_ ≠ ((.slice Ao11 t620.length co11) : Value).ownBlock ∧ some k_ ≠ ((.slice Ao21 t630.length co21) : Value).ownBlock ∧ some k_ ≠ ((.slice Ao27 t635.length co27) : Value).ownBlock) (.slice Ao15 t625.length co15) t625) ∧ Aside0 (Kd.Q (Kd.int .i64) 3 w' w.heap.size (fun k_ => some k_ ≠ ((.slice Ao11 t620.length co11) : Value).ownBlock ∧ some k_ ≠ ((.slice Ao15 t625.length co15) : Value).ownBlock ∧ some k_ ≠ ((.slice Ao27 t635.length co27) : Value).ownBlock) (.slice Ao21 t630.length co21) t630) ∧ Aside0 (Kd.Q (Kd.int .i64) 3 w' w.heap.size (fun k_ => some k_ ≠ ((.slice Ao11 t620.length co11) : Value).ownBlock ∧ some k_ ≠ ((.slice Ao15 t625.length co15) : Value).ownBlock ∧ some k_ ≠ ((.slice Ao21 t630.length co21) : Value).ownBlock) (.slice Ao27 t635.length co27) t635) ∧ Aside0 (w'.heap[gb624]? = some (.cells #[(.slice Ao11 t620.length co11)] 26 (0, 0))) ∧ Aside0 (w'.heap[gb629]? = some (.cells #[(.slice Ao15 t625.length co15)] 26 (0, 0))) ∧ Aside0 (w'.heap[gb634]? = some (.cells #[(.slice Ao21 t630.length co21)] 26 (0, 0))) ∧ Aside0 (w'.heap[gb640]? = some (.cells #[(.slice Ao27 t635.length co27)] 26 (0, 0))) ∧ Aside0 (Below w.heap.size w w'))
     case atStart => exact ⟨(0), rr, H', ⟨Nat.le_refl _⟩, ⟨by (with_reducible repeat (first | apply Kd.Q_alloc | apply Kd.Q_drewN | apply Kd.Q_drew)); exact HO_625000.out⟩, ⟨by (with_reducible repeat (first | apply Kd.Q_alloc | apply Kd.Q_drewN | apply Kd.Q_drew)); exact HO_630000.out⟩, ⟨by (with_reducible repeat (first | apply Kd.Q_alloc | apply Kd.Q_drewN | apply Kd.Q_drew)); exact HO_635000.out⟩, ⟨by (with_reducible repeat (first | apply Kd.Q_alloc | apply Kd.Q_drewN | apply Kd.Q_drew)); exact HO_641000.out⟩, ⟨bo BK624.out⟩, ⟨bo BK629.out⟩, ⟨bo BK634.out⟩, ⟨bo BK640.out⟩, ⟨bw⟩⟩
     case round =>
      clear H'
      try clear c3
      obtain ⟨x12_2, rfl, HA, HK2, HO_625000, HO_630000, HO_635000, HO_641000, BK624, BK629, BK634, BK640, HB⟩ := hrel
      cases gk with
      | zero => exact absurd HA.out (by simp [laws_FnQuotients.l0])
      | succ k2 =>
       have H := HA.out
       clear HA
       simp only [laws_FnQuotients.l0] at H
       have HC51 := Aside0.mk H
       clear H
       go_upto_region 10 with (fail)
       go_cut [64] (fun v64 wc => ∃ (kq : Nat) (x64_50 : Bool), v64 = .bool x64_50 ∧ Aside0 (laws_FnQuotients.j2 kq t623 t628 x12_2 x64_50 t620 t625 = some true) ∧ Aside0 (kq ≤ k2) ∧ Aside0 (Kd.Q (Kd.int .i64) 3 wc w.heap.size (fun k_ => some k_ ≠ ((.slice Ao15 t625.length co15) : Value).ownBlock ∧ some k_ ≠ ((.slice Ao21 t630.length co21) : Value).ownBlock ∧ some k_ ≠ ((.slice Ao27 t635.length co27) : Value).ownBlock) (.slice Ao11 t620.length co11) t620) ∧ Aside0 (Kd.Q (Kd.int .i64) 3 wc w.heap.size (fun k_ => some k_ ≠ ((.slice Ao11 t620.length co11) : Value).ownBlock ∧ some k_ ≠ ((.slice Ao21 t630.length co21) : Value).ownBlock ∧ some k_ ≠ ((.slice Ao27 t635.length co27) : Value).ownBlock) (.slice Ao15 t625.length co15) t625) ∧ Aside0 (Kd.Q (Kd.int .i64) 3 wc w.heap.size (fun k_ => some k_ ≠ ((.slice Ao11 t620.length co11) : Value).ownBlock ∧ some k_ ≠ ((.slice Ao15 t625.length co15) : Value).ownBlock ∧ some k_ ≠ ((.slice Ao27 t635.length co27) : Value).ownBlock) (.slice Ao21 t630.length co21) t630) ∧ Aside0 (Kd.Q (Kd.int .i64) 3 wc w.heap.size (fun k_ => some k_ ≠ ((.slice Ao11 t620.length co11) : Value).ownBlock ∧ some k_ ≠ ((.slice Ao15 t625.length co15) : Value).ownBlock ∧ some k_ ≠ ((.slice Ao21 t630.length co21) : Value).ownBlock) (.slice Ao27 t635.length co27) t635) ∧ Aside0 (wc.heap[gb624]? = some (.cells #[(.slice Ao11 t620.length co11)] 26 (0, 0))) ∧ Aside0 (wc.heap[gb629]? = some (.cells #[(.slice Ao15 t625.length co15)] 26 (0, 0))) ∧ Aside0 (wc.heap[gb634]? = some (.cells #[(.slice Ao21 t630.length co21)] 26 (0, 0))) ∧ Aside0 (wc.heap[gb640]? = some (.cells #[(.slice Ao27 t635.length co27)] 26 (0, 0))) ∧ Aside0 (Below w.heap.size w wc))
       case first =>
        have H := HC51.out
        clear HC51
        replace H := gi H; obtain ⟨c52b0, H⟩ | ⟨c52b0, H⟩ := H
        ·(first | rw [c52b0] | (simp only [i64_w, i32_w]; rw [c52b0]) | skip)
         have H' := Aside0.mk H
         clear H
         go_wp2
         go_meet
         case rel => exact ⟨_, (t628), rr, H', ⟨by have := HJ7.out; have := HK2.out; first | omega | exact Nat.le_refl _⟩, ⟨by (with_reducible repeat (first | apply Kd.Q_alloc | apply Kd.Q_drewN | apply Kd.Q_drew)); exact HO_625000.out⟩, ⟨by (with_reducible repeat (first | apply Kd.Q_alloc | apply Kd.Q_drewN | apply Kd.Q_drew)); exact HO_630000.out⟩, ⟨by (with_reducible repeat (first | apply Kd.Q_alloc | apply Kd.Q_drewN | apply Kd.Q_drew)); exact HO_635000.out⟩, ⟨by (with_reducible repeat (first | apply Kd.Q_alloc | apply Kd.Q_drewN | apply Kd.Q_drew)); exact HO_641000.out⟩, ⟨bo BK624.out⟩, ⟨bo BK629.out⟩, ⟨bo BK634.out⟩, ⟨bo BK640.out⟩, ⟨bw⟩⟩
        ·(first | rw [c52b0] | (simp only [i64_w, i32_w]; rw [c52b0]) | skip)
         have H' := Aside0.mk H
         clear H
         go_wp2
         go_meet
         case rel => exact ⟨_, (false), rr, H', ⟨by have := HJ7.out; have := HK2.out; first | omega | exact Nat.le_refl _⟩, ⟨by (with_reducible repeat (first | apply Kd.Q_alloc | apply Kd.Q_drewN | apply Kd.Q_drew)); exact HO_625000.out⟩, ⟨by (with_reducible repeat (first | apply Kd.Q_alloc | apply Kd.Q_drewN | apply Kd.Q_drew)); exact HO_630000.out⟩, ⟨by (with_reducible repeat (first | apply Kd.Q_alloc | apply Kd.Q_drewN | apply Kd.Q_drew)); exact HO_635000.out⟩, ⟨by (with_reducible repeat (first | apply Kd.Q_alloc | apply Kd.Q_drewN | apply Kd.Q_drew)); exact HO_641000.out⟩, ⟨bo BK624.out⟩, ⟨bo BK629.out⟩, ⟨bo BK634.out⟩, ⟨bo BK640.out⟩, ⟨bw⟩⟩
       case rest =>
        clear HC51
        try clear c3; try clear c52b0
        obtain ⟨kq, x64_50, rfl, HA, HJ50, HO_625000, HO_630000, HO_635000, HO_641000, BK624, BK629, BK634, BK640, HB⟩ := hcut
        cases kq with
        | zero => exact absurd HA.out (by simp [laws_FnQuotients.j2])
        | succ kj50 =>
         have H := HA.out
         clear HA
         simp only [laws_FnQuotients.j2] at H
         replace H := gb H; obtain ⟨rfl, H⟩ | ⟨rfl, H⟩ := H
         ·replace H := ga H; obtain ⟨t649, A54, H⟩ := H
          replace H := ga H; obtain ⟨t650, A55, H⟩ := H
          by_cases c56 : (t649 != t650) = true
          ·rw [if_pos c56] at H
           have c56b0 : (t649 != t650) = true := c56
           (try (have c56b1 : decide (t649 = t650) = false := by simpa using c56))
           (try (have c56b2 : (t649 == t650) = false := by simpa using c56))
           (try (have c56b3 : ¬ (t649 = t650) := by simpa using c56))
           clear c56
           exact absurd (Option.some.inj H) (by decide)
          ·rw [if_neg c56] at H
           have c56b0 : (t649 != t650) = false := by simpa using c56
           (try (have c56b1 : decide (t649 = t650) = true := by simpa using c56))
           (try (have c56b2 : (t649 == t650) = true := by simpa using c56))
           clear c56
           have H' := Aside0.mk H
           clear H
           try go_wp2
           replace HO_625000 := Aside0.mk (Kd.Q_drew HO_625000.out)
           replace HO_630000 := Aside0.mk (Kd.Q_drew HO_630000.out)
           replace HO_635000 := Aside0.mk (Kd.Q_drew HO_635000.out)
           replace HO_641000 := Aside0.mk (Kd.Q_drew HO_641000.out)
           replace BK624 := Aside0.mk (blk_drew BK624.out)
           replace BK629 := Aside0.mk (blk_drew BK629.out)
           replace BK634 := Aside0.mk (blk_drew BK634.out)
           replace BK640 := Aside0.mk (blk_drew BK640.out)
           replace HB := Aside0.mk (below_drew1 HB.out)
           refine start_ (n := 9) (S := fun w' => w'.cell? ⟨gb629, 0, none⟩ = some (.slice Ao15 t625.length co15) ∧ w'.cell? ⟨gb624, 0, none⟩ = some (.slice Ao11 t620.length co11)) (ds := []) #[Z,Z,Z,Z,Z,Z,Z,Z,Z] (by kernel_rfl) rfl rfl ⟨(blk_cell BK629.out 0).trans rfl, (blk_cell BK624.out 0).trans rfl⟩ (fun hHeld => ?_); refine with_tabW laws_FnQuotients.tab12 laws_FnQuotients.bits12 (fun HT_ HW_ => ?_)
           generalize wc.drew = w60 at HO_625000 HO_630000 HO_635000 HO_641000 BK624 BK629 BK634 BK640 HB hHeld ⊢
           refine pa 1 (some 68) #[Z,Y,Z,Z,Z,Z,Z,Z,Z] HT_ ?_
           refine pa 4 (some 71) #[Z,Y,Z,Z,Y,Z,Z,Z,Z] HT_ ?_
           refine pa 5 (some 72) #[Z,Y,Z,Z,Y,Y,Z,Z,Z] HT_ ?_
           refine pa 6 (some 73) #[Z,Y,Z,Z,Y,Y,Y,Z,Z] HT_ ?_
           refine take_ (i := 0) (N := some 67) (v := ?_) (a' := ?_) #[Y,Y,Z,Z,Y,Y,Y,Z,Z] rfl rfl (take_ofW HT_.out HW_.out (by kernel_rfl)) (fun _ _ _ h => h) (Or.inl ⟨by rfl, ?_⟩) hHeld ?_ ?_
           rotate_left
           ·rintro w' ⟨s0, s1⟩
            go_simp
            with_reducible rfl
           rotate_left
           ·simp only [Act.put, qa, qb, qc, i64_w, i32_w]
            rfl
           refine take_ (i := 3) (N := some 70) (v := ?_) (a' := ?_) #[Y,Y,Z,Y,Y,Y,Y,Z,Z] rfl rfl (take_ofW HT_.out HW_.out (by kernel_rfl)) (fun _ _ _ h => h) (Or.inl ⟨by rfl, ?_⟩) hHeld ?_ ?_
           rotate_left
           ·rintro w' ⟨s0, s1⟩
            go_simp
            with_reducible rfl
           rotate_left
           ·simp only [Act.put, qa, qb, qc, i64_w, i32_w]
            rfl
           refine oa 2 (some 69) #[Y,Y,Y,Y,Y,Y,Y,Z,Z] HT_ (fun K hK => ?_)
           refine gm Try.func32 #[.agg #[.slice Ao15 t625.length co15], .int .i64 x12_2] ?_
           with_reducible refine (impl_Contains.calls kj50 _ _ t625 x12_2 t649 _ ?side1 ?side2 A54.out).mono ?_
           (case side1 => exact co (Kd.Q_reads' HO_630000.out).2.2)
           (case side2 => exact (Kd.Q_reads' HO_630000.out).2.1)
           rintro e w61 ⟨rfl, hb⟩
           refine ⟨_, rfl, ?_⟩
           replace HO_625000 := Aside0.mk (Kd.Q_below (by (with_reducible repeat (first | apply Kd.Q_alloc | apply Kd.Q_drewN | apply Kd.Q_drew)); exact HO_625000.out) hb)
           replace HO_630000 := Aside0.mk (Kd.Q_below (by (with_reducible repeat (first | apply Kd.Q_alloc | apply Kd.Q_drewN | apply Kd.Q_drew)); exact HO_630000.out) hb)
           replace HO_635000 := Aside0.mk (Kd.Q_below (by (with_reducible repeat (first | apply Kd.Q_alloc | apply Kd.Q_drewN | apply Kd.Q_drew)); exact HO_635000.out) hb)
           replace HO_641000 := Aside0.mk (Kd.Q_below (by (with_reducible repeat (first | apply Kd.Q_alloc | apply Kd.Q_drewN | apply Kd.Q_drew)); exact HO_641000.out) hb)
           replace BK624 := Aside0.mk (blk_below (g := gb624) (o := .cells #[.slice Ao11 t620.length co11] 26 (0, 0)) (bo BK624.out) hb)
           replace BK629 := Aside0.mk (blk_below (g := gb629) (o := .cells #[.slice Ao15 t625.length co15] 26 (0, 0)) (bo BK629.out) hb)
           replace BK634 := Aside0.mk (blk_below (g := gb634) (o := .cells #[.slice Ao21 t630.length co21] 26 (0, 0)) (bo BK634.out) hb)
           replace BK640 := Aside0.mk (blk_below (g := gb640) (o := .cells #[.slice Ao27 t635.length co27] 26 (0, 0)) (bo BK640.out) hb)
           replace HB := Aside0.mk (below_step bw hb)
           clear hb
           refine hK.out _ _ ⟨(blk_cell BK629.out 0).trans rfl, (blk_cell BK624.out 0).trans rfl⟩ (fun hHeld => ?_)
           clear hK K
           refine norm_ (a' := ?_) ?_ ?_
           rotate_left
           ·show Act.put _ (some 69) _ = _
            simp only [Act.put, qa, qb, qc, i64_w, i32_w]
            rfl
           refine oa 7 (some 74) #[Y,Y,Y,Y,Y,Y,Y,Y,Z] HT_ (fun K hK => ?_)
           refine gm Try.func33 #[.agg #[.slice Ao11 t620.length co11], .int .i64 (wrap64 (x12_2 * t623))] ?_
           with_reducible refine (spec_Contains.calls kj50 _ _ t620 (wrap64 (x12_2 * t623)) t650 _ ?side1 ?side2 A55.out).mono ?_
           (case side1 => exact co (Kd.Q_reads' HO_625000.out).2.2)
           (case side2 => exact (Kd.Q_reads' HO_625000.out).2.1)
           rintro e w62 ⟨rfl, hb⟩
           refine ⟨_, rfl, ?_⟩
           replace HO_625000 := Aside0.mk (Kd.Q_below (by (with_reducible repeat (first | apply Kd.Q_alloc | apply Kd.Q_drewN | apply Kd.Q_drew)); exact HO_625000.out) hb)
           replace HO_630000 := Aside0.mk (Kd.Q_below (by (with_reducible repeat (first | apply Kd.Q_alloc | apply Kd.Q_drewN | apply Kd.Q_drew)); exact HO_630000.out) hb)
           replace HO_635000 := Aside0.mk (Kd.Q_below (by (with_reducible repeat (first | apply Kd.Q_alloc | apply Kd.Q_drewN | apply Kd.Q_drew)); exact HO_635000.out) hb)
           replace HO_641000 := Aside0.mk (Kd.Q_below (by (with_reducible repeat (first | apply Kd.Q_alloc | apply Kd.Q_drewN | apply Kd.Q_drew)); exact HO_641000.out) hb)
           replace BK624 := Aside0.mk (blk_below (g := gb624) (o := .cells #[.slice Ao11 t620.length co11] 26 (0, 0)) (bo BK624.out) hb)
           replace BK629 := Aside0.mk (blk_below (g := gb629) (o := .cells #[.slice Ao15 t625.length co15] 26 (0, 0)) (bo BK629.out) hb)
           replace BK634 := Aside0.mk (blk_below (g := gb634) (o := .cells #[.slice Ao21 t630.length co21] 26 (0, 0)) (bo BK634.out) hb)
           replace BK640 := Aside0.mk (blk_below (g := gb640) (o := .cells #[.slice Ao27 t635.length co27] 26 (0, 0)) (bo BK640.out) hb)
           replace HB := Aside0.mk (below_step bw hb)
           clear hb
           refine hK.out _ _ ⟨(blk_cell BK629.out 0).trans rfl, (blk_cell BK624.out 0).trans rfl⟩ (fun hHeld => ?_)
           clear hK K
           refine norm_ (a' := ?_) ?_ ?_
           rotate_left
           ·show Act.put _ (some 74) _ = _
            simp only [Act.put, qa, qb, qc, i64_w, i32_w]
            rfl
           refine pa 8 (some 75) #[Y,Y,Y,Y,Y,Y,Y,Y,Y] HT_ ?_
           refine done_ (done_of HT_.out (by kernel_rfl)) ?_
           try go_wp2
           go_roundg kj50
           case measure => have := HJ7.out; have := HK2.out; have := HJ50.out; omega
           case rel => exact ⟨(wrap64 (x12_2 + 1)), rr, H', ⟨by have := HJ7.out; have := HK2.out; have := HJ50.out; omega⟩, ⟨by (with_reducible repeat (first | apply Kd.Q_alloc | apply Kd.Q_drewN | apply Kd.Q_drew)); exact HO_625000.out⟩, ⟨by (with_reducible repeat (first | apply Kd.Q_alloc | apply Kd.Q_drewN | apply Kd.Q_drew)); exact HO_630000.out⟩, ⟨by (with_reducible repeat (first | apply Kd.Q_alloc | apply Kd.Q_drewN | apply Kd.Q_drew)); exact HO_635000.out⟩, ⟨by (with_reducible repeat (first | apply Kd.Q_alloc | apply Kd.Q_drewN | apply Kd.Q_drew)); exact HO_641000.out⟩, ⟨bo BK624.out⟩, ⟨bo BK629.out⟩, ⟨bo BK634.out⟩, ⟨bo BK640.out⟩, ⟨bw⟩⟩
         ·have H' := Aside0.mk H
          clear H
          go_wp2
          go_loopg [13] kj50 (fun kq v13 w' => ∃ (x13_4 : Int), v13 = .int .i64 x13_4 ∧ Aside0 (laws_FnQuotients.l1 kq t628 x13_4 t620 t625 = some true) ∧ Aside0 (kq ≤ kj50) ∧ Aside0 (Kd.Q (Kd.int .i64) 3 w' w.heap.size (fun k_ => some k_ ≠ ((.slice Ao15 t625.length co15) : Value).ownBlock ∧ some k_ ≠ ((.slice Ao21 t630.length co21) : Value).ownBlock ∧ some k_ ≠ ((.slice Ao27 t635.length co27) : Value).ownBlock) (.slice Ao11 t620.length co11) t620) ∧ Aside0 (Kd.Q (Kd.int .i64) 3 w' w.heap.size (fun k_ => some k_ ≠ ((.slice Ao11 t620.length co11) : Value).ownBlock ∧ some k_ ≠ ((.slice Ao21 t630.length co21) : Value).ownBlock ∧ some k_ ≠ ((.slice Ao27 t635.length co27) : Value).ownBlock) (.slice Ao15 t625.length co15) t625) ∧ Aside0 (Kd.Q (Kd.int .i64) 3 w' w.heap.size (fun k_ => some k_ ≠ ((.slice Ao11 t620.length co11) : Value).ownBlock ∧ some k_ ≠ ((.slice Ao15 t625.length co15) : Value).ownBlock ∧ some k_ ≠ ((.slice Ao27 t635.length co27) : Value).ownBlock) (.slice Ao21 t630.length co21) t630) ∧ Aside0 (Kd.Q (Kd.int .i64) 3 w' w.heap.size (fun k_ => some k_ ≠ ((.slice Ao11 t620.length co11) : Value).ownBlock ∧ some k_ ≠ ((.slice Ao15 t625.length co15) : Value).ownBlock ∧ some k_ ≠ ((.slice Ao21 t630.length co21) : Value).ownBlock) (.slice Ao27 t635.length co27) t635) ∧ Aside0 (w'.heap[gb624]? = some (.cells #[(.slice Ao11 t620.length co11)] 26 (0, 0))) ∧ Aside0 (w'.heap[gb629]? = some (.cells #[(.slice Ao15 t625.length co15)] 26 (0, 0))) ∧ Aside0 (w'.heap[gb634]? = some (.cells #[(.slice Ao21 t630.length co21)] 26 (0, 0))) ∧ Aside0 (w'.heap[gb640]? = some (.cells #[(.slice Ao27 t635.length co27)] 26 (0, 0))) ∧ Aside0 (Below w.heap.size w w'))
          case atStart => exact ⟨(0), rr, H', ⟨Nat.le_refl _⟩, ⟨by (with_reducible repeat (first | apply Kd.Q_alloc | apply Kd.Q_drewN | apply Kd.Q_drew)); exact HO_625000.out⟩, ⟨by (with_reducible repeat (first | apply Kd.Q_alloc | apply Kd.Q_drewN | apply Kd.Q_drew)); exact HO_630000.out⟩, ⟨by (with_reducible repeat (first | apply Kd.Q_alloc | apply Kd.Q_drewN | apply Kd.Q_drew)); exact HO_635000.out⟩, ⟨by (with_reducible repeat (first | apply Kd.Q_alloc | apply Kd.Q_drewN | apply Kd.Q_drew)); exact HO_641000.out⟩, ⟨bo BK624.out⟩, ⟨bo BK629.out⟩, ⟨bo BK634.out⟩, ⟨bo BK640.out⟩, ⟨bw⟩⟩
          case round =>
           clear H'
           try clear c3; try clear c32; try clear c52b0; try clear c56; try clear c56b0; try clear c56b1; try clear c56b2
           obtain ⟨x13_4, rfl, HA, HK4, HO_625000, HO_630000, HO_635000, HO_641000, BK624, BK629, BK634, BK640, HB⟩ := hrel
           cases gk with
           | zero => exact absurd HA.out (by simp [laws_FnQuotients.l1])
           | succ k4 =>
            have H := HA.out
            clear HA
            simp only [laws_FnQuotients.l1] at H
            have HC63 := Aside0.mk H
            clear H
            go_upto_region 15 with (fail)
            go_cut [83] (fun v83 wc => ∃ (kq : Nat) (x83_62 : Bool), v83 = .bool x83_62 ∧ Aside0 (laws_FnQuotients.j4 kq t628 x13_4 x83_62 t620 t625 = some true) ∧ Aside0 (kq ≤ k4) ∧ Aside0 (Kd.Q (Kd.int .i64) 3 wc w.heap.size (fun k_ => some k_ ≠ ((.slice Ao15 t625.length co15) : Value).ownBlock ∧ some k_ ≠ ((.slice Ao21 t630.length co21) : Value).ownBlock ∧ some k_ ≠ ((.slice Ao27 t635.length co27) : Value).ownBlock) (.slice Ao11 t620.length co11) t620) ∧ Aside0 (Kd.Q (Kd.int .i64) 3 wc w.heap.size (fun k_ => some k_ ≠ ((.slice Ao11 t620.length co11) : Value).ownBlock ∧ some k_ ≠ ((.slice Ao21 t630.length co21) : Value).ownBlock ∧ some k_ ≠ ((.slice Ao27 t635.length co27) : Value).ownBlock) (.slice Ao15 t625.length co15) t625) ∧ Aside0 (Kd.Q (Kd.int .i64) 3 wc w.heap.size (fun k_ => some k_ ≠ ((.slice Ao11 t620.length co11) : Value).ownBlock ∧ some k_ ≠ ((.slice Ao15 t625.length co15) : Value).ownBlock ∧ some k_ ≠ ((.slice Ao27 t635.length co27) : Value).ownBlock) (.slice Ao21 t630.length co21) t630) ∧ Aside0 (Kd.Q (Kd.int .i64) 3 wc w.heap.size (fun k_ => some k_ ≠ ((.slice Ao11 t620.length co11) : Value).ownBlock ∧ some k_ ≠ ((.slice Ao15 t625.length co15) : Value).ownBlock ∧ some k_ ≠ ((.slice Ao21 t630.length co21) : Value).ownBlock) (.slice Ao27 t635.length co27) t635) ∧ Aside0 (wc.heap[gb624]? = some (.cells #[(.slice Ao11 t620.length co11)] 26 (0, 0))) ∧ Aside0 (wc.heap[gb629]? = some (.cells #[(.slice Ao15 t625.length co15)] 26 (0, 0))) ∧ Aside0 (wc.heap[gb634]? = some (.cells #[(.slice Ao21 t630.length co21)] 26 (0, 0))) ∧ Aside0 (wc.heap[gb640]? = some (.cells #[(.slice Ao27 t635.length co27)] 26 (0, 0))) ∧ Aside0 (Below w.heap.size w wc))
            case first =>
             have H := HC63.out
             clear HC63
             replace H := gi H; obtain ⟨c64b0, H⟩ | ⟨c64b0, H⟩ := H
             ·(first | rw [c64b0] | (simp only [i64_w, i32_w]; rw [c64b0]) | skip)
              have H' := Aside0.mk H
              clear H
              have hnb65 := NB624_629.out
              have hnc65 := NB629_624.out
              have hnb66 := NB624_634.out
              have hnc66 := NB634_624.out
              have hnb67 := NB624_640.out
              have hnc67 := NB640_624.out
              have hcz68_0 := bc BK624 0 (.slice Ao11 t620.length co11)
              have hfz68_0 := blk_frozen BK624.out 0
              go_wp2
              go_meet
              case rel => exact ⟨_, (t628), rr, H', ⟨by have := HJ7.out; have := HK2.out; have := HJ50.out; have := HK4.out; first | omega | exact Nat.le_refl _⟩, ⟨by (with_reducible repeat (first | apply Kd.Q_alloc | apply Kd.Q_drewN | apply Kd.Q_drew)); exact HO_625000.out⟩, ⟨by (with_reducible repeat (first | apply Kd.Q_alloc | apply Kd.Q_drewN | apply Kd.Q_drew)); exact HO_630000.out⟩, ⟨by (with_reducible repeat (first | apply Kd.Q_alloc | apply Kd.Q_drewN | apply Kd.Q_drew)); exact HO_635000.out⟩, ⟨by (with_reducible repeat (first | apply Kd.Q_alloc | apply Kd.Q_drewN | apply Kd.Q_drew)); exact HO_641000.out⟩, ⟨bo BK624.out⟩, ⟨bo BK629.out⟩, ⟨bo BK634.out⟩, ⟨bo BK640.out⟩, ⟨bw⟩⟩
             ·(first | rw [c64b0] | (simp only [i64_w, i32_w]; rw [c64b0]) | skip)
              have H' := Aside0.mk H
              clear H
              have hnb69 := NB624_629.out
              have hnc69 := NB629_624.out
              have hnb70 := NB624_634.out
              have hnc70 := NB634_624.out
              have hnb71 := NB624_640.out
              have hnc71 := NB640_624.out
              have hcz72_0 := bc BK624 0 (.slice Ao11 t620.length co11)
              have hfz72_0 := blk_frozen BK624.out 0
              go_wp2
              go_meet
              case rel => exact ⟨_, (false), rr, H', ⟨by have := HJ7.out; have := HK2.out; have := HJ50.out; have := HK4.out; first | omega | exact Nat.le_refl _⟩, ⟨by (with_reducible repeat (first | apply Kd.Q_alloc | apply Kd.Q_drewN | apply Kd.Q_drew)); exact HO_625000.out⟩, ⟨by (with_reducible repeat (first | apply Kd.Q_alloc | apply Kd.Q_drewN | apply Kd.Q_drew)); exact HO_630000.out⟩, ⟨by (with_reducible repeat (first | apply Kd.Q_alloc | apply Kd.Q_drewN | apply Kd.Q_drew)); exact HO_635000.out⟩, ⟨by (with_reducible repeat (first | apply Kd.Q_alloc | apply Kd.Q_drewN | apply Kd.Q_drew)); exact HO_641000.out⟩, ⟨bo BK624.out⟩, ⟨bo BK629.out⟩, ⟨bo BK634.out⟩, ⟨bo BK640.out⟩, ⟨bw⟩⟩
            case rest =>
             clear HC63
             try clear c3; try clear c32; try clear c52b0; try clear c56; try clear c56b0; try clear c56b1; try clear c56b2; try clear c64b0; try clear hcz68_0; try clear hcz72_0; try clear hfz68_0; try clear hfz72_0
             obtain ⟨kq, x83_62, rfl, HA, HJ62, HO_625000, HO_630000, HO_635000, HO_641000, BK624, BK629, BK634, BK640, HB⟩ := hcut
             cases kq with
             | zero => exact absurd HA.out (by simp [laws_FnQuotients.j4])
             | succ kj62 =>
              have H := HA.out
              clear HA
              simp only [laws_FnQuotients.j4] at H
              by_cases c73 : x83_62 = true
              ·subst c73
               have H1 : (if 0 ≤ x13_4 then (if x13_4 < (t620.length : Int) then ((impl_Contains.f kj62 t625 (rd t620 x13_4)).bind fun t652 => (if t652 = true then (laws_FnQuotients.l1 kj62 t628 (wrap64 (x13_4 + 1)) t620 t625) else (some false))) else (none)) else (none)) = some true := by rw [if_pos rfl] at H; exact H
               clear H
               have H := H1
               clear H1
               replace H := gd H; obtain ⟨c74b0, H⟩ := H
               replace H := gd H; obtain ⟨c75b0, H⟩ := H
               replace H := ga H; obtain ⟨t652, A76, H⟩ := H
               replace H := gb H; obtain ⟨rfl, H⟩ | ⟨rfl, H⟩ := H
               ·have H' := Aside0.mk H
                clear H
                try go_wp2
                replace HO_625000 := Aside0.mk (Kd.Q_drew HO_625000.out)
                replace HO_630000 := Aside0.mk (Kd.Q_drew HO_630000.out)
                replace HO_635000 := Aside0.mk (Kd.Q_drew HO_635000.out)
                replace HO_641000 := Aside0.mk (Kd.Q_drew HO_641000.out)
                replace BK624 := Aside0.mk (blk_drew BK624.out)
                replace BK629 := Aside0.mk (blk_drew BK629.out)
                replace BK634 := Aside0.mk (blk_drew BK634.out)
                replace BK640 := Aside0.mk (blk_drew BK640.out)
                replace HB := Aside0.mk (below_drew1 HB.out)
                obtain ⟨⟨ad651, e651, hx651_0⟩, p651, q651⟩ := pq (Kd.at_int (Kd.Q_reads' HO_625000.out).2.2 x13_4)
                cases e651
                refine start_ (n := 8) (S := fun w' => w'.cell? ⟨gb629, 0, none⟩ = some (.slice Ao15 t625.length co15) ∧ w'.cell? ⟨gb624, 0, none⟩ = some (.slice (some ad651) t620.length co11) ∧ w'.cell? (ad651.add (x13_4).toNat) = some (.int .i64 (rd t620 x13_4))) (ds := []) #[Z,Z,Z,Z,Z,Z,Z,Z] (by kernel_rfl) rfl rfl ⟨(blk_cell BK629.out 0).trans rfl, (blk_cell BK624.out 0).trans rfl, hx651_0⟩ (fun hHeld => ?_); refine with_tabW laws_FnQuotients.tab17 laws_FnQuotients.bits17 (fun HT_ HW_ => ?_)
                generalize wc.drew = w78 at HO_625000 HO_630000 HO_635000 HO_641000 BK624 BK629 BK634 BK640 HB hx651_0 hHeld ⊢
                refine pa 1 (some 87) #[Z,Y,Z,Z,Z,Z,Z,Z] HT_ ?_
                refine pa 3 (some 89) #[Z,Y,Z,Y,Z,Z,Z,Z] HT_ ?_
                refine take_ (i := 0) (N := some 86) (v := ?_) (a' := ?_) #[Y,Y,Z,Y,Z,Z,Z,Z] rfl rfl (take_ofW HT_.out HW_.out (by kernel_rfl)) (fun _ _ _ h => h) (Or.inl ⟨by rfl, ?_⟩) hHeld ?_ ?_
                rotate_left
                ·rintro w' ⟨s0, s1, s2⟩
                 go_simp
                 with_reducible rfl
                rotate_left
                ·simp only [Act.put, qa, qb, qc, i64_w, i32_w]
                 rfl
                refine take_ (i := 2) (N := some 88) (v := ?_) (a' := ?_) #[Y,Y,Y,Y,Z,Z,Z,Z] rfl rfl (take_ofW HT_.out HW_.out (by kernel_rfl)) (fun _ _ _ h => h) (Or.inl ⟨by rfl, ?_⟩) hHeld ?_ ?_
                rotate_left
                ·rintro w' ⟨s0, s1, s2⟩
                 go_simp
                 with_reducible rfl
                rotate_left
                ·simp only [Act.put, qa, qb, qc, i64_w, i32_w]
                 rfl
                refine pa 4 (some 90) #[Y,Y,Y,Y,Y,Z,Z,Z] HT_ ?_
                refine take_ (i := 5) (N := some 91) (v := ?_) (a' := ?_) #[Y,Y,Y,Y,Y,Y,Z,Z] rfl rfl (take_ofW HT_.out HW_.out (by kernel_rfl)) (fun _ _ _ h => h) (Or.inl ⟨by rfl, ?_⟩) hHeld ?_ ?_
                rotate_left
                ·rintro w' ⟨s0, s1, s2⟩
                 go_simp
                 with_reducible rfl
                rotate_left
                ·simp only [Act.put, qa, qb, qc, i64_w, i32_w]
                 rfl
                refine oa 6 (some 92) #[Y,Y,Y,Y,Y,Y,Y,Z] HT_ (fun K hK => ?_)
                refine gm Try.func32 #[.agg #[.slice Ao15 t625.length co15], .int .i64 (rd t620 x13_4)] ?_
                with_reducible refine (impl_Contains.calls kj62 _ _ t625 (rd t620 x13_4) true _ ?side1 ?side2 A76.out).mono ?_
                (case side1 => exact co (Kd.Q_reads' HO_630000.out).2.2)
                (case side2 => exact (Kd.Q_reads' HO_630000.out).2.1)
                rintro e w79 ⟨rfl, hb⟩
                have HS2_ := (hb.cell (World.block_lt_of_cell? _ _ (hHeld.2.2))).trans (hHeld.2.2)
                refine ⟨_, rfl, ?_⟩
                replace HO_625000 := Aside0.mk (Kd.Q_below (by (with_reducible repeat (first | apply Kd.Q_alloc | apply Kd.Q_drewN | apply Kd.Q_drew)); exact HO_625000.out) hb)
                replace HO_630000 := Aside0.mk (Kd.Q_below (by (with_reducible repeat (first | apply Kd.Q_alloc | apply Kd.Q_drewN | apply Kd.Q_drew)); exact HO_630000.out) hb)
                replace HO_635000 := Aside0.mk (Kd.Q_below (by (with_reducible repeat (first | apply Kd.Q_alloc | apply Kd.Q_drewN | apply Kd.Q_drew)); exact HO_635000.out) hb)
                replace HO_641000 := Aside0.mk (Kd.Q_below (by (with_reducible repeat (first | apply Kd.Q_alloc | apply Kd.Q_drewN | apply Kd.Q_drew)); exact HO_641000.out) hb)
                replace BK624 := Aside0.mk (blk_below (g := gb624) (o := .cells #[.slice (some ad651) t620.length co11] 26 (0, 0)) (bo BK624.out) hb)
                replace BK629 := Aside0.mk (blk_below (g := gb629) (o := .cells #[.slice Ao15 t625.length co15] 26 (0, 0)) (bo BK629.out) hb)
                replace BK634 := Aside0.mk (blk_below (g := gb634) (o := .cells #[.slice Ao21 t630.length co21] 26 (0, 0)) (bo BK634.out) hb)
                replace BK640 := Aside0.mk (blk_below (g := gb640) (o := .cells #[.slice Ao27 t635.length co27] 26 (0, 0)) (bo BK640.out) hb)
                replace HB := Aside0.mk (below_step bw hb)
                clear hb
                refine hK.out _ _ ⟨(blk_cell BK629.out 0).trans rfl, (blk_cell BK624.out 0).trans rfl, HS2_⟩ (fun hHeld => ?_)
                clear hK K
                refine norm_ (a' := ?_) ?_ ?_
                rotate_left
                ·show Act.put _ (some 92) _ = _
                 simp only [Act.put, qa, qb, qc, i64_w, i32_w]
                 rfl
                refine pa 7 (some 93) #[Y,Y,Y,Y,Y,Y,Y,Y] HT_ ?_
                refine done_ (done_of HT_.out (by kernel_rfl)) ?_
                try go_wp2
                go_roundg kj62
                case measure => have := HJ7.out; have := HK2.out; have := HJ50.out; have := HK4.out; have := HJ62.out; omega
                case rel => exact ⟨(wrap64 (x13_4 + 1)), rr, H', ⟨by have := HJ7.out; have := HK2.out; have := HJ50.out; have := HK4.out; have := HJ62.out; omega⟩, ⟨by (with_reducible repeat (first | apply Kd.Q_alloc | apply Kd.Q_drewN | apply Kd.Q_drew)); exact HO_625000.out⟩, ⟨by (with_reducible repeat (first | apply Kd.Q_alloc | apply Kd.Q_drewN | apply Kd.Q_drew)); exact HO_630000.out⟩, ⟨by (with_reducible repeat (first | apply Kd.Q_alloc | apply Kd.Q_drewN | apply Kd.Q_drew)); exact HO_635000.out⟩, ⟨by (with_reducible repeat (first | apply Kd.Q_alloc | apply Kd.Q_drewN | apply Kd.Q_drew)); exact HO_641000.out⟩, ⟨bo BK624.out⟩, ⟨bo BK629.out⟩, ⟨bo BK634.out⟩, ⟨bo BK640.out⟩, ⟨bw⟩⟩
               ·exact absurd (Option.some.inj H) (by decide)
              ·replace c73 := Bool.eq_false_iff.mpr c73
               subst c73
               have H1 : (some true) = some true := rfl
               clear H
               have H := H1
               clear H1
               skip
               go_wp2
               go_ret
               exact ⟨re, bw⟩

/-- THE ONE PURE STATEMENT of laws_FnQuotients: yours. -/
def laws_FnQuotients.Pure : Prop := ∀ (l0 : List Int), l0.length ≤ maxLen → l0.length * 1 ≤ 140737488351232 → (∀ x ∈ l0, (Lit.int .u8 x).wf = true) → ∃ k, laws_FnQuotients.f k l0 = some true
end Go.Proofs.Ytkfplkdchkmgbaa.C
