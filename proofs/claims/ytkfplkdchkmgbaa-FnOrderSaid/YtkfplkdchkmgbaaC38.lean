/- Contracts of functions of the program: laws_FnOrder. -/
import Derived.Test.YtkfplkdchkmgbaaC0
import Derived.Test.YtkfplkdchkmgbaaC1
import Derived.Test.YtkfplkdchkmgbaaC8
import Derived.Test.YtkfplkdchkmgbaaC20
import Derived.Test.YtkfplkdchkmgbaaC21
import Derived.Test.YtkfplkdchkmgbaaC35
import Derived.Test.YtkfplkdchkmgbaaC36
import Derived.Test.YtkfplkdchkmgbaaC37
namespace Go.Proofs.Ytkfplkdchkmgbaa.C
open Go.RowKit Go.Proofs.YtkfplkdchkmgbaaW.PrintWords Go.Proofs.YtkfplkdchkmgbaaW.PrintLast Go.Proofs.YtkfplkdchkmgbaaW.PrintMore
attribute [local go_sem] max2_int min2_int max_two min_two max_three min_three max_four min_four
set_option linter.unusedVariables false
set_option linter.unusedSimpArgs false

/-! ### laws_FnOrder: function 11 -/
mutual
def laws_FnOrder.j0 : Nat → List Int → List Int → List Int → Bool → List Int → List Int → Option (Bool)
 | 0, _, _, _, _, _, _ => none
 | k + 1, x5, x7, x9, x75, x1618000, x1628000 => if x75 = true then (some false) else (laws_FnOrder.l0 k x5 x7 x9 0 x1618000 x1628000)
def laws_FnOrder.l0 : Nat → List Int → List Int → List Int → Int → List Int → List Int → Option (Bool)
 | 0, _, _, _, _, _, _ => none
 | k + 1, x5, x7, x9, x13, x1618000, x1628000 => if x13 < (x7.length : Int) then (laws_FnOrder.j2 k x5 x7 x9 x13 (decide ((x9.length : Int) > 0)) x1618000 x1628000) else (laws_FnOrder.j2 k x5 x7 x9 x13 false x1618000 x1628000)
def laws_FnOrder.j2 : Nat → List Int → List Int → List Int → Int → Bool → List Int → List Int → Option (Bool)
 | 0, _, _, _, _, _, _, _ => none
 | k + 1, x5, x7, x9, x13, x84, x1618000, x1628000 => if x84 = true then (laws_FnOrder.l1 k x5 x7 x9 x13 false 0 x1618000 x1628000) else (if (x5.length : Int) = 0 then (some true) else ((spec_GenusOf.f k x1618000).bind fun t1657 => (if t1657 = 0 then (if (x5.length : Int) = 1 then (if 0 < (x5.length : Int) then (some ((rd x5 0) == (-1))) else (none)) else (some false)) else ((spec_PseudoFrobenius.f k x1618000).bind fun t1659 => ((laws_sameInts.f k x5 t1659).bind fun t1662 => (some t1662))))))
def laws_FnOrder.l1 : Nat → List Int → List Int → List Int → Int → Bool → Int → List Int → List Int → Option (Bool)
 | 0, _, _, _, _, _, _, _, _ => none
 | k + 1, x5, x7, x9, x13, x14, x15, x1618000, x1628000 => if x15 < (x9.length : Int) then (if x14 = true then (laws_FnOrder.l1 k x5 x7 x9 x13 true (wrap64 (x15 + 1)) x1618000 x1628000) else (if 0 ≤ x15 then (if 0 ≤ x13 then (if x13 < (x7.length : Int) then ((impl_IsBelow.f k x1628000 (rd x9 x15) (rd x7 x13)).bind fun t1656 => (laws_FnOrder.l1 k x5 x7 x9 x13 t1656 (wrap64 (x15 + 1)) x1618000 x1628000)) else (none)) else (none)) else (none))) else (if x14 = true then (laws_FnOrder.l0 k x5 x7 x9 (wrap64 (x13 + 1)) x1618000 x1628000) else (some false))
end
def laws_FnOrder.f (k : Nat) (l0 : List Int) : Option (Bool) := (laws_big.f l0).bind fun t1612 => (if t1612 = true then (some true) else ((spec_DrawExceedingOf.f k l0).bind fun bt1613 => ((impl_ExceedingOf.f k bt1613.1 bt1613.2).bind fun t1618 => ((spec_DrawMaximalOf.f k l0).bind fun bt1621 => ((impl_MaximalOf.f k bt1621.1 bt1621.2).bind fun t1628 => ((impl_MinimalIn.f k bt1621.1 bt1621.2).bind fun t1631 => ((spec_DrawIsBelow.f k l0).bind fun bt1634 => ((spec_ExceedingOf.f k bt1613.1 bt1613.2).bind fun t1640 => ((laws_sameInts.f k t1618 t1640).bind fun t1643 => (if t1643 = true then ((spec_MaximalOf.f k bt1621.1 bt1621.2).bind fun t1644 => ((laws_sameInts.f k t1628 t1644).bind fun t1647 => (if t1647 = true then ((spec_MinimalIn.f k bt1621.1 bt1621.2).bind fun t1648 => ((laws_sameInts.f k t1631 t1648).bind fun t1651 => (if t1651 = true then ((impl_IsBelow.f k bt1634.1 bt1634.2.1 bt1634.2.2).bind fun t1652 => ((spec_IsBelow.f k bt1634.1 bt1634.2.1 bt1634.2.2).bind fun t1653 => (laws_FnOrder.j0 k t1618 bt1621.2 t1631 (t1652 != t1653) bt1613.1 bt1621.1))) else (laws_FnOrder.j0 k t1618 bt1621.2 t1631 true bt1613.1 bt1621.1)))) else (laws_FnOrder.j0 k t1618 bt1621.2 t1631 true bt1613.1 bt1621.1)))) else (laws_FnOrder.j0 k t1618 bt1621.2 t1631 true bt1613.1 bt1621.1)))))))))))
def laws_FnOrder.T9 : Bool × List (List Nat × List Nat) := (true, [([], []), ([], []), ([], []), ([1, 2], [1, 2]), ([0, 3, 3], [0, 3]), ([4], [4]), ([5, 4], [5]), ([6], [6]), ([6], [6]), ([6], [6]), ([8, 9, 6, 6], [6, 8, 9]), ([7, 10, 10, 6], [6, 7, 10]), ([11, 6], [6, 11]), ([6, 12], [6, 12]), ([13, 11], [13]), ([14], [14]), ([14], [14]), ([14], [14]), ([16, 17, 14, 14], [14, 16, 17]), ([15, 18, 18, 14], [14, 15, 18]), ([19, 14], [14, 19]), ([14, 20], [14, 20]), ([21, 19], [21]), ([22], [22]), ([22], [22]), ([22], [22]), ([23, 24, 25, 22, 22], [22, 23, 24, 25]), ([22], [22]), ([22], [22]), ([22], [22]), ([27, 28, 29, 26, 22], [22, 27, 28, 29]), ([26, 30, 22], [22, 26, 30]), ([22, 31], [22, 31])])
def laws_FnOrder.B9 : List Nat := [0, 0, 0, 6, 15, 31, 63, 127, 127, 127, 895, 2047, 4095, 8191, 16383, 32767, 32767, 32767, 229375, 524287, 1048575, 2097151, 4194303, 8388607, 8388607, 8388607, 67108863, 8388607, 8388607, 8388607, 1073741823, 2147483647, 4294967295]
theorem laws_FnOrder.tab9 : rtab .any (opsOf Try.f11 9) = laws_FnOrder.T9 := by kernel_rfl
theorem laws_FnOrder.bits9 : waitsOk laws_FnOrder.T9.2 laws_FnOrder.B9 = true := by kernel_rfl
def laws_FnOrder.T18 : Bool × List (List Nat × List Nat) := (true, [([], []), ([0], [0]), ([1], [1]), ([1], [1]), ([1], [1]), ([3, 4, 1], [1, 3, 4]), ([5, 1], [1, 5]), ([1], [1]), ([1], [1]), ([7, 8, 1], [1, 7, 8]), ([9, 1], [1, 9]), ([2, 6, 10, 1, 1], [1, 2, 6, 10]), ([1, 11], [1, 11]), ([12, 11, 0, 1, 2, 3, 4, 5, 6, 7, 8, 9, 10, 11, 12], [0, 12])])
def laws_FnOrder.B18 : List Nat := [0, 1, 3, 3, 3, 27, 59, 3, 3, 387, 899, 2047, 4095, 8191]
theorem laws_FnOrder.tab18 : rtab .any (opsOf Try.f11 18) = laws_FnOrder.T18 := by kernel_rfl
theorem laws_FnOrder.bits18 : waitsOk laws_FnOrder.T18.2 laws_FnOrder.B18 = true := by kernel_rfl
theorem laws_FnOrder.j0_no {k : Nat} : ∀ {a0} {a1} {a2} {a4} {a5}, laws_FnOrder.j0 k a0 a1 a2 true a4 a5 ≠ some true := by
 intros
 cases k <;> simp [laws_FnOrder.j0]
set_option maxHeartbeats 8000000 in
set_option maxRecDepth 100000 in
theorem laws_FnOrder.calls (k : Nat) (A0 : Option Addr) (c0 : Nat) (l0 : List Int) (w : World) (hr0 : Kd.C (Kd.int .u8) w A0 l0.length l0) (hc0 : l0.length ≤ c0) (h : laws_FnOrder.f k l0 = some true) :
  Calls Try.prog 11 #[.slice A0 l0.length c0] w fun e w' => e = .returned (.bool true) ∧ Below w.heap.size w w' := by
 have hu26 := Try.underlying26
 have HR0 := am hr0
 have HC0 := am hc0
 clear hr0 hc0
 have HB := am (Below.refl w.heap.size w)
 have H : ((laws_big.f l0).bind fun t1612 => (if t1612 = true then (some true) else ((spec_DrawExceedingOf.f k l0).bind fun bt1613 => ((impl_ExceedingOf.f k bt1613.1 bt1613.2).bind fun t1618 => ((spec_DrawMaximalOf.f k l0).bind fun bt1621 => ((impl_MaximalOf.f k bt1621.1 bt1621.2).bind fun t1628 => ((impl_MinimalIn.f k bt1621.1 bt1621.2).bind fun t1631 => ((spec_DrawIsBelow.f k l0).bind fun bt1634 => ((spec_ExceedingOf.f k bt1613.1 bt1613.2).bind fun t1640 => ((laws_sameInts.f k t1618 t1640).bind fun t1643 => (if t1643 = true then ((spec_MaximalOf.f k bt1621.1 bt1621.2).bind fun t1644 => ((laws_sameInts.f k t1628 t1644).bind fun t1647 => (if t1647 = true then ((spec_MinimalIn.f k bt1621.1 bt1621.2).bind fun t1648 => ((laws_sameInts.f k t1631 t1648).bind fun t1651 => (if t1651 = true then ((impl_IsBelow.f k bt1634.1 bt1634.2.1 bt1634.2.2).bind fun t1652 => ((spec_IsBelow.f k bt1634.1 bt1634.2.1 bt1634.2.2).bind fun t1653 => (laws_FnOrder.j0 k t1618 bt1621.2 t1631 (t1652 != t1653) bt1613.1 bt1621.1))) else (laws_FnOrder.j0 k t1618 bt1621.2 t1631 true bt1613.1 bt1621.1)))) else (laws_FnOrder.j0 k t1618 bt1621.2 t1631 true bt1613.1 bt1621.1)))) else (laws_FnOrder.j0 k t1618 bt1621.2 t1631 true bt1613.1 bt1621.1)))))))))))) = some true := h
 clear h
 replace H := ga H; obtain ⟨t1612, A2, H⟩ := H
 by_cases c3 : t1612 = true
 ·subst c3
  have H1 : (some true) = some true := rfl
  clear H
  have H := H1
  clear H1
  skip
  go_enter Try.func11, Try.ntmps11
  go_wp2_with (first | ((with_reducible refine gate_callee (f := 12) rfl ?_); refine gl (some 17) Try.func12 #[.slice A0 l0.length c0] ?_; (with_reducible refine (laws_big.calls _ _ l0 true _ ?side1 ?side2 A2.out).mono ?_); (case side1 => exact co HR0.out); (case side2 => exact HC0.out); rintro e w' ⟨rfl, ⟨nd, rfl⟩⟩; refine ⟨_, rfl, ?_⟩))
  go_ret
  exact ⟨re, bw⟩
 ·replace c3 := Bool.eq_false_iff.mpr c3
  subst c3
  have H1 : ((spec_DrawExceedingOf.f k l0).bind fun bt1613 => ((impl_ExceedingOf.f k bt1613.1 bt1613.2).bind fun t1618 => ((spec_DrawMaximalOf.f k l0).bind fun bt1621 => ((impl_MaximalOf.f k bt1621.1 bt1621.2).bind fun t1628 => ((impl_MinimalIn.f k bt1621.1 bt1621.2).bind fun t1631 => ((spec_DrawIsBelow.f k l0).bind fun bt1634 => ((spec_ExceedingOf.f k bt1613.1 bt1613.2).bind fun t1640 => ((laws_sameInts.f k t1618 t1640).bind fun t1643 => (if t1643 = true then ((spec_MaximalOf.f k bt1621.1 bt1621.2).bind fun t1644 => ((laws_sameInts.f k t1628 t1644).bind fun t1647 => (if t1647 = true then ((spec_MinimalIn.f k bt1621.1 bt1621.2).bind fun t1648 => ((laws_sameInts.f k t1631 t1648).bind fun t1651 => (if t1651 = true then ((impl_IsBelow.f k bt1634.1 bt1634.2.1 bt1634.2.2).bind fun t1652 => ((spec_IsBelow.f k bt1634.1 bt1634.2.1 bt1634.2.2).bind fun t1653 => (laws_FnOrder.j0 k t1618 bt1621.2 t1631 (t1652 != t1653) bt1613.1 bt1621.1))) else (laws_FnOrder.j0 k t1618 bt1621.2 t1631 true bt1613.1 bt1621.1)))) else (laws_FnOrder.j0 k t1618 bt1621.2 t1631 true bt1613.1 bt1621.1)))) else (laws_FnOrder.j0 k t1618 bt1621.2 t1631 true bt1613.1 bt1621.1)))))))))) = some true := by rw [if_neg (show ¬ (false = true) by decide)] at H; exact H
  clear H
  have H := H1
  clear H1
  replace H := ga H; obtain ⟨⟨t1613, t1616⟩, A4, H⟩ := H
  replace H : ((impl_ExceedingOf.f k t1613 t1616).bind fun t1618 => ((spec_DrawMaximalOf.f k l0).bind fun bt1621 => ((impl_MaximalOf.f k bt1621.1 bt1621.2).bind fun t1628 => ((impl_MinimalIn.f k bt1621.1 bt1621.2).bind fun t1631 => ((spec_DrawIsBelow.f k l0).bind fun bt1634 => ((spec_ExceedingOf.f k t1613 t1616).bind fun t1640 => ((laws_sameInts.f k t1618 t1640).bind fun t1643 => (if t1643 = true then ((spec_MaximalOf.f k bt1621.1 bt1621.2).bind fun t1644 => ((laws_sameInts.f k t1628 t1644).bind fun t1647 => (if t1647 = true then ((spec_MinimalIn.f k bt1621.1 bt1621.2).bind fun t1648 => ((laws_sameInts.f k t1631 t1648).bind fun t1651 => (if t1651 = true then ((impl_IsBelow.f k bt1634.1 bt1634.2.1 bt1634.2.2).bind fun t1652 => ((spec_IsBelow.f k bt1634.1 bt1634.2.1 bt1634.2.2).bind fun t1653 => (laws_FnOrder.j0 k t1618 bt1621.2 t1631 (t1652 != t1653) t1613 bt1621.1))) else (laws_FnOrder.j0 k t1618 bt1621.2 t1631 true t1613 bt1621.1)))) else (laws_FnOrder.j0 k t1618 bt1621.2 t1631 true t1613 bt1621.1)))) else (laws_FnOrder.j0 k t1618 bt1621.2 t1631 true t1613 bt1621.1))))))))) = some true := H
  replace H := ga H; obtain ⟨t1618, A5, H⟩ := H
  replace H := ga H; obtain ⟨⟨t1621, t1624⟩, A6, H⟩ := H
  replace H : ((impl_MaximalOf.f k t1621 t1624).bind fun t1628 => ((impl_MinimalIn.f k t1621 t1624).bind fun t1631 => ((spec_DrawIsBelow.f k l0).bind fun bt1634 => ((spec_ExceedingOf.f k t1613 t1616).bind fun t1640 => ((laws_sameInts.f k t1618 t1640).bind fun t1643 => (if t1643 = true then ((spec_MaximalOf.f k t1621 t1624).bind fun t1644 => ((laws_sameInts.f k t1628 t1644).bind fun t1647 => (if t1647 = true then ((spec_MinimalIn.f k t1621 t1624).bind fun t1648 => ((laws_sameInts.f k t1631 t1648).bind fun t1651 => (if t1651 = true then ((impl_IsBelow.f k bt1634.1 bt1634.2.1 bt1634.2.2).bind fun t1652 => ((spec_IsBelow.f k bt1634.1 bt1634.2.1 bt1634.2.2).bind fun t1653 => (laws_FnOrder.j0 k t1618 t1624 t1631 (t1652 != t1653) t1613 t1621))) else (laws_FnOrder.j0 k t1618 t1624 t1631 true t1613 t1621)))) else (laws_FnOrder.j0 k t1618 t1624 t1631 true t1613 t1621)))) else (laws_FnOrder.j0 k t1618 t1624 t1631 true t1613 t1621))))))) = some true := H
  replace H := ga H; obtain ⟨t1628, A7, H⟩ := H
  replace H := ga H; obtain ⟨t1631, A8, H⟩ := H
  replace H := ga H; obtain ⟨⟨t1634, t1637, t1638⟩, A9, H⟩ := H
  replace H : ((spec_ExceedingOf.f k t1613 t1616).bind fun t1640 => ((laws_sameInts.f k t1618 t1640).bind fun t1643 => (if t1643 = true then ((spec_MaximalOf.f k t1621 t1624).bind fun t1644 => ((laws_sameInts.f k t1628 t1644).bind fun t1647 => (if t1647 = true then ((spec_MinimalIn.f k t1621 t1624).bind fun t1648 => ((laws_sameInts.f k t1631 t1648).bind fun t1651 => (if t1651 = true then ((impl_IsBelow.f k t1634 t1637 t1638).bind fun t1652 => ((spec_IsBelow.f k t1634 t1637 t1638).bind fun t1653 => (laws_FnOrder.j0 k t1618 t1624 t1631 (t1652 != t1653) t1613 t1621))) else (laws_FnOrder.j0 k t1618 t1624 t1631 true t1613 t1621)))) else (laws_FnOrder.j0 k t1618 t1624 t1631 true t1613 t1621)))) else (laws_FnOrder.j0 k t1618 t1624 t1631 true t1613 t1621)))) = some true := H
  have HC10 := am H
  clear H
  go_enter Try.func11, Try.ntmps11
  go_upto_region 9 with (first | ((with_reducible refine gate_callee (f := 12) rfl ?_); refine gl (some 17) Try.func12 #[.slice A0 l0.length c0] ?_; (with_reducible refine (laws_big.calls _ _ l0 false _ ?side1 ?side2 A2.out).mono ?_); (case side1 => exact co HR0.out); (case side2 => exact HC0.out); rintro e w' ⟨rfl, ⟨nd, rfl⟩⟩; refine ⟨_, rfl, ?_⟩) | ((with_reducible refine gate_callee (f := 118) rfl ?_); refine gl (some 20) Try.func118 #[.slice A0 l0.length c0] ?_; (with_reducible refine (spec_DrawExceedingOf.calls k _ _ l0 t1613 t1616 _ ?side1 ?side2 A4.out).mono ?_); (case side1 => exact co HR0.out); (case side2 => exact HC0.out); rintro e w11 ⟨v1614, rfl, ho0, hb⟩; refine ⟨_, rfl, ?_⟩; have HO1615 := am (Kd.Q_lower ho0 (below_size bw)); replace HB := am (below_step bw hb); clear hb ho0) | ((with_reducible refine gate_dst (N := 3) rfl ?_); (try (refine gate_guard (by rfl) ?_; dsimp only)); refine bx 3 #[.slice none 0 0] 26 ?_; intro gb1617 hg w12 hbox hb; replace HO1615 := am (Kd.Q_below (qo HO1615.out) hb); have BK1617 := am (hbox); have GW1617 := am (gs hg : w.heap.size ≤ gb1617); have GE1617 := GW1617; replace HB := am (below_step bw hb); clear hb hbox hg; obtain ⟨Ao13, co13, eo13, _⟩ := Kd.Q_slice HO1615.out; subst eo13; have hcz14_0 := bc BK1617 0 (.slice none 0 0); have hfz14_0 := blk_frozen BK1617.out 0) | ((with_reducible refine gate_callee (f := 119) rfl ?_); refine gl (some 25) Try.func119 #[.agg #[.slice Ao13 t1613.length co13], .int .i64 t1616] ?_; (with_reducible refine (impl_ExceedingOf.calls k _ _ t1613 t1616 t1618 _ ?side1 ?side2 A5.out).mono ?_); (case side1 => refine (Kd.Q_reads' (e := 3) (base := w.heap.size) (ok := fun k_ => True) (n := t1613.length) (c := co13) ?_).2.2; exact (by (with_reducible repeat (first | apply Kd.Q_alloc | apply Kd.Q_drewN | apply Kd.Q_drew)); exact (Kd.Q_mono (Kd.Q_far (p := ⟨gb1617, 0, none⟩) (Kd.Q_types HO1615.out BK1617.out (by decide)) (fun _ hk => hk.2) (.slice Ao13 t1613.length co13)) (fun _ h_ => h_.1)))); (case side2 => exact (Kd.Q_reads' HO1615.out).2.1); rintro e w15 ⟨v1619, rfl, ho0, hb⟩; refine ⟨_, rfl, ?_⟩; have HO1620 := am (Kd.R_lower (Kd.R_new' ho0 (Kd.Q_lt (by (with_reducible repeat (first | apply Kd.Q_alloc | apply Kd.Q_drewN | apply Kd.Q_drew)); exact (Kd.Q_mono (Kd.Q_far (p := ⟨gb1617, 0, none⟩) (Kd.Q_types HO1615.out BK1617.out (by decide)) (fun _ hk => hk.2) (.slice Ao13 t1613.length co13)) (fun _ h_ => h_.1))))) (below_size bw)); replace HO1615 := am (Kd.Q_elder' (by (with_reducible repeat (first | apply Kd.Q_alloc | apply Kd.Q_drewN | apply Kd.Q_drew)); exact (Kd.Q_mono (Kd.Q_far (p := ⟨gb1617, 0, none⟩) (Kd.Q_types HO1615.out BK1617.out (by decide)) (fun _ hk => hk.2) (.slice Ao13 t1613.length co13)) (fun _ h_ => h_.1))) (Kd.R_base ho0) hb); replace BK1617 := am (blk_below (g := gb1617) (o := .cells #[.slice Ao13 t1613.length co13] 26 (0, 0)) (by (with_reducible repeat (first | refine blk_drewN ?_ _ | refine blk_drew ?_ | refine blk_alloc ?_ _)); refine blk_put (cs := #[.slice none 0 0]) ?_ 0 _ rfl; (with_reducible repeat (first | refine blk_drewN ?_ _ | refine blk_drew ?_ | refine blk_alloc ?_ _)); exact BK1617.out) hb); replace HB := am (below_step bw hb); clear hb ho0) | ((with_reducible refine gate_callee (f := 120) rfl ?_); refine gl (some 28) Try.func120 #[.slice A0 l0.length c0] ?_; (with_reducible refine (spec_DrawMaximalOf.calls k _ _ l0 t1621 t1624 _ ?side1 ?side2 A6.out).mono ?_); (case side1 => exact co (Kd.C_below HR0.out HB.out)); (case side2 => exact HC0.out); rintro e w16 ⟨v1622, v1625, rfl, ho0, ho1, hb⟩; refine ⟨_, rfl, ?_⟩; have HO1623 := am (Kd.Q_lower (Kd.Q_new' (Kd.Q_new' ho0 (Kd.Q_lt (qo HO1615.out))) (Kd.R_lt (ro HO1620.out))) (below_size bw)); have HO1626 := am (Kd.R_lower (Kd.R_new' (Kd.R_new' ho1 (Kd.Q_lt (qo HO1615.out))) (Kd.R_lt (ro HO1620.out))) (below_size bw)); replace HO1615 := am (Kd.Q_mono (Kd.Q_told (Kd.Q_told (Kd.Q_old (qo HO1615.out) hb) (Kd.Q_base ho0)) (Kd.R_base ho1)) (fun _ h_ => h_.1)); replace HO1620 := am (Kd.R_mono (Kd.R_told (Kd.R_told (Kd.R_old (ro HO1620.out) hb) (Kd.Q_base ho0)) (Kd.R_base ho1)) (fun _ h_ => h_.1)); replace BK1617 := kb BK1617 hb; replace HB := am (below_step bw hb); clear hb ho0 ho1) | ((with_reducible refine gate_dst (N := 6) rfl ?_); (try (refine gate_guard (by rfl) ?_; dsimp only)); refine bx 6 #[.slice none 0 0] 26 ?_; intro gb1627 hg w17 hbox hb; replace HO1615 := am (Kd.Q_below (qo HO1615.out) hb); replace HO1620 := am (Kd.R_below (ro HO1620.out) hb); replace HO1623 := am (Kd.Q_below (qo HO1623.out) hb); replace HO1626 := am (Kd.R_below (ro HO1626.out) hb); have BK1627 := am (hbox); have GW1627 := am (gs hg : w.heap.size ≤ gb1627); have GE1627 := GW1627; replace HB := am (below_step bw hb); have NB1617_1627 := nl hg BK1617; have NB1627_1617 := ns NB1617_1627; replace BK1617 := kb BK1617 hb; clear hb hbox hg; obtain ⟨Ao18, co18, eo18, _⟩ := Kd.Q_slice HO1623.out; subst eo18; have hnb19 := NB1627_1617.out; have hnc19 := NB1617_1627.out; have hcz20_0 := bc BK1627 0 (.slice none 0 0); have hfz20_0 := blk_frozen BK1627.out 0; obtain ⟨Ao21, co21, eo21⟩ := Kd.R_slice HO1626.out; subst eo21) | ((with_reducible refine gate_callee (f := 121) rfl ?_); refine gl (some 33) Try.func121 #[.agg #[.slice Ao18 t1621.length co18], .slice Ao21 t1624.length co21] ?_; (with_reducible refine (impl_MaximalOf.calls k _ _ t1621 _ _ t1624 t1628 _ ?side1 ?side2 ?side3 ?side4 A7.out).mono ?_); (case side1 => refine (Kd.Q_reads' (e := 3) (base := w.heap.size) (ok := fun k_ => ((some k_ ≠ (.slice Ao21 t1624.length co21 : Value).ownBlock ∧ some k_ ≠ (.slice Ao13 t1613.length co13 : Value).ownBlock) ∧ some k_ ≠ (v1619 : Value).ownBlock)) (n := t1621.length) (c := co18) ?_).2.2; exact (by (with_reducible repeat (first | apply Kd.Q_alloc | apply Kd.Q_drewN | apply Kd.Q_drew)); exact (Kd.Q_mono (Kd.Q_far (p := ⟨gb1627, 0, none⟩) (Kd.Q_types HO1623.out BK1627.out (by decide)) (fun _ hk => hk.2) (.slice Ao18 t1621.length co18)) (fun _ h_ => h_.1)))); (case side2 => exact (Kd.Q_reads' HO1623.out).2.1); (case side3 => refine (Kd.R_reads' (e := 3) (base := w.heap.size) (ok := fun k_ => ((some k_ ≠ (.slice Ao18 t1621.length co18 : Value).ownBlock ∧ some k_ ≠ (.slice Ao13 t1613.length co13 : Value).ownBlock) ∧ some k_ ≠ (v1619 : Value).ownBlock)) (n := t1624.length) (c := co21) ?_).2.2; exact (by (with_reducible repeat (first | apply Kd.R_alloc | apply Kd.R_drewN | apply Kd.R_drew)); exact (Kd.R_mono (Kd.R_far (p := ⟨gb1627, 0, none⟩) (Kd.R_types HO1626.out BK1627.out (by decide)) (fun _ hk => hk.2) (.slice Ao18 t1621.length co18)) (fun _ h_ => h_.1)))); (case side4 => exact (Kd.R_reads' HO1626.out).2.1); rintro e w22 ⟨v1629, rfl, ho0, hb⟩; refine ⟨_, rfl, ?_⟩; have HO1630 := am (Kd.R_lower (Kd.R_new' (Kd.R_new' (Kd.R_new' (Kd.R_new' ho0 (Kd.Q_lt (by (with_reducible repeat (first | apply Kd.Q_alloc | apply Kd.Q_drewN | apply Kd.Q_drew)); exact (Kd.Q_mono (Kd.Q_far (p := ⟨gb1627, 0, none⟩) (Kd.Q_types HO1615.out BK1627.out (by decide)) (fun _ hk => hk.2) (.slice Ao18 t1621.length co18)) (fun _ h_ => h_.1))))) (Kd.R_lt (by (with_reducible repeat (first | apply Kd.R_alloc | apply Kd.R_drewN | apply Kd.R_drew)); exact (Kd.R_mono (Kd.R_far (p := ⟨gb1627, 0, none⟩) (Kd.R_types HO1620.out BK1627.out (by decide)) (fun _ hk => hk.2) (.slice Ao18 t1621.length co18)) (fun _ h_ => h_.1))))) (Kd.Q_lt (by (with_reducible repeat (first | apply Kd.Q_alloc | apply Kd.Q_drewN | apply Kd.Q_drew)); exact (Kd.Q_mono (Kd.Q_far (p := ⟨gb1627, 0, none⟩) (Kd.Q_types HO1623.out BK1627.out (by decide)) (fun _ hk => hk.2) (.slice Ao18 t1621.length co18)) (fun _ h_ => h_.1))))) (Kd.R_lt (by (with_reducible repeat (first | apply Kd.R_alloc | apply Kd.R_drewN | apply Kd.R_drew)); exact (Kd.R_mono (Kd.R_far (p := ⟨gb1627, 0, none⟩) (Kd.R_types HO1626.out BK1627.out (by decide)) (fun _ hk => hk.2) (.slice Ao18 t1621.length co18)) (fun _ h_ => h_.1))))) (below_size bw)); replace HO1615 := am (Kd.Q_elder' (by (with_reducible repeat (first | apply Kd.Q_alloc | apply Kd.Q_drewN | apply Kd.Q_drew)); exact (Kd.Q_mono (Kd.Q_far (p := ⟨gb1627, 0, none⟩) (Kd.Q_types HO1615.out BK1627.out (by decide)) (fun _ hk => hk.2) (.slice Ao18 t1621.length co18)) (fun _ h_ => h_.1))) (Kd.R_base ho0) hb); replace HO1620 := am (Kd.R_elder' (by (with_reducible repeat (first | apply Kd.R_alloc | apply Kd.R_drewN | apply Kd.R_drew)); exact (Kd.R_mono (Kd.R_far (p := ⟨gb1627, 0, none⟩) (Kd.R_types HO1620.out BK1627.out (by decide)) (fun _ hk => hk.2) (.slice Ao18 t1621.length co18)) (fun _ h_ => h_.1))) (Kd.R_base ho0) hb); replace HO1623 := am (Kd.Q_elder' (by (with_reducible repeat (first | apply Kd.Q_alloc | apply Kd.Q_drewN | apply Kd.Q_drew)); exact (Kd.Q_mono (Kd.Q_far (p := ⟨gb1627, 0, none⟩) (Kd.Q_types HO1623.out BK1627.out (by decide)) (fun _ hk => hk.2) (.slice Ao18 t1621.length co18)) (fun _ h_ => h_.1))) (Kd.R_base ho0) hb); replace HO1626 := am (Kd.R_elder' (by (with_reducible repeat (first | apply Kd.R_alloc | apply Kd.R_drewN | apply Kd.R_drew)); exact (Kd.R_mono (Kd.R_far (p := ⟨gb1627, 0, none⟩) (Kd.R_types HO1626.out BK1627.out (by decide)) (fun _ hk => hk.2) (.slice Ao18 t1621.length co18)) (fun _ h_ => h_.1))) (Kd.R_base ho0) hb); replace BK1617 := kb BK1617 hb; replace BK1627 := am (blk_below (g := gb1627) (o := .cells #[.slice Ao18 t1621.length co18] 26 (0, 0)) (by (with_reducible repeat (first | refine blk_drewN ?_ _ | refine blk_drew ?_ | refine blk_alloc ?_ _)); refine blk_put (cs := #[.slice none 0 0]) ?_ 0 _ rfl; (with_reducible repeat (first | refine blk_drewN ?_ _ | refine blk_drew ?_ | refine blk_alloc ?_ _)); exact BK1627.out) hb); replace HB := am (below_step bw hb); clear hb ho0; have hcz23_0 := bc BK1627 0 (.slice Ao18 t1621.length co18); have hfz23_0 := blk_frozen BK1627.out 0) | ((with_reducible refine gate_callee (f := 122) rfl ?_); refine gl (some 36) Try.func122 #[.agg #[.slice Ao18 t1621.length co18], .slice Ao21 t1624.length co21] ?_; (with_reducible refine (impl_MinimalIn.calls k _ _ t1621 _ _ t1624 t1631 _ ?side1 ?side2 ?side3 ?side4 A8.out).mono ?_); (case side1 => exact co (Kd.Q_reads' HO1623.out).2.2); (case side2 => exact (Kd.Q_reads' HO1623.out).2.1); (case side3 => exact co (Kd.R_reads' HO1626.out).2.2); (case side4 => exact (Kd.R_reads' HO1626.out).2.1); rintro e w24 ⟨v1632, rfl, ho0, hb⟩; refine ⟨_, rfl, ?_⟩; have HO1633 := am (Kd.R_lower (Kd.R_new' (Kd.R_new' (Kd.R_new' (Kd.R_new' (Kd.R_new' ho0 (Kd.Q_lt (qo HO1615.out))) (Kd.R_lt (ro HO1620.out))) (Kd.Q_lt (qo HO1623.out))) (Kd.R_lt (ro HO1626.out))) (Kd.R_lt (ro HO1630.out))) (below_size bw)); replace HO1615 := am (Kd.Q_elder' (qo HO1615.out) (Kd.R_base ho0) hb); replace HO1620 := am (Kd.R_elder' (ro HO1620.out) (Kd.R_base ho0) hb); replace HO1623 := am (Kd.Q_elder' (qo HO1623.out) (Kd.R_base ho0) hb); replace HO1626 := am (Kd.R_elder' (ro HO1626.out) (Kd.R_base ho0) hb); replace HO1630 := am (Kd.R_elder' (ro HO1630.out) (Kd.R_base ho0) hb); replace BK1617 := kb BK1617 hb; replace BK1627 := kb BK1627 hb; replace HB := am (below_step bw hb); clear hb ho0) | ((with_reducible refine gate_callee (f := 123) rfl ?_); refine gl (some 39) Try.func123 #[.slice A0 l0.length c0] ?_; (with_reducible refine (spec_DrawIsBelow.calls k _ _ l0 t1634 t1637 t1638 _ ?side1 ?side2 A9.out).mono ?_); (case side1 => exact co (Kd.C_below HR0.out HB.out)); (case side2 => exact HC0.out); rintro e w25 ⟨v1635, rfl, ho0, hb⟩; refine ⟨_, rfl, ?_⟩; have HO1636 := am (Kd.Q_lower (Kd.Q_new' (Kd.Q_new' (Kd.Q_new' (Kd.Q_new' (Kd.Q_new' (Kd.Q_new' ho0 (Kd.Q_lt (qo HO1615.out))) (Kd.R_lt (ro HO1620.out))) (Kd.Q_lt (qo HO1623.out))) (Kd.R_lt (ro HO1626.out))) (Kd.R_lt (ro HO1630.out))) (Kd.R_lt (ro HO1633.out))) (below_size bw)); replace HO1615 := am (Kd.Q_elder' (qo HO1615.out) (Kd.Q_base ho0) hb); replace HO1620 := am (Kd.R_elder' (ro HO1620.out) (Kd.Q_base ho0) hb); replace HO1623 := am (Kd.Q_elder' (qo HO1623.out) (Kd.Q_base ho0) hb); replace HO1626 := am (Kd.R_elder' (ro HO1626.out) (Kd.Q_base ho0) hb); replace HO1630 := am (Kd.R_elder' (ro HO1630.out) (Kd.Q_base ho0) hb); replace HO1633 := am (Kd.R_elder' (ro HO1633.out) (Kd.Q_base ho0) hb); replace BK1617 := kb BK1617 hb; replace BK1627 := kb BK1627 hb; replace HB := am (below_step bw hb); clear hb ho0) | ((with_reducible refine gate_dst (N := 10) rfl ?_); (try (refine gate_guard (by rfl) ?_; dsimp only)); refine bx 10 #[.slice none 0 0] 26 ?_; intro gb1639 hg w26 hbox hb; replace HO1615 := am (Kd.Q_below (qo HO1615.out) hb); replace HO1620 := am (Kd.R_below (ro HO1620.out) hb); replace HO1623 := am (Kd.Q_below (qo HO1623.out) hb); replace HO1626 := am (Kd.R_below (ro HO1626.out) hb); replace HO1630 := am (Kd.R_below (ro HO1630.out) hb); replace HO1633 := am (Kd.R_below (ro HO1633.out) hb); replace HO1636 := am (Kd.Q_below (qo HO1636.out) hb); have BK1639 := am (hbox); have GW1639 := am (gs hg : w.heap.size ≤ gb1639); have GE1639 := GW1639; replace HB := am (below_step bw hb); have NB1617_1639 := nl hg BK1617; have NB1639_1617 := ns NB1617_1639; replace BK1617 := kb BK1617 hb; have NB1627_1639 := nl hg BK1627; have NB1639_1627 := ns NB1627_1639; replace BK1627 := kb BK1627 hb; clear hb hbox hg; obtain ⟨Ao27, co27, eo27, _⟩ := Kd.Q_slice HO1636.out; subst eo27; have hnb28 := NB1639_1617.out; have hnc28 := NB1617_1639.out; have hnb29 := NB1639_1627.out; have hnc29 := NB1627_1639.out; have hcz30_0 := bc BK1639 0 (.slice none 0 0); have hfz30_0 := blk_frozen BK1639.out 0))
  (try simp only [Act.put, List.setIfInBounds_toArray, List.set_cons_zero, List.set_cons_succ])
  go_cut [75] (fun v75 wc => ∃ (kq : Nat) (x75_9 : Bool), v75 = .bool x75_9 ∧ Aside0 (laws_FnOrder.j0 kq t1618 t1624 t1631 x75_9 t1613 t1621 = some true) ∧ Aside0 (kq ≤ k) ∧ Aside0 (Kd.R (Kd.int .i64) 3 wc w.heap.size (fun k_ => some k_ ≠ ((.slice Ao21 t1624.length co21) : Value).ownBlock ∧ some k_ ≠ (v1632 : Value).ownBlock ∧ some k_ ≠ ((.slice Ao13 t1613.length co13) : Value).ownBlock ∧ some k_ ≠ ((.slice Ao18 t1621.length co18) : Value).ownBlock ∧ some k_ ≠ ((.slice Ao27 t1634.length co27) : Value).ownBlock) v1619 t1618) ∧ Aside0 (Kd.R (Kd.int .i64) 3 wc w.heap.size (fun k_ => some k_ ≠ (v1619 : Value).ownBlock ∧ some k_ ≠ (v1632 : Value).ownBlock ∧ some k_ ≠ ((.slice Ao13 t1613.length co13) : Value).ownBlock ∧ some k_ ≠ ((.slice Ao18 t1621.length co18) : Value).ownBlock ∧ some k_ ≠ ((.slice Ao27 t1634.length co27) : Value).ownBlock) (.slice Ao21 t1624.length co21) t1624) ∧ Aside0 (Kd.R (Kd.int .i64) 3 wc w.heap.size (fun k_ => some k_ ≠ (v1619 : Value).ownBlock ∧ some k_ ≠ ((.slice Ao21 t1624.length co21) : Value).ownBlock ∧ some k_ ≠ ((.slice Ao13 t1613.length co13) : Value).ownBlock ∧ some k_ ≠ ((.slice Ao18 t1621.length co18) : Value).ownBlock ∧ some k_ ≠ ((.slice Ao27 t1634.length co27) : Value).ownBlock) v1632 t1631) ∧ Aside0 (Kd.Q (Kd.int .i64) 3 wc w.heap.size (fun k_ => some k_ ≠ (v1619 : Value).ownBlock ∧ some k_ ≠ ((.slice Ao21 t1624.length co21) : Value).ownBlock ∧ some k_ ≠ (v1632 : Value).ownBlock ∧ some k_ ≠ ((.slice Ao18 t1621.length co18) : Value).ownBlock ∧ some k_ ≠ ((.slice Ao27 t1634.length co27) : Value).ownBlock) (.slice Ao13 t1613.length co13) t1613) ∧ Aside0 (Kd.Q (Kd.int .i64) 3 wc w.heap.size (fun k_ => some k_ ≠ (v1619 : Value).ownBlock ∧ some k_ ≠ ((.slice Ao21 t1624.length co21) : Value).ownBlock ∧ some k_ ≠ (v1632 : Value).ownBlock ∧ some k_ ≠ ((.slice Ao13 t1613.length co13) : Value).ownBlock ∧ some k_ ≠ ((.slice Ao27 t1634.length co27) : Value).ownBlock) (.slice Ao18 t1621.length co18) t1621) ∧ Aside0 (Kd.Q (Kd.int .i64) 3 wc w.heap.size (fun k_ => some k_ ≠ (v1619 : Value).ownBlock ∧ some k_ ≠ ((.slice Ao21 t1624.length co21) : Value).ownBlock ∧ some k_ ≠ (v1632 : Value).ownBlock ∧ some k_ ≠ ((.slice Ao13 t1613.length co13) : Value).ownBlock ∧ some k_ ≠ ((.slice Ao18 t1621.length co18) : Value).ownBlock) (.slice Ao27 t1634.length co27) t1634) ∧ Aside0 (wc.heap[gb1617]? = some (.cells #[(.slice Ao13 t1613.length co13)] 26 (0, 0))) ∧ Aside0 (wc.heap[gb1627]? = some (.cells #[(.slice Ao18 t1621.length co18)] 26 (0, 0))) ∧ Aside0 (wc.heap[gb1639]? = some (.cells #[(.slice Ao27 t1634.length co27)] 26 (0, 0))) ∧ Aside0 (Below w.heap.size w wc))
  case first =>
   have H := HC10.out
   clear HC10
   replace H := ga H; obtain ⟨t1640, A31, H⟩ := H
   replace H := ga H; obtain ⟨t1643, A32, H⟩ := H
   by_cases c33 : t1643 = true
   ·subst c33
    have H1 : ((spec_MaximalOf.f k t1621 t1624).bind fun t1644 => ((laws_sameInts.f k t1628 t1644).bind fun t1647 => (if t1647 = true then ((spec_MinimalIn.f k t1621 t1624).bind fun t1648 => ((laws_sameInts.f k t1631 t1648).bind fun t1651 => (if t1651 = true then ((impl_IsBelow.f k t1634 t1637 t1638).bind fun t1652 => ((spec_IsBelow.f k t1634 t1637 t1638).bind fun t1653 => (laws_FnOrder.j0 k t1618 t1624 t1631 (t1652 != t1653) t1613 t1621))) else (laws_FnOrder.j0 k t1618 t1624 t1631 true t1613 t1621)))) else (laws_FnOrder.j0 k t1618 t1624 t1631 true t1613 t1621)))) = some true := by rw [if_pos rfl] at H; exact H
    clear H
    have H := H1
    clear H1
    replace H := ga H; obtain ⟨t1644, A34, H⟩ := H
    replace H := ga H; obtain ⟨t1647, A35, H⟩ := H
    by_cases c36 : t1647 = true
    ·subst c36
     have H1 : ((spec_MinimalIn.f k t1621 t1624).bind fun t1648 => ((laws_sameInts.f k t1631 t1648).bind fun t1651 => (if t1651 = true then ((impl_IsBelow.f k t1634 t1637 t1638).bind fun t1652 => ((spec_IsBelow.f k t1634 t1637 t1638).bind fun t1653 => (laws_FnOrder.j0 k t1618 t1624 t1631 (t1652 != t1653) t1613 t1621))) else (laws_FnOrder.j0 k t1618 t1624 t1631 true t1613 t1621)))) = some true := by rw [if_pos rfl] at H; exact H
     clear H
     have H := H1
     clear H1
     replace H := ga H; obtain ⟨t1648, A37, H⟩ := H
     replace H := ga H; obtain ⟨t1651, A38, H⟩ := H
     by_cases c39 : t1651 = true
     ·subst c39
      have H1 : ((impl_IsBelow.f k t1634 t1637 t1638).bind fun t1652 => ((spec_IsBelow.f k t1634 t1637 t1638).bind fun t1653 => (laws_FnOrder.j0 k t1618 t1624 t1631 (t1652 != t1653) t1613 t1621))) = some true := by rw [if_pos rfl] at H; exact H
      clear H
      have H := H1
      clear H1
      replace H := ga H; obtain ⟨t1652, A40, H⟩ := H
      replace H := ga H; obtain ⟨t1653, A41, H⟩ := H
      have H' := am H
      clear H
      try go_wp2
      have n0_ : Aside0 (Kd.Q (Kd.int .i64) 3 (w26.setCell ⟨gb1639, 0, none⟩ (.slice Ao27 t1634.length co27)) w.heap.size (fun k_ => some k_ ≠ (v1619 : Value).ownBlock ∧ some k_ ≠ (.slice Ao18 t1621.length co18 : Value).ownBlock ∧ some k_ ≠ (.slice Ao21 t1624.length co21 : Value).ownBlock ∧ some k_ ≠ (v1629 : Value).ownBlock ∧ some k_ ≠ (v1632 : Value).ownBlock ∧ some k_ ≠ (.slice Ao27 t1634.length co27 : Value).ownBlock) (.slice Ao13 t1613.length co13) t1613) := ⟨by (with_reducible repeat (first | apply Kd.Q_alloc | apply Kd.Q_drewN | apply Kd.Q_drew)); exact Kd.Q_mono (Kd.Q_far (p := ⟨gb1639, 0, none⟩) (Kd.Q_types HO1615.out BK1639.out (by decide)) (fun _ hk => hk.2) (.slice Ao27 t1634.length co27)) (fun _ hk => ⟨hk.1.1.1.1.1.1.2, ⟨hk.1.1.1.1.1.2, ⟨hk.1.1.1.1.2, ⟨hk.1.1.1.2, ⟨hk.1.1.2, hk.1.2⟩⟩⟩⟩⟩)⟩
      have n1_ : Aside0 (Kd.R (Kd.int .i64) 3 (w26.setCell ⟨gb1639, 0, none⟩ (.slice Ao27 t1634.length co27)) w.heap.size (fun k_ => some k_ ≠ (.slice Ao13 t1613.length co13 : Value).ownBlock ∧ some k_ ≠ (.slice Ao18 t1621.length co18 : Value).ownBlock ∧ some k_ ≠ (.slice Ao21 t1624.length co21 : Value).ownBlock ∧ some k_ ≠ (v1629 : Value).ownBlock ∧ some k_ ≠ (v1632 : Value).ownBlock ∧ some k_ ≠ (.slice Ao27 t1634.length co27 : Value).ownBlock) v1619 t1618) := ⟨by (with_reducible repeat (first | apply Kd.R_alloc | apply Kd.R_drewN | apply Kd.R_drew)); exact Kd.R_mono (Kd.R_far (p := ⟨gb1639, 0, none⟩) (Kd.R_types HO1620.out BK1639.out (by decide)) (fun _ hk => hk.2) (.slice Ao27 t1634.length co27)) (fun _ hk => ⟨hk.1.1.1.1.1.1.2, ⟨hk.1.1.1.1.1.2, ⟨hk.1.1.1.1.2, ⟨hk.1.1.1.2, ⟨hk.1.1.2, hk.1.2⟩⟩⟩⟩⟩)⟩
      have n2_ : Aside0 (Kd.Q (Kd.int .i64) 3 (w26.setCell ⟨gb1639, 0, none⟩ (.slice Ao27 t1634.length co27)) w.heap.size (fun k_ => some k_ ≠ (.slice Ao13 t1613.length co13 : Value).ownBlock ∧ some k_ ≠ (v1619 : Value).ownBlock ∧ some k_ ≠ (.slice Ao21 t1624.length co21 : Value).ownBlock ∧ some k_ ≠ (v1629 : Value).ownBlock ∧ some k_ ≠ (v1632 : Value).ownBlock ∧ some k_ ≠ (.slice Ao27 t1634.length co27 : Value).ownBlock) (.slice Ao18 t1621.length co18) t1621) := ⟨by (with_reducible repeat (first | apply Kd.Q_alloc | apply Kd.Q_drewN | apply Kd.Q_drew)); exact Kd.Q_mono (Kd.Q_far (p := ⟨gb1639, 0, none⟩) (Kd.Q_types HO1623.out BK1639.out (by decide)) (fun _ hk => hk.2) (.slice Ao27 t1634.length co27)) (fun _ hk => ⟨hk.1.1.1.1.1.2, ⟨hk.1.1.1.1.2, ⟨hk.1.1.1.1.1.1, ⟨hk.1.1.1.2, ⟨hk.1.1.2, hk.1.2⟩⟩⟩⟩⟩)⟩
      have n3_ : Aside0 (Kd.R (Kd.int .i64) 3 (w26.setCell ⟨gb1639, 0, none⟩ (.slice Ao27 t1634.length co27)) w.heap.size (fun k_ => some k_ ≠ (.slice Ao13 t1613.length co13 : Value).ownBlock ∧ some k_ ≠ (v1619 : Value).ownBlock ∧ some k_ ≠ (.slice Ao18 t1621.length co18 : Value).ownBlock ∧ some k_ ≠ (v1629 : Value).ownBlock ∧ some k_ ≠ (v1632 : Value).ownBlock ∧ some k_ ≠ (.slice Ao27 t1634.length co27 : Value).ownBlock) (.slice Ao21 t1624.length co21) t1624) := ⟨by (with_reducible repeat (first | apply Kd.R_alloc | apply Kd.R_drewN | apply Kd.R_drew)); exact Kd.R_mono (Kd.R_far (p := ⟨gb1639, 0, none⟩) (Kd.R_types HO1626.out BK1639.out (by decide)) (fun _ hk => hk.2) (.slice Ao27 t1634.length co27)) (fun _ hk => ⟨hk.1.1.1.1.1.2, ⟨hk.1.1.1.1.2, ⟨hk.1.1.1.1.1.1, ⟨hk.1.1.1.2, ⟨hk.1.1.2, hk.1.2⟩⟩⟩⟩⟩)⟩
      have n4_ : Aside0 (Kd.R (Kd.int .i64) 3 (w26.setCell ⟨gb1639, 0, none⟩ (.slice Ao27 t1634.length co27)) w.heap.size (fun k_ => some k_ ≠ (.slice Ao13 t1613.length co13 : Value).ownBlock ∧ some k_ ≠ (v1619 : Value).ownBlock ∧ some k_ ≠ (.slice Ao18 t1621.length co18 : Value).ownBlock ∧ some k_ ≠ (.slice Ao21 t1624.length co21 : Value).ownBlock ∧ some k_ ≠ (v1632 : Value).ownBlock ∧ some k_ ≠ (.slice Ao27 t1634.length co27 : Value).ownBlock) v1629 t1628) := ⟨by (with_reducible repeat (first | apply Kd.R_alloc | apply Kd.R_drewN | apply Kd.R_drew)); exact Kd.R_mono (Kd.R_far (p := ⟨gb1639, 0, none⟩) (Kd.R_types HO1630.out BK1639.out (by decide)) (fun _ hk => hk.2) (.slice Ao27 t1634.length co27)) (fun _ hk => ⟨hk.1.1.1.1.1.1.2, ⟨hk.1.1.1.1.1.2, ⟨hk.1.1.1.1.2, ⟨hk.1.1.1.2, ⟨hk.1.1.2, hk.1.2⟩⟩⟩⟩⟩)⟩
      have n5_ : Aside0 (Kd.R (Kd.int .i64) 3 (w26.setCell ⟨gb1639, 0, none⟩ (.slice Ao27 t1634.length co27)) w.heap.size (fun k_ => some k_ ≠ (.slice Ao13 t1613.length co13 : Value).ownBlock ∧ some k_ ≠ (v1619 : Value).ownBlock ∧ some k_ ≠ (.slice Ao18 t1621.length co18 : Value).ownBlock ∧ some k_ ≠ (.slice Ao21 t1624.length co21 : Value).ownBlock ∧ some k_ ≠ (v1629 : Value).ownBlock ∧ some k_ ≠ (.slice Ao27 t1634.length co27 : Value).ownBlock) v1632 t1631) := ⟨by (with_reducible repeat (first | apply Kd.R_alloc | apply Kd.R_drewN | apply Kd.R_drew)); exact Kd.R_mono (Kd.R_far (p := ⟨gb1639, 0, none⟩) (Kd.R_types HO1633.out BK1639.out (by decide)) (fun _ hk => hk.2) (.slice Ao27 t1634.length co27)) (fun _ hk => ⟨hk.1.1.1.1.1.1.2, ⟨hk.1.1.1.1.1.2, ⟨hk.1.1.1.1.2, ⟨hk.1.1.1.2, ⟨hk.1.1.2, hk.1.2⟩⟩⟩⟩⟩)⟩
      have n6_ : Aside0 (Kd.Q (Kd.int .i64) 3 (w26.setCell ⟨gb1639, 0, none⟩ (.slice Ao27 t1634.length co27)) w.heap.size (fun k_ => some k_ ≠ (.slice Ao13 t1613.length co13 : Value).ownBlock ∧ some k_ ≠ (v1619 : Value).ownBlock ∧ some k_ ≠ (.slice Ao18 t1621.length co18 : Value).ownBlock ∧ some k_ ≠ (.slice Ao21 t1624.length co21 : Value).ownBlock ∧ some k_ ≠ (v1629 : Value).ownBlock ∧ some k_ ≠ (v1632 : Value).ownBlock) (.slice Ao27 t1634.length co27) t1634) := ⟨by (with_reducible repeat (first | apply Kd.Q_alloc | apply Kd.Q_drewN | apply Kd.Q_drew)); exact Kd.Q_mono (Kd.Q_far (p := ⟨gb1639, 0, none⟩) (Kd.Q_types HO1636.out BK1639.out (by decide)) (fun _ hk => hk.2) (.slice Ao27 t1634.length co27)) (fun _ hk => ⟨hk.1.1.1.1.1.1.2, ⟨hk.1.1.1.1.1.2, ⟨hk.1.1.1.1.2, ⟨hk.1.1.1.2, ⟨hk.1.1.2, hk.1.2⟩⟩⟩⟩⟩)⟩
      have n7_ : Aside0 ((w26.setCell ⟨gb1639, 0, none⟩ (.slice Ao27 t1634.length co27)).heap[gb1617]? = some (.cells #[.slice Ao13 t1613.length co13] 26 (0, 0))) := ⟨bf BK1617.out⟩
      have n8_ : Aside0 ((w26.setCell ⟨gb1639, 0, none⟩ (.slice Ao27 t1634.length co27)).heap[gb1627]? = some (.cells #[.slice Ao18 t1621.length co18] 26 (0, 0))) := ⟨bf BK1627.out⟩
      have n9_ : Aside0 ((w26.setCell ⟨gb1639, 0, none⟩ (.slice Ao27 t1634.length co27)).heap[gb1639]? = some (.cells #[.slice Ao27 t1634.length co27] 26 (0, 0))) := ⟨by (with_reducible repeat (first | refine blk_drewN ?_ _ | refine blk_drew ?_ | refine blk_alloc ?_ _)); refine blk_put (cs := #[.slice none 0 0]) ?_ 0 _ rfl; (with_reducible repeat (first | refine blk_drewN ?_ _ | refine blk_drew ?_ | refine blk_alloc ?_ _)); exact BK1639.out⟩
      have n10_ : Aside0 (Below w.heap.size w (w26.setCell ⟨gb1639, 0, none⟩ (.slice Ao27 t1634.length co27))) := ⟨bw⟩
      (try clear HO1615); (try clear HO1620); (try clear HO1623); (try clear HO1626); (try clear HO1630); (try clear HO1633); (try clear HO1636); (try clear BK1617); (try clear BK1627); (try clear BK1639); (try clear HB)
      generalize (w26.setCell ⟨gb1639, 0, none⟩ (.slice Ao27 t1634.length co27)) = w42 at n0_ n1_ n2_ n3_ n4_ n5_ n6_ n7_ n8_ n9_ n10_ ⊢
      have HO1615 := n0_
      have HO1620 := n1_
      have HO1623 := n2_
      have HO1626 := n3_
      have HO1630 := n4_
      have HO1633 := n5_
      have HO1636 := n6_
      have BK1617 := n7_
      have BK1627 := n8_
      have BK1639 := n9_
      have HB := n10_
      clear n0_ n1_ n2_ n3_ n4_ n5_ n6_ n7_ n8_ n9_ n10_
      replace HO1615 := am (Kd.Q_drew HO1615.out)
      replace HO1620 := am (Kd.R_drew HO1620.out)
      replace HO1623 := am (Kd.Q_drew HO1623.out)
      replace HO1626 := am (Kd.R_drew HO1626.out)
      replace HO1630 := am (Kd.R_drew HO1630.out)
      replace HO1633 := am (Kd.R_drew HO1633.out)
      replace HO1636 := am (Kd.Q_drew HO1636.out)
      replace BK1617 := am (blk_drew BK1617.out)
      replace BK1627 := am (blk_drew BK1627.out)
      replace BK1639 := am (blk_drew BK1639.out)
      replace HB := am (below_drew1 HB.out)
      refine start_ (n := 33) (S := fun w' => w'.cell? ⟨gb1617, 0, none⟩ = some (.slice Ao13 t1613.length co13) ∧ w'.cell? ⟨gb1627, 0, none⟩ = some (.slice Ao18 t1621.length co18) ∧ w'.cell? ⟨gb1639, 0, none⟩ = some (.slice Ao27 t1634.length co27)) (ds := []) (yz 33 0) (by kernel_rfl) rfl rfl ⟨(blk_cell BK1617.out 0).trans rfl, (blk_cell BK1627.out 0).trans rfl, (blk_cell BK1639.out 0).trans rfl⟩ (fun hHeld => ?_); refine with_tabW laws_FnOrder.tab9 laws_FnOrder.bits9 (fun HT_ HW_ => ?_)
      generalize w42.drew = w43 at HO1615 HO1620 HO1623 HO1626 HO1630 HO1633 HO1636 BK1617 BK1627 BK1639 HB hHeld ⊢
      refine pa 0 (some 43) (yz 33 1) HT_ ?_
      refine pa 2 (some 45) (yz 33 5) HT_ ?_
      refine take_ (i := 1) (N := some 44) (v := ?_) (a' := ?_) (yz 33 7) rfl rfl (take_ofW HT_.out HW_.out (by kernel_rfl)) (fun _ _ _ h => h) (Or.inl ⟨by rfl, ?_⟩) hHeld ?_ ?_
      rotate_left
      ·rintro w' ⟨s0, s1, s2⟩
       go_simp
       with_reducible rfl
      rotate_left
      ·simp only [Act.put, qa, qb, qc, i64_w, i32_w]
       rfl
      refine oa 3 (some 46) (yz 33 15) HT_ (fun K hK => ?_)
      refine gm Try.func124 #[.agg #[.slice Ao13 t1613.length co13], .int .i64 t1616] ?_
      with_reducible refine (spec_ExceedingOf.calls k _ _ t1613 t1616 t1640 _ ?side1 ?side2 A31.out).mono ?_
      (case side1 => exact co (Kd.Q_reads' HO1615.out).2.2)
      (case side2 => exact (Kd.Q_reads' HO1615.out).2.1)
      rintro e w44 ⟨v1641, rfl, ho0, hb⟩
      refine ⟨_, rfl, ?_⟩
      have HO1642 := am (Kd.R_lower (Kd.R_new' (Kd.R_new' (Kd.R_new' (Kd.R_new' (Kd.R_new' (Kd.R_new' (Kd.R_new' ho0 (Kd.Q_lt (qo HO1615.out))) (Kd.R_lt (ro HO1620.out))) (Kd.Q_lt (qo HO1623.out))) (Kd.R_lt (ro HO1626.out))) (Kd.R_lt (ro HO1630.out))) (Kd.R_lt (ro HO1633.out))) (Kd.Q_lt (qo HO1636.out))) (below_size bw))
      replace HO1615 := am (Kd.Q_elder' (qo HO1615.out) (Kd.R_base ho0) hb)
      replace HO1620 := am (Kd.R_elder' (ro HO1620.out) (Kd.R_base ho0) hb)
      replace HO1623 := am (Kd.Q_elder' (qo HO1623.out) (Kd.R_base ho0) hb)
      replace HO1626 := am (Kd.R_elder' (ro HO1626.out) (Kd.R_base ho0) hb)
      replace HO1630 := am (Kd.R_elder' (ro HO1630.out) (Kd.R_base ho0) hb)
      replace HO1633 := am (Kd.R_elder' (ro HO1633.out) (Kd.R_base ho0) hb)
      replace HO1636 := am (Kd.Q_elder' (qo HO1636.out) (Kd.R_base ho0) hb)
      replace BK1617 := kb BK1617 hb
      replace BK1627 := kb BK1627 hb
      replace BK1639 := kb BK1639 hb
      replace HB := am (below_step bw hb)
      clear hb ho0
      obtain ⟨Ao45, co45, eo45⟩ := Kd.R_slice HO1620.out
      (first | subst eo45 | (injection eo45 with f1_ f2_ f3_; have f4_ := f1_.symm; have f5_ := f3_.symm; clear f1_ f2_ f3_; subst f4_; subst f5_))
      obtain ⟨Ao46, co46, eo46⟩ := Kd.R_slice HO1642.out
      (first | subst eo46 | (injection eo46 with f1_ f2_ f3_; have f4_ := f1_.symm; have f5_ := f3_.symm; clear f1_ f2_ f3_; subst f4_; subst f5_))
      refine hK.out _ _ ⟨(blk_cell BK1617.out 0).trans rfl, (blk_cell BK1627.out 0).trans rfl, (blk_cell BK1639.out 0).trans rfl⟩ (fun hHeld => ?_)
      clear hK K
      refine norm_ (a' := ?_) ?_ ?_
      rotate_left
      ·show Act.put _ (some 46) _ = _
       simp only [Act.put, qa, qb, qc, i64_w, i32_w]
       rfl
      refine oa 4 (some 47) (yz 33 31) HT_ (fun K hK => ?_)
      refine gm Try.func20 #[.slice Ao45 t1618.length co45, .slice Ao46 t1640.length co46] ?_
      with_reducible refine (laws_sameInts.calls k _ _ t1618 _ _ t1640 true _ ?side1 ?side2 ?side3 ?side4 A32.out).mono ?_
      (case side1 => exact co (Kd.R_reads' HO1620.out).2.2)
      (case side2 => exact (Kd.R_reads' HO1620.out).2.1)
      (case side3 => exact co (Kd.R_reads' HO1642.out).2.2)
      (case side4 => exact (Kd.R_reads' HO1642.out).2.1)
      rintro e w' ⟨rfl, ⟨nd, rfl⟩⟩
      refine ⟨_, rfl, ?_⟩
      refine hK.out _ _ ⟨(blk_cell BK1617.out 0).trans rfl, (blk_cell BK1627.out 0).trans rfl, (blk_cell BK1639.out 0).trans rfl⟩ (fun hHeld => ?_)
      clear hK K
      refine norm_ (a' := ?_) ?_ ?_
      rotate_left
      ·show Act.put _ (some 47) _ = _
       simp only [Act.put, qa, qb, qc, i64_w, i32_w]
       rfl
      refine pa 5 (some 48) (yz 33 63) HT_ ?_
      refine pa 6 (some 49) (yz 33 127) HT_ ?_
      refine pa 7 (some 50) (yz 33 255) HT_ ?_
      refine pa 9 (some 52) (yz 33 767) HT_ ?_
      refine take_ (i := 8) (N := some 51) (v := ?_) (a' := ?_) (yz 33 1023) rfl rfl (take_ofW HT_.out HW_.out (by kernel_rfl)) (fun _ _ _ h => h) (Or.inl ⟨by rfl, ?_⟩) hHeld ?_ ?_
      rotate_left
      ·rintro w' ⟨s0, s1, s2⟩
       go_simp
       with_reducible rfl
      rotate_left
      ·simp only [Act.put, qa, qb, qc, i64_w, i32_w]
       rfl
      refine oa 10 (some 53) (yz 33 2047) HT_ (fun K hK => ?_)
      refine gm Try.func125 #[.agg #[.slice Ao18 t1621.length co18], .slice Ao21 t1624.length co21] ?_
      with_reducible refine (spec_MaximalOf.calls k _ _ t1621 _ _ t1624 t1644 _ ?side1 ?side2 ?side3 ?side4 A34.out).mono ?_
      (case side1 => exact co (Kd.Q_reads' HO1623.out).2.2)
      (case side2 => exact (Kd.Q_reads' HO1623.out).2.1)
      (case side3 => exact co (Kd.R_reads' HO1626.out).2.2)
      (case side4 => exact (Kd.R_reads' HO1626.out).2.1)
      rintro e w47 ⟨v1645, rfl, ho0, hb⟩
      refine ⟨_, rfl, ?_⟩
      have HO1646 := am (Kd.R_lower (Kd.R_new' (Kd.R_new' (Kd.R_new' (Kd.R_new' (Kd.R_new' (Kd.R_new' (Kd.R_new' (Kd.R_new' ho0 (Kd.Q_lt (qo HO1615.out))) (Kd.R_lt (ro HO1620.out))) (Kd.Q_lt (qo HO1623.out))) (Kd.R_lt (ro HO1626.out))) (Kd.R_lt (ro HO1630.out))) (Kd.R_lt (ro HO1633.out))) (Kd.Q_lt (qo HO1636.out))) (Kd.R_lt (ro HO1642.out))) (below_size bw))
      replace HO1615 := am (Kd.Q_elder' (qo HO1615.out) (Kd.R_base ho0) hb)
      replace HO1620 := am (Kd.R_elder' (ro HO1620.out) (Kd.R_base ho0) hb)
      replace HO1623 := am (Kd.Q_elder' (qo HO1623.out) (Kd.R_base ho0) hb)
      replace HO1626 := am (Kd.R_elder' (ro HO1626.out) (Kd.R_base ho0) hb)
      replace HO1630 := am (Kd.R_elder' (ro HO1630.out) (Kd.R_base ho0) hb)
      replace HO1633 := am (Kd.R_elder' (ro HO1633.out) (Kd.R_base ho0) hb)
      replace HO1636 := am (Kd.Q_elder' (qo HO1636.out) (Kd.R_base ho0) hb)
      replace HO1642 := am (Kd.R_elder' (ro HO1642.out) (Kd.R_base ho0) hb)
      replace BK1617 := kb BK1617 hb
      replace BK1627 := kb BK1627 hb
      replace BK1639 := kb BK1639 hb
      replace HB := am (below_step bw hb)
      clear hb ho0
      obtain ⟨Ao48, co48, eo48⟩ := Kd.R_slice HO1630.out
      (first | subst eo48 | (injection eo48 with f1_ f2_ f3_; have f4_ := f1_.symm; have f5_ := f3_.symm; clear f1_ f2_ f3_; subst f4_; subst f5_))
      obtain ⟨Ao49, co49, eo49⟩ := Kd.R_slice HO1646.out
      (first | subst eo49 | (injection eo49 with f1_ f2_ f3_; have f4_ := f1_.symm; have f5_ := f3_.symm; clear f1_ f2_ f3_; subst f4_; subst f5_))
      refine hK.out _ _ ⟨(blk_cell BK1617.out 0).trans rfl, (blk_cell BK1627.out 0).trans rfl, (blk_cell BK1639.out 0).trans rfl⟩ (fun hHeld => ?_)
      clear hK K
      refine norm_ (a' := ?_) ?_ ?_
      rotate_left
      ·show Act.put _ (some 53) _ = _
       simp only [Act.put, qa, qb, qc, i64_w, i32_w]
       rfl
      refine oa 11 (some 54) (yz 33 4095) HT_ (fun K hK => ?_)
      refine gm Try.func20 #[.slice Ao48 t1628.length co48, .slice Ao49 t1644.length co49] ?_
      with_reducible refine (laws_sameInts.calls k _ _ t1628 _ _ t1644 true _ ?side1 ?side2 ?side3 ?side4 A35.out).mono ?_
      (case side1 => exact co (Kd.R_reads' HO1630.out).2.2)
      (case side2 => exact (Kd.R_reads' HO1630.out).2.1)
      (case side3 => exact co (Kd.R_reads' HO1646.out).2.2)
      (case side4 => exact (Kd.R_reads' HO1646.out).2.1)
      rintro e w' ⟨rfl, ⟨nd, rfl⟩⟩
      refine ⟨_, rfl, ?_⟩
      refine hK.out _ _ ⟨(blk_cell BK1617.out 0).trans rfl, (blk_cell BK1627.out 0).trans rfl, (blk_cell BK1639.out 0).trans rfl⟩ (fun hHeld => ?_)
      clear hK K
      refine norm_ (a' := ?_) ?_ ?_
      rotate_left
      ·show Act.put _ (some 54) _ = _
       simp only [Act.put, qa, qb, qc, i64_w, i32_w]
       rfl
      refine pa 12 (some 55) (yz 33 8191) HT_ ?_
      refine pa 13 (some 56) (yz 33 16383) HT_ ?_
      refine pa 14 (some 57) (yz 33 32767) HT_ ?_
      refine pa 15 (some 58) (yz 33 65535) HT_ ?_
      refine pa 17 (some 60) (yz 33 196607) HT_ ?_
      refine take_ (i := 16) (N := some 59) (v := ?_) (a' := ?_) (yz 33 262143) rfl rfl (take_ofW HT_.out HW_.out (by kernel_rfl)) (fun _ _ _ h => h) (Or.inl ⟨by rfl, ?_⟩) hHeld ?_ ?_
      rotate_left
      ·rintro w' ⟨s0, s1, s2⟩
       go_simp
       with_reducible rfl
      rotate_left
      ·simp only [Act.put, qa, qb, qc, i64_w, i32_w]
       rfl
      refine oa 18 (some 61) (yz 33 524287) HT_ (fun K hK => ?_)
      refine gm Try.func126 #[.agg #[.slice Ao18 t1621.length co18], .slice Ao21 t1624.length co21] ?_
      with_reducible refine (spec_MinimalIn.calls k _ _ t1621 _ _ t1624 t1648 _ ?side1 ?side2 ?side3 ?side4 A37.out).mono ?_
      (case side1 => exact co (Kd.Q_reads' HO1623.out).2.2)
      (case side2 => exact (Kd.Q_reads' HO1623.out).2.1)
      (case side3 => exact co (Kd.R_reads' HO1626.out).2.2)
      (case side4 => exact (Kd.R_reads' HO1626.out).2.1)
      rintro e w50 ⟨v1649, rfl, ho0, hb⟩
      refine ⟨_, rfl, ?_⟩
      have HO1650 := am (Kd.R_lower (Kd.R_new' (Kd.R_new' (Kd.R_new' (Kd.R_new' (Kd.R_new' (Kd.R_new' (Kd.R_new' (Kd.R_new' (Kd.R_new' ho0 (Kd.Q_lt (qo HO1615.out))) (Kd.R_lt (ro HO1620.out))) (Kd.Q_lt (qo HO1623.out))) (Kd.R_lt (ro HO1626.out))) (Kd.R_lt (ro HO1630.out))) (Kd.R_lt (ro HO1633.out))) (Kd.Q_lt (qo HO1636.out))) (Kd.R_lt (ro HO1642.out))) (Kd.R_lt (ro HO1646.out))) (below_size bw))
      replace HO1615 := am (Kd.Q_elder' (qo HO1615.out) (Kd.R_base ho0) hb)
      replace HO1620 := am (Kd.R_elder' (ro HO1620.out) (Kd.R_base ho0) hb)
      replace HO1623 := am (Kd.Q_elder' (qo HO1623.out) (Kd.R_base ho0) hb)
      replace HO1626 := am (Kd.R_elder' (ro HO1626.out) (Kd.R_base ho0) hb)
      replace HO1630 := am (Kd.R_elder' (ro HO1630.out) (Kd.R_base ho0) hb)
      replace HO1633 := am (Kd.R_elder' (ro HO1633.out) (Kd.R_base ho0) hb)
      replace HO1636 := am (Kd.Q_elder' (qo HO1636.out) (Kd.R_base ho0) hb)
      replace HO1642 := am (Kd.R_elder' (ro HO1642.out) (Kd.R_base ho0) hb)
      replace HO1646 := am (Kd.R_elder' (ro HO1646.out) (Kd.R_base ho0) hb)
      replace BK1617 := kb BK1617 hb
      replace BK1627 := kb BK1627 hb
      replace BK1639 := kb BK1639 hb
      replace HB := am (below_step bw hb)
      clear hb ho0
      obtain ⟨Ao51, co51, eo51⟩ := Kd.R_slice HO1633.out
      (first | subst eo51 | (injection eo51 with f1_ f2_ f3_; have f4_ := f1_.symm; have f5_ := f3_.symm; clear f1_ f2_ f3_; subst f4_; subst f5_))
      obtain ⟨Ao52, co52, eo52⟩ := Kd.R_slice HO1650.out
      (first | subst eo52 | (injection eo52 with f1_ f2_ f3_; have f4_ := f1_.symm; have f5_ := f3_.symm; clear f1_ f2_ f3_; subst f4_; subst f5_))
      refine hK.out _ _ ⟨(blk_cell BK1617.out 0).trans rfl, (blk_cell BK1627.out 0).trans rfl, (blk_cell BK1639.out 0).trans rfl⟩ (fun hHeld => ?_)
      clear hK K
      refine norm_ (a' := ?_) ?_ ?_
      rotate_left
      ·show Act.put _ (some 61) _ = _
       simp only [Act.put, qa, qb, qc, i64_w, i32_w]
       rfl
      refine oa 19 (some 62) (yz 33 1048575) HT_ (fun K hK => ?_)
      refine gm Try.func20 #[.slice Ao51 t1631.length co51, .slice Ao52 t1648.length co52] ?_
      with_reducible refine (laws_sameInts.calls k _ _ t1631 _ _ t1648 true _ ?side1 ?side2 ?side3 ?side4 A38.out).mono ?_
      (case side1 => exact co (Kd.R_reads' HO1633.out).2.2)
      (case side2 => exact (Kd.R_reads' HO1633.out).2.1)
      (case side3 => exact co (Kd.R_reads' HO1650.out).2.2)
      (case side4 => exact (Kd.R_reads' HO1650.out).2.1)
      rintro e w' ⟨rfl, ⟨nd, rfl⟩⟩
      refine ⟨_, rfl, ?_⟩
      refine hK.out _ _ ⟨(blk_cell BK1617.out 0).trans rfl, (blk_cell BK1627.out 0).trans rfl, (blk_cell BK1639.out 0).trans rfl⟩ (fun hHeld => ?_)
      clear hK K
      refine norm_ (a' := ?_) ?_ ?_
      rotate_left
      ·show Act.put _ (some 62) _ = _
       simp only [Act.put, qa, qb, qc, i64_w, i32_w]
       rfl
      refine pa 20 (some 63) (yz 33 2097151) HT_ ?_
      refine pa 21 (some 64) (yz 33 4194303) HT_ ?_
      refine pa 22 (some 65) (yz 33 8388607) HT_ ?_
      refine pa 24 (some 67) (yz 33 25165823) HT_ ?_
      refine pa 25 (some 68) (yz 33 58720255) HT_ ?_
      refine pa 28 (some 71) (yz 33 327155711) HT_ ?_
      refine pa 29 (some 72) (yz 33 864026623) HT_ ?_
      refine take_ (i := 23) (N := some 66) (v := ?_) (a' := ?_) (yz 33 872415231) rfl rfl (take_ofW HT_.out HW_.out (by kernel_rfl)) (fun _ _ _ h => h) (Or.inl ⟨by rfl, ?_⟩) hHeld ?_ ?_
      rotate_left
      ·rintro w' ⟨s0, s1, s2⟩
       go_simp
       with_reducible rfl
      rotate_left
      ·simp only [Act.put, qa, qb, qc, i64_w, i32_w]
       rfl
      refine take_ (i := 27) (N := some 70) (v := ?_) (a' := ?_) (yz 33 1006632959) rfl rfl (take_ofW HT_.out HW_.out (by kernel_rfl)) (fun _ _ _ h => h) (Or.inl ⟨by rfl, ?_⟩) hHeld ?_ ?_
      rotate_left
      ·rintro w' ⟨s0, s1, s2⟩
       go_simp
       with_reducible rfl
      rotate_left
      ·simp only [Act.put, qa, qb, qc, i64_w, i32_w]
       rfl
      refine oa 26 (some 69) (yz 33 1073741823) HT_ (fun K hK => ?_)
      refine gm Try.func127 #[.agg #[.slice Ao27 t1634.length co27], .int .i64 t1637, .int .i64 t1638] ?_
      with_reducible refine (impl_IsBelow.calls k _ _ t1634 t1637 t1638 t1652 _ ?side1 ?side2 A40.out).mono ?_
      (case side1 => exact co (Kd.Q_reads' HO1636.out).2.2)
      (case side2 => exact (Kd.Q_reads' HO1636.out).2.1)
      rintro e w53 ⟨rfl, hb⟩
      refine ⟨_, rfl, ?_⟩
      replace HO1615 := am (Kd.Q_below (qo HO1615.out) hb)
      replace HO1620 := am (Kd.R_below (ro HO1620.out) hb)
      replace HO1623 := am (Kd.Q_below (qo HO1623.out) hb)
      replace HO1626 := am (Kd.R_below (ro HO1626.out) hb)
      replace HO1630 := am (Kd.R_below (ro HO1630.out) hb)
      replace HO1633 := am (Kd.R_below (ro HO1633.out) hb)
      replace HO1636 := am (Kd.Q_below (qo HO1636.out) hb)
      replace HO1642 := am (Kd.R_below (ro HO1642.out) hb)
      replace HO1646 := am (Kd.R_below (ro HO1646.out) hb)
      replace HO1650 := am (Kd.R_below (ro HO1650.out) hb)
      replace BK1617 := kb BK1617 hb
      replace BK1627 := kb BK1627 hb
      replace BK1639 := kb BK1639 hb
      replace HB := am (below_step bw hb)
      clear hb
      refine hK.out _ _ ⟨(blk_cell BK1617.out 0).trans rfl, (blk_cell BK1627.out 0).trans rfl, (blk_cell BK1639.out 0).trans rfl⟩ (fun hHeld => ?_)
      clear hK K
      refine norm_ (a' := ?_) ?_ ?_
      rotate_left
      ·show Act.put _ (some 69) _ = _
       simp only [Act.put, qa, qb, qc, i64_w, i32_w]
       rfl
      refine oa 30 (some 73) (yz 33 2147483647) HT_ (fun K hK => ?_)
      refine gm Try.func128 #[.agg #[.slice Ao27 t1634.length co27], .int .i64 t1637, .int .i64 t1638] ?_
      with_reducible refine (spec_IsBelow.calls k _ _ t1634 t1637 t1638 t1653 _ ?side1 ?side2 A41.out).mono ?_
      (case side1 => exact co (Kd.Q_reads' HO1636.out).2.2)
      (case side2 => exact (Kd.Q_reads' HO1636.out).2.1)
      rintro e w54 ⟨rfl, hb⟩
      refine ⟨_, rfl, ?_⟩
      replace HO1615 := am (Kd.Q_below (qo HO1615.out) hb)
      replace HO1620 := am (Kd.R_below (ro HO1620.out) hb)
      replace HO1623 := am (Kd.Q_below (qo HO1623.out) hb)
      replace HO1626 := am (Kd.R_below (ro HO1626.out) hb)
      replace HO1630 := am (Kd.R_below (ro HO1630.out) hb)
      replace HO1633 := am (Kd.R_below (ro HO1633.out) hb)
      replace HO1636 := am (Kd.Q_below (qo HO1636.out) hb)
      replace HO1642 := am (Kd.R_below (ro HO1642.out) hb)
      replace HO1646 := am (Kd.R_below (ro HO1646.out) hb)
      replace HO1650 := am (Kd.R_below (ro HO1650.out) hb)
      replace BK1617 := kb BK1617 hb
      replace BK1627 := kb BK1627 hb
      replace BK1639 := kb BK1639 hb
      replace HB := am (below_step bw hb)
      clear hb
      refine hK.out _ _ ⟨(blk_cell BK1617.out 0).trans rfl, (blk_cell BK1627.out 0).trans rfl, (blk_cell BK1639.out 0).trans rfl⟩ (fun hHeld => ?_)
      clear hK K
      refine norm_ (a' := ?_) ?_ ?_
      rotate_left
      ·show Act.put _ (some 73) _ = _
       simp only [Act.put, qa, qb, qc, i64_w, i32_w]
       rfl
      refine pa 31 (some 74) (yz 33 4294967295) HT_ ?_
      refine pa 32 (some 75) (yz 33 8589934591) HT_ ?_
      refine done_ (done_of HT_.out (by kernel_rfl)) ?_
      try go_wp2
      go_meet
      case rel => exact ⟨_, ((t1652 != t1653)), rr, H', ⟨om⟩, ⟨by (with_reducible repeat (first | apply Kd.R_alloc | apply Kd.R_drewN | apply Kd.R_drew)); exact Kd.R_mono HO1620.out (fun _ hk => ⟨hk.1.1.1.2.2.1, ⟨hk.1.1.1.2.2.2.2.1, ⟨hk.1.1.1.1, ⟨hk.1.1.1.2.1, hk.1.1.1.2.2.2.2.2⟩⟩⟩⟩)⟩, ⟨by (with_reducible repeat (first | apply Kd.R_alloc | apply Kd.R_drewN | apply Kd.R_drew)); exact Kd.R_mono HO1626.out (fun _ hk => ⟨hk.1.1.1.2.1, ⟨hk.1.1.1.2.2.2.2.1, ⟨hk.1.1.1.1, ⟨hk.1.1.1.2.2.1, hk.1.1.1.2.2.2.2.2⟩⟩⟩⟩)⟩, ⟨by (with_reducible repeat (first | apply Kd.R_alloc | apply Kd.R_drewN | apply Kd.R_drew)); exact Kd.R_mono HO1633.out (fun _ hk => ⟨hk.1.1.1.2.1, ⟨hk.1.1.1.2.2.2.1, ⟨hk.1.1.1.1, ⟨hk.1.1.1.2.2.1, hk.1.1.1.2.2.2.2.2⟩⟩⟩⟩)⟩, ⟨by (with_reducible repeat (first | apply Kd.Q_alloc | apply Kd.Q_drewN | apply Kd.Q_drew)); exact Kd.Q_mono HO1615.out (fun _ hk => ⟨hk.1.1.1.1, ⟨hk.1.1.1.2.2.1, ⟨hk.1.1.1.2.2.2.2.1, ⟨hk.1.1.1.2.1, hk.1.1.1.2.2.2.2.2⟩⟩⟩⟩)⟩, ⟨by (with_reducible repeat (first | apply Kd.Q_alloc | apply Kd.Q_drewN | apply Kd.Q_drew)); exact Kd.Q_mono HO1623.out (fun _ hk => ⟨hk.1.1.1.2.1, ⟨hk.1.1.1.2.2.1, ⟨hk.1.1.1.2.2.2.2.1, ⟨hk.1.1.1.1, hk.1.1.1.2.2.2.2.2⟩⟩⟩⟩)⟩, ⟨by (with_reducible repeat (first | apply Kd.Q_alloc | apply Kd.Q_drewN | apply Kd.Q_drew)); exact Kd.Q_mono HO1636.out (fun _ hk => ⟨hk.1.1.1.2.1, ⟨hk.1.1.1.2.2.2.1, ⟨hk.1.1.1.2.2.2.2.2, ⟨hk.1.1.1.1, hk.1.1.1.2.2.1⟩⟩⟩⟩)⟩, ⟨bo BK1617.out⟩, ⟨bo BK1627.out⟩, ⟨bo BK1639.out⟩, ⟨bw⟩⟩
     ·replace c39 := Bool.eq_false_iff.mpr c39
      subst c39
      exact absurd H (laws_FnOrder.j0_no)
    ·replace c36 := Bool.eq_false_iff.mpr c36
     subst c36
     exact absurd H (laws_FnOrder.j0_no)
   ·replace c33 := Bool.eq_false_iff.mpr c33
    subst c33
    exact absurd H (laws_FnOrder.j0_no)
  case rest =>
   clear HC10
   try clear c3; try clear c33
   obtain ⟨kq, x75_9, rfl, HA, HJ9, HO_5, HO_7, HO_9, HO_1618000, HO_1628000, HO_1640000, BK1617, BK1627, BK1639, HB⟩ := hcut
   cases kq with
   | zero => exact absurd HA.out (by simp [laws_FnOrder.j0])
   | succ kj9 =>
    have H := HA.out
    clear HA
    simp only [laws_FnOrder.j0] at H
    replace H := gb H; obtain ⟨rfl, H⟩ | ⟨rfl, H⟩ := H
    ·exact absurd (Option.some.inj H) (by decide)
    ·have H' := am H
     clear H
     go_wp2
     go_loopg [13] kj9 (fun kq v13 w' => ∃ (x13_2 : Int), v13 = .int .i64 x13_2 ∧ Aside0 (laws_FnOrder.l0 kq t1618 t1624 t1631 x13_2 t1613 t1621 = some true) ∧ Aside0 (kq ≤ kj9) ∧ Aside0 (Kd.R (Kd.int .i64) 3 w' w.heap.size (fun k_ => some k_ ≠ ((.slice Ao21 t1624.length co21) : Value).ownBlock ∧ some k_ ≠ (v1632 : Value).ownBlock ∧ some k_ ≠ ((.slice Ao13 t1613.length co13) : Value).ownBlock ∧ some k_ ≠ ((.slice Ao18 t1621.length co18) : Value).ownBlock ∧ some k_ ≠ ((.slice Ao27 t1634.length co27) : Value).ownBlock) v1619 t1618) ∧ Aside0 (Kd.R (Kd.int .i64) 3 w' w.heap.size (fun k_ => some k_ ≠ (v1619 : Value).ownBlock ∧ some k_ ≠ (v1632 : Value).ownBlock ∧ some k_ ≠ ((.slice Ao13 t1613.length co13) : Value).ownBlock ∧ some k_ ≠ ((.slice Ao18 t1621.length co18) : Value).ownBlock ∧ some k_ ≠ ((.slice Ao27 t1634.length co27) : Value).ownBlock) (.slice Ao21 t1624.length co21) t1624) ∧ Aside0 (Kd.R (Kd.int .i64) 3 w' w.heap.size (fun k_ => some k_ ≠ (v1619 : Value).ownBlock ∧ some k_ ≠ ((.slice Ao21 t1624.length co21) : Value).ownBlock ∧ some k_ ≠ ((.slice Ao13 t1613.length co13) : Value).ownBlock ∧ some k_ ≠ ((.slice Ao18 t1621.length co18) : Value).ownBlock ∧ some k_ ≠ ((.slice Ao27 t1634.length co27) : Value).ownBlock) v1632 t1631) ∧ Aside0 (Kd.Q (Kd.int .i64) 3 w' w.heap.size (fun k_ => some k_ ≠ (v1619 : Value).ownBlock ∧ some k_ ≠ ((.slice Ao21 t1624.length co21) : Value).ownBlock ∧ some k_ ≠ (v1632 : Value).ownBlock ∧ some k_ ≠ ((.slice Ao18 t1621.length co18) : Value).ownBlock ∧ some k_ ≠ ((.slice Ao27 t1634.length co27) : Value).ownBlock) (.slice Ao13 t1613.length co13) t1613) ∧ Aside0 (Kd.Q (Kd.int .i64) 3 w' w.heap.size (fun k_ => some k_ ≠ (v1619 : Value).ownBlock ∧ some k_ ≠ ((.slice Ao21 t1624.length co21) : Value).ownBlock ∧ some k_ ≠ (v1632 : Value).ownBlock ∧ some k_ ≠ ((.slice Ao13 t1613.length co13) : Value).ownBlock ∧ some k_ ≠ ((.slice Ao27 t1634.length co27) : Value).ownBlock) (.slice Ao18 t1621.length co18) t1621) ∧ Aside0 (Kd.Q (Kd.int .i64) 3 w' w.heap.size (fun k_ => some k_ ≠ (v1619 : Value).ownBlock ∧ some k_ ≠ ((.slice Ao21 t1624.length co21) : Value).ownBlock ∧ some k_ ≠ (v1632 : Value).ownBlock ∧ some k_ ≠ ((.slice Ao13 t1613.length co13) : Value).ownBlock ∧ some k_ ≠ ((.slice Ao18 t1621.length co18) : Value).ownBlock) (.slice Ao27 t1634.length co27) t1634) ∧ Aside0 (w'.heap[gb1617]? = some (.cells #[(.slice Ao13 t1613.length co13)] 26 (0, 0))) ∧ Aside0 (w'.heap[gb1627]? = some (.cells #[(.slice Ao18 t1621.length co18)] 26 (0, 0))) ∧ Aside0 (w'.heap[gb1639]? = some (.cells #[(.slice Ao27 t1634.length co27)] 26 (0, 0))) ∧ Aside0 (Below w.heap.size w w'))
     case atStart => exact ⟨(0), rr, H', ⟨Nat.le_refl _⟩, ⟨ro HO_5.out⟩, ⟨ro HO_7.out⟩, ⟨ro HO_9.out⟩, ⟨by (with_reducible repeat (first | apply Kd.Q_alloc | apply Kd.Q_drewN | apply Kd.Q_drew)); exact HO_1618000.out⟩, ⟨by (with_reducible repeat (first | apply Kd.Q_alloc | apply Kd.Q_drewN | apply Kd.Q_drew)); exact HO_1628000.out⟩, ⟨by (with_reducible repeat (first | apply Kd.Q_alloc | apply Kd.Q_drewN | apply Kd.Q_drew)); exact HO_1640000.out⟩, ⟨bo BK1617.out⟩, ⟨bo BK1627.out⟩, ⟨bo BK1639.out⟩, ⟨bw⟩⟩
     case round =>
      clear H'
      try clear c3; try clear c33
      obtain ⟨x13_2, rfl, HA, HK2, HO_5, HO_7, HO_9, HO_1618000, HO_1628000, HO_1640000, BK1617, BK1627, BK1639, HB⟩ := hrel
      cases gk with
      | zero => exact absurd HA.out (by simp [laws_FnOrder.l0])
      | succ k2 =>
       have H := HA.out
       clear HA
       simp only [laws_FnOrder.l0] at H
       have HC80 := am H
       clear H
       go_upto_region 12 with (fail)
       go_cut [84] (fun v84 wc => ∃ (kq : Nat) (x84_79 : Bool), v84 = .bool x84_79 ∧ Aside0 (laws_FnOrder.j2 kq t1618 t1624 t1631 x13_2 x84_79 t1613 t1621 = some true) ∧ Aside0 (kq ≤ k2) ∧ Aside0 (Kd.R (Kd.int .i64) 3 wc w.heap.size (fun k_ => some k_ ≠ ((.slice Ao21 t1624.length co21) : Value).ownBlock ∧ some k_ ≠ (v1632 : Value).ownBlock ∧ some k_ ≠ ((.slice Ao13 t1613.length co13) : Value).ownBlock ∧ some k_ ≠ ((.slice Ao18 t1621.length co18) : Value).ownBlock ∧ some k_ ≠ ((.slice Ao27 t1634.length co27) : Value).ownBlock) v1619 t1618) ∧ Aside0 (Kd.R (Kd.int .i64) 3 wc w.heap.size (fun k_ => some k_ ≠ (v1619 : Value).ownBlock ∧ some k_ ≠ (v1632 : Value).ownBlock ∧ some k_ ≠ ((.slice Ao13 t1613.length co13) : Value).ownBlock ∧ some k_ ≠ ((.slice Ao18 t1621.length co18) : Value).ownBlock ∧ some k_ ≠ ((.slice Ao27 t1634.length co27) : Value).ownBlock) (.slice Ao21 t1624.length co21) t1624) ∧ Aside0 (Kd.R (Kd.int .i64) 3 wc w.heap.size (fun k_ => some k_ ≠ (v1619 : Value).ownBlock ∧ some k_ ≠ ((.slice Ao21 t1624.length co21) : Value).ownBlock ∧ some k_ ≠ ((.slice Ao13 t1613.length co13) : Value).ownBlock ∧ some k_ ≠ ((.slice Ao18 t1621.length co18) : Value).ownBlock ∧ some k_ ≠ ((.slice Ao27 t1634.length co27) : Value).ownBlock) v1632 t1631) ∧ Aside0 (Kd.Q (Kd.int .i64) 3 wc w.heap.size (fun k_ => some k_ ≠ (v1619 : Value).ownBlock ∧ some k_ ≠ ((.slice Ao21 t1624.length co21) : Value).ownBlock ∧ some k_ ≠ (v1632 : Value).ownBlock ∧ some k_ ≠ ((.slice Ao18 t1621.length co18) : Value).ownBlock ∧ some k_ ≠ ((.slice Ao27 t1634.length co27) : Value).ownBlock) (.slice Ao13 t1613.length co13) t1613) ∧ Aside0 (Kd.Q (Kd.int .i64) 3 wc w.heap.size (fun k_ => some k_ ≠ (v1619 : Value).ownBlock ∧ some k_ ≠ ((.slice Ao21 t1624.length co21) : Value).ownBlock ∧ some k_ ≠ (v1632 : Value).ownBlock ∧ some k_ ≠ ((.slice Ao13 t1613.length co13) : Value).ownBlock ∧ some k_ ≠ ((.slice Ao27 t1634.length co27) : Value).ownBlock) (.slice Ao18 t1621.length co18) t1621) ∧ Aside0 (Kd.Q (Kd.int .i64) 3 wc w.heap.size (fun k_ => some k_ ≠ (v1619 : Value).ownBlock ∧ some k_ ≠ ((.slice Ao21 t1624.length co21) : Value).ownBlock ∧ some k_ ≠ (v1632 : Value).ownBlock ∧ some k_ ≠ ((.slice Ao13 t1613.length co13) : Value).ownBlock ∧ some k_ ≠ ((.slice Ao18 t1621.length co18) : Value).ownBlock) (.slice Ao27 t1634.length co27) t1634) ∧ Aside0 (wc.heap[gb1617]? = some (.cells #[(.slice Ao13 t1613.length co13)] 26 (0, 0))) ∧ Aside0 (wc.heap[gb1627]? = some (.cells #[(.slice Ao18 t1621.length co18)] 26 (0, 0))) ∧ Aside0 (wc.heap[gb1639]? = some (.cells #[(.slice Ao27 t1634.length co27)] 26 (0, 0))) ∧ Aside0 (Below w.heap.size w wc))
       case first =>
        have H := HC80.out
        clear HC80
        replace H := gi H; obtain ⟨c81b0, H⟩ | ⟨c81b0, H⟩ := H
        ·(first | rw [c81b0] | (simp only [i64_w, i32_w]; rw [c81b0]) | skip)
         have H' := am H
         clear H
         obtain ⟨Ao82, co82, eo82⟩ := Kd.R_slice HO_9.out
         subst eo82
         go_wp2
         go_meet
         case rel => exact ⟨_, (decide ((t1631.length : Int) > 0)), rr, H', ⟨by have := HJ9.out; have := HK2.out; first | omega | exact Nat.le_refl _⟩, ⟨ro HO_5.out⟩, ⟨ro HO_7.out⟩, ⟨ro HO_9.out⟩, ⟨by (with_reducible repeat (first | apply Kd.Q_alloc | apply Kd.Q_drewN | apply Kd.Q_drew)); exact HO_1618000.out⟩, ⟨by (with_reducible repeat (first | apply Kd.Q_alloc | apply Kd.Q_drewN | apply Kd.Q_drew)); exact HO_1628000.out⟩, ⟨by (with_reducible repeat (first | apply Kd.Q_alloc | apply Kd.Q_drewN | apply Kd.Q_drew)); exact HO_1640000.out⟩, ⟨bo BK1617.out⟩, ⟨bo BK1627.out⟩, ⟨bo BK1639.out⟩, ⟨bw⟩⟩
        ·(first | rw [c81b0] | (simp only [i64_w, i32_w]; rw [c81b0]) | skip)
         have H' := am H
         clear H
         go_wp2
         go_meet
         case rel => exact ⟨_, (false), rr, H', ⟨by have := HJ9.out; have := HK2.out; first | omega | exact Nat.le_refl _⟩, ⟨ro HO_5.out⟩, ⟨ro HO_7.out⟩, ⟨ro HO_9.out⟩, ⟨by (with_reducible repeat (first | apply Kd.Q_alloc | apply Kd.Q_drewN | apply Kd.Q_drew)); exact HO_1618000.out⟩, ⟨by (with_reducible repeat (first | apply Kd.Q_alloc | apply Kd.Q_drewN | apply Kd.Q_drew)); exact HO_1628000.out⟩, ⟨by (with_reducible repeat (first | apply Kd.Q_alloc | apply Kd.Q_drewN | apply Kd.Q_drew)); exact HO_1640000.out⟩, ⟨bo BK1617.out⟩, ⟨bo BK1627.out⟩, ⟨bo BK1639.out⟩, ⟨bw⟩⟩
       case rest =>
        clear HC80
        try clear c3; try clear c33; try clear c81b0
        obtain ⟨kq, x84_79, rfl, HA, HJ79, HO_5, HO_7, HO_9, HO_1618000, HO_1628000, HO_1640000, BK1617, BK1627, BK1639, HB⟩ := hcut
        cases kq with
        | zero => exact absurd HA.out (by simp [laws_FnOrder.j2])
        | succ kj79 =>
         have H := HA.out
         clear HA
         simp only [laws_FnOrder.j2] at H
         replace H := gb H; obtain ⟨rfl, H⟩ | ⟨rfl, H⟩ := H
         ·have H' := am H
          clear H
          go_wp2
          go_loopg [14, 15] kj79 (fun kq v14 v15 w' => ∃ (x14_4 : Bool) (x15_4 : Int), v14 = .bool x14_4 ∧ v15 = .int .i64 x15_4 ∧ Aside0 (laws_FnOrder.l1 kq t1618 t1624 t1631 x13_2 x14_4 x15_4 t1613 t1621 = some true) ∧ Aside0 (kq ≤ kj79) ∧ Aside0 (Kd.R (Kd.int .i64) 3 w' w.heap.size (fun k_ => some k_ ≠ ((.slice Ao21 t1624.length co21) : Value).ownBlock ∧ some k_ ≠ (v1632 : Value).ownBlock ∧ some k_ ≠ ((.slice Ao13 t1613.length co13) : Value).ownBlock ∧ some k_ ≠ ((.slice Ao18 t1621.length co18) : Value).ownBlock ∧ some k_ ≠ ((.slice Ao27 t1634.length co27) : Value).ownBlock) v1619 t1618) ∧ Aside0 (Kd.R (Kd.int .i64) 3 w' w.heap.size (fun k_ => some k_ ≠ (v1619 : Value).ownBlock ∧ some k_ ≠ (v1632 : Value).ownBlock ∧ some k_ ≠ ((.slice Ao13 t1613.length co13) : Value).ownBlock ∧ some k_ ≠ ((.slice Ao18 t1621.length co18) : Value).ownBlock ∧ some k_ ≠ ((.slice Ao27 t1634.length co27) : Value).ownBlock) (.slice Ao21 t1624.length co21) t1624) ∧ Aside0 (Kd.R (Kd.int .i64) 3 w' w.heap.size (fun k_ => some k_ ≠ (v1619 : Value).ownBlock ∧ some k_ ≠ ((.slice Ao21 t1624.length co21) : Value).ownBlock ∧ some k_ ≠ ((.slice Ao13 t1613.length co13) : Value).ownBlock ∧ some k_ ≠ ((.slice Ao18 t1621.length co18) : Value).ownBlock ∧ some k_ ≠ ((.slice Ao27 t1634.length co27) : Value).ownBlock) v1632 t1631) ∧ Aside0 (Kd.Q (Kd.int .i64) 3 w' w.heap.size (fun k_ => some k_ ≠ (v1619 : Value).ownBlock ∧ some k_ ≠ ((.slice Ao21 t1624.length co21) : Value).ownBlock ∧ some k_ ≠ (v1632 : Value).ownBlock ∧ some k_ ≠ ((.slice Ao18 t1621.length co18) : Value).ownBlock ∧ some k_ ≠ ((.slice Ao27 t1634.length co27) : Value).ownBlock) (.slice Ao13 t1613.length co13) t1613) ∧ Aside0 (Kd.Q (Kd.int .i64) 3 w' w.heap.size (fun k_ => some k_ ≠ (v1619 : Value).ownBlock ∧ some k_ ≠ ((.slice Ao21 t1624.length co21) : Value).ownBlock ∧ some k_ ≠ (v1632 : Value).ownBlock ∧ some k_ ≠ ((.slice Ao13 t1613.length co13) : Value).ownBlock ∧ some k_ ≠ ((.slice Ao27 t1634.length co27) : Value).ownBlock) (.slice Ao18 t1621.length co18) t1621) ∧ Aside0 (Kd.Q (Kd.int .i64) 3 w' w.heap.size (fun k_ => some k_ ≠ (v1619 : Value).ownBlock ∧ some k_ ≠ ((.slice Ao21 t1624.length co21) : Value).ownBlock ∧ some k_ ≠ (v1632 : Value).ownBlock ∧ some k_ ≠ ((.slice Ao13 t1613.length co13) : Value).ownBlock ∧ some k_ ≠ ((.slice Ao18 t1621.length co18) : Value).ownBlock) (.slice Ao27 t1634.length co27) t1634) ∧ Aside0 (w'.heap[gb1617]? = some (.cells #[(.slice Ao13 t1613.length co13)] 26 (0, 0))) ∧ Aside0 (w'.heap[gb1627]? = some (.cells #[(.slice Ao18 t1621.length co18)] 26 (0, 0))) ∧ Aside0 (w'.heap[gb1639]? = some (.cells #[(.slice Ao27 t1634.length co27)] 26 (0, 0))) ∧ Aside0 (Below w.heap.size w w'))
          case atStart => exact ⟨(false), (0), rr, rr, H', ⟨Nat.le_refl _⟩, ⟨ro HO_5.out⟩, ⟨ro HO_7.out⟩, ⟨ro HO_9.out⟩, ⟨by (with_reducible repeat (first | apply Kd.Q_alloc | apply Kd.Q_drewN | apply Kd.Q_drew)); exact HO_1618000.out⟩, ⟨by (with_reducible repeat (first | apply Kd.Q_alloc | apply Kd.Q_drewN | apply Kd.Q_drew)); exact HO_1628000.out⟩, ⟨by (with_reducible repeat (first | apply Kd.Q_alloc | apply Kd.Q_drewN | apply Kd.Q_drew)); exact HO_1640000.out⟩, ⟨bo BK1617.out⟩, ⟨bo BK1627.out⟩, ⟨bo BK1639.out⟩, ⟨bw⟩⟩
          case round =>
           clear H'
           try clear c3; try clear c33; try clear c81b0
           obtain ⟨x14_4, x15_4, rfl, rfl, HA, HK4, HO_5, HO_7, HO_9, HO_1618000, HO_1628000, HO_1640000, BK1617, BK1627, BK1639, HB⟩ := hrel
           cases gk with
           | zero => exact absurd HA.out (by simp [laws_FnOrder.l1])
           | succ k4 =>
            have H := HA.out
            clear HA
            simp only [laws_FnOrder.l1] at H
            replace H := gi H; obtain ⟨c84b0, H⟩ | ⟨c84b0, H⟩ := H
            ·replace H := gb H; obtain ⟨rfl, H⟩ | ⟨rfl, H⟩ := H
             ·have H' := am H
              clear H
              obtain ⟨Ao86, co86, eo86⟩ := Kd.R_slice HO_9.out
              subst eo86
              try go_wp2
              replace HO_5 := am (Kd.R_drew HO_5.out)
              replace HO_7 := am (Kd.R_drew HO_7.out)
              replace HO_9 := am (Kd.R_drew HO_9.out)
              replace HO_1618000 := am (Kd.Q_drew HO_1618000.out)
              replace HO_1628000 := am (Kd.Q_drew HO_1628000.out)
              replace HO_1640000 := am (Kd.Q_drew HO_1640000.out)
              replace BK1617 := am (blk_drew BK1617.out)
              replace BK1627 := am (blk_drew BK1627.out)
              replace BK1639 := am (blk_drew BK1639.out)
              replace HB := am (below_drew1 HB.out)
              refine start_ (n := 14) (S := fun w' => True) (ds := []) (yz 14 0) (by kernel_rfl) rfl rfl trivial (fun hHeld => ?_); refine with_tabW laws_FnOrder.tab18 laws_FnOrder.bits18 (fun HT_ HW_ => ?_)
              generalize wr.drew = w87 at HO_5 HO_7 HO_9 HO_1618000 HO_1628000 HO_1640000 BK1617 BK1627 BK1639 HB hHeld ⊢
              refine pa 0 (some 93) (yz 14 1) HT_ ?_
              refine pa 1 (some 94) (yz 14 3) HT_ ?_
              refine pu 2 (some 95) (yz 14 7) HT_ ?_
              refine pu 3 (some 96) (yz 14 15) HT_ ?_
              refine pu 4 (some 97) (yz 14 31) HT_ ?_
              refine pu 5 (some 98) (yz 14 63) HT_ ?_
              refine pu 6 (some 99) (yz 14 127) HT_ ?_
              refine pu 7 (some 100) (yz 14 255) HT_ ?_
              refine pu 8 (some 101) (yz 14 511) HT_ ?_
              refine pu 9 (some 102) (yz 14 1023) HT_ ?_
              refine pu 10 (some 103) (yz 14 2047) HT_ ?_
              refine pu 11 (some 104) (yz 14 4095) HT_ ?_
              refine pa 12 (some 105) (yz 14 8191) HT_ ?_
              refine pa 13 (some 14) (yz 14 16383) HT_ ?_
              refine done_ (done_of HT_.out (by kernel_rfl)) ?_
              try go_wp2
              go_roundg k4
              case measure => have := HJ9.out; have := HK2.out; have := HJ79.out; have := HK4.out; omega
              case rel => exact ⟨(true), (wrap64 (x15_4 + 1)), rr, rr, H', ⟨by have := HJ9.out; have := HK2.out; have := HJ79.out; have := HK4.out; omega⟩, ⟨ro HO_5.out⟩, ⟨ro HO_7.out⟩, ⟨ro HO_9.out⟩, ⟨by (with_reducible repeat (first | apply Kd.Q_alloc | apply Kd.Q_drewN | apply Kd.Q_drew)); exact HO_1618000.out⟩, ⟨by (with_reducible repeat (first | apply Kd.Q_alloc | apply Kd.Q_drewN | apply Kd.Q_drew)); exact HO_1628000.out⟩, ⟨by (with_reducible repeat (first | apply Kd.Q_alloc | apply Kd.Q_drewN | apply Kd.Q_drew)); exact HO_1640000.out⟩, ⟨bo BK1617.out⟩, ⟨bo BK1627.out⟩, ⟨bo BK1639.out⟩, ⟨bw⟩⟩
             ·replace H := gd H; obtain ⟨c88b0, H⟩ := H
              replace H := gd H; obtain ⟨c89b0, H⟩ := H
              replace H := gd H; obtain ⟨c90b0, H⟩ := H
              replace H := ga H; obtain ⟨t1656, A91, H⟩ := H
              have H' := am H
              clear H
              obtain ⟨Ao92, co92, eo92⟩ := Kd.R_slice HO_9.out
              subst eo92
              try go_wp2
              replace HO_5 := am (Kd.R_drew HO_5.out)
              replace HO_7 := am (Kd.R_drew HO_7.out)
              replace HO_9 := am (Kd.R_drew HO_9.out)
              replace HO_1618000 := am (Kd.Q_drew HO_1618000.out)
              replace HO_1628000 := am (Kd.Q_drew HO_1628000.out)
              replace HO_1640000 := am (Kd.Q_drew HO_1640000.out)
              replace BK1617 := am (blk_drew BK1617.out)
              replace BK1627 := am (blk_drew BK1627.out)
              replace BK1639 := am (blk_drew BK1639.out)
              replace HB := am (below_drew1 HB.out)
              obtain ⟨⟨ad1654, e1654, hx1654_0⟩, p1654, q1654⟩ := pq (Kd.at_int (Kd.R_reads' HO_9.out).2.2 x15_4)
              cases e1654
              obtain ⟨⟨ad1655, e1655, hx1655_0⟩, p1655, q1655⟩ := pq (Kd.at_int (Kd.R_reads' HO_7.out).2.2 x13_2)
              cases e1655
              refine start_ (n := 14) (S := fun w' => w'.cell? ⟨gb1627, 0, none⟩ = some (.slice Ao18 t1621.length co18) ∧ w'.cell? (ad1654.add (x15_4).toNat) = some (.int .i64 (rd t1631 x15_4)) ∧ w'.cell? (ad1655.add (x13_2).toNat) = some (.int .i64 (rd t1624 x13_2))) (ds := []) (yz 14 0) (by kernel_rfl) rfl rfl ⟨(blk_cell BK1627.out 0).trans rfl, hx1654_0, hx1655_0⟩ (fun hHeld => ?_); refine with_tabW laws_FnOrder.tab18 laws_FnOrder.bits18 (fun HT_ HW_ => ?_)
              generalize wr.drew = w93 at HO_5 HO_7 HO_9 HO_1618000 HO_1628000 HO_1640000 BK1617 BK1627 BK1639 HB hx1654_0 hx1655_0 hHeld ⊢
              refine pa 0 (some 93) (yz 14 1) HT_ ?_
              refine pa 1 (some 94) (yz 14 3) HT_ ?_
              refine pa 3 (some 96) (yz 14 11) HT_ ?_
              refine pa 4 (some 97) (yz 14 27) HT_ ?_
              refine pa 5 (some 98) (yz 14 59) HT_ ?_
              refine pa 7 (some 100) (yz 14 187) HT_ ?_
              refine pa 8 (some 101) (yz 14 443) HT_ ?_
              refine pa 9 (some 102) (yz 14 955) HT_ ?_
              refine take_ (i := 2) (N := some 95) (v := ?_) (a' := ?_) (yz 14 959) rfl rfl (take_ofW HT_.out HW_.out (by kernel_rfl)) (fun _ _ _ h => h) (Or.inl ⟨by rfl, ?_⟩) hHeld ?_ ?_
              rotate_left
              ·rintro w' ⟨s0, s1, s2⟩
               go_simp
               with_reducible rfl
              rotate_left
              ·simp only [Act.put, qa, qb, qc, i64_w, i32_w]
               rfl
              refine take_ (i := 6) (N := some 99) (v := ?_) (a' := ?_) (yz 14 1023) rfl rfl (take_ofW HT_.out HW_.out (by kernel_rfl)) (fun _ _ _ h => h) (Or.inl ⟨by rfl, ?_⟩) hHeld ?_ ?_
              rotate_left
              ·rintro w' ⟨s0, s1, s2⟩
               go_simp
               with_reducible rfl
              rotate_left
              ·simp only [Act.put, qa, qb, qc, i64_w, i32_w]
               rfl
              refine take_ (i := 10) (N := some 103) (v := ?_) (a' := ?_) (yz 14 2047) rfl rfl (take_ofW HT_.out HW_.out (by kernel_rfl)) (fun _ _ _ h => h) (Or.inl ⟨by rfl, ?_⟩) hHeld ?_ ?_
              rotate_left
              ·rintro w' ⟨s0, s1, s2⟩
               go_simp
               with_reducible rfl
              rotate_left
              ·simp only [Act.put, qa, qb, qc, i64_w, i32_w]
               rfl
              refine oa 11 (some 104) (yz 14 4095) HT_ (fun K hK => ?_)
              refine gm Try.func127 #[.agg #[.slice Ao18 t1621.length co18], .int .i64 (rd t1631 x15_4), .int .i64 (rd t1624 x13_2)] ?_
              with_reducible refine (impl_IsBelow.calls k4 _ _ t1621 (rd t1631 x15_4) (rd t1624 x13_2) t1656 _ ?side1 ?side2 A91.out).mono ?_
              (case side1 => exact co (Kd.Q_reads' HO_1628000.out).2.2)
              (case side2 => exact (Kd.Q_reads' HO_1628000.out).2.1)
              rintro e w94 ⟨rfl, hb⟩
              have HS1_ := (hb.cell (World.block_lt_of_cell? _ _ (hHeld.2.1))).trans (hHeld.2.1)
              have HS2_ := (hb.cell (World.block_lt_of_cell? _ _ (hHeld.2.2))).trans (hHeld.2.2)
              refine ⟨_, rfl, ?_⟩
              replace HO_5 := am (Kd.R_below (ro HO_5.out) hb)
              replace HO_7 := am (Kd.R_below (ro HO_7.out) hb)
              replace HO_9 := am (Kd.R_below (ro HO_9.out) hb)
              replace HO_1618000 := am (Kd.Q_below (qo HO_1618000.out) hb)
              replace HO_1628000 := am (Kd.Q_below (qo HO_1628000.out) hb)
              replace HO_1640000 := am (Kd.Q_below (qo HO_1640000.out) hb)
              replace BK1617 := kb BK1617 hb
              replace BK1627 := kb BK1627 hb
              replace BK1639 := kb BK1639 hb
              replace HB := am (below_step bw hb)
              clear hb
              refine hK.out _ _ ⟨(blk_cell BK1627.out 0).trans rfl, HS1_, HS2_⟩ (fun hHeld => ?_)
              clear hK K
              refine norm_ (a' := ?_) ?_ ?_
              rotate_left
              ·show Act.put _ (some 104) _ = _
               simp only [Act.put, qa, qb, qc, i64_w, i32_w]
               rfl
              refine pa 12 (some 105) (yz 14 8191) HT_ ?_
              refine pa 13 (some 14) (yz 14 16383) HT_ ?_
              refine done_ (done_of HT_.out (by kernel_rfl)) ?_
              try go_wp2
              go_roundg k4
              case measure => have := HJ9.out; have := HK2.out; have := HJ79.out; have := HK4.out; omega
              case rel => exact ⟨(t1656), (wrap64 (x15_4 + 1)), rr, rr, H', ⟨by have := HJ9.out; have := HK2.out; have := HJ79.out; have := HK4.out; omega⟩, ⟨ro HO_5.out⟩, ⟨ro HO_7.out⟩, ⟨ro HO_9.out⟩, ⟨by (with_reducible repeat (first | apply Kd.Q_alloc | apply Kd.Q_drewN | apply Kd.Q_drew)); exact HO_1618000.out⟩, ⟨by (with_reducible repeat (first | apply Kd.Q_alloc | apply Kd.Q_drewN | apply Kd.Q_drew)); exact HO_1628000.out⟩, ⟨by (with_reducible repeat (first | apply Kd.Q_alloc | apply Kd.Q_drewN | apply Kd.Q_drew)); exact HO_1640000.out⟩, ⟨bo BK1617.out⟩, ⟨bo BK1627.out⟩, ⟨bo BK1639.out⟩, ⟨bw⟩⟩
            ·replace H := gb H; obtain ⟨rfl, H⟩ | ⟨rfl, H⟩ := H
             ·have H' := am H
              clear H
              obtain ⟨Ao96, co96, eo96⟩ := Kd.R_slice HO_9.out
              subst eo96
              go_wp2
              go_roundg k4
              case measure => have := HJ9.out; have := HK2.out; have := HJ79.out; have := HK4.out; omega
              case rel => exact ⟨(wrap64 (x13_2 + 1)), rr, H', ⟨by have := HJ9.out; have := HK2.out; have := HJ79.out; have := HK4.out; omega⟩, ⟨ro HO_5.out⟩, ⟨ro HO_7.out⟩, ⟨ro HO_9.out⟩, ⟨by (with_reducible repeat (first | apply Kd.Q_alloc | apply Kd.Q_drewN | apply Kd.Q_drew)); exact HO_1618000.out⟩, ⟨by (with_reducible repeat (first | apply Kd.Q_alloc | apply Kd.Q_drewN | apply Kd.Q_drew)); exact HO_1628000.out⟩, ⟨by (with_reducible repeat (first | apply Kd.Q_alloc | apply Kd.Q_drewN | apply Kd.Q_drew)); exact HO_1640000.out⟩, ⟨bo BK1617.out⟩, ⟨bo BK1627.out⟩, ⟨bo BK1639.out⟩, ⟨bw⟩⟩
             ·exact absurd (Option.some.inj H) (by decide)
         ·by_cases c98 : (t1618.length : Int) = 0
          ·rw [if_pos c98] at H
           have c98b0 : ((t1618.length : Int) == 0) = true := beq_iff_eq.mpr c98
           have c98b1 : ((t1618.length : Int) != 0) = false := bne_eq_false_iff_eq.mpr c98
           clear c98
           skip
           obtain ⟨Ao99, co99, eo99⟩ := Kd.R_slice HO_5.out
           subst eo99
           go_wp2
           go_ret
           exact ⟨re, bw⟩
          ·rw [if_neg c98] at H
           have c98b0 : ((t1618.length : Int) == 0) = false := beq_eq_false_iff_ne.mpr c98
           have c98b1 : ((t1618.length : Int) != 0) = true := bne_iff_ne.mpr c98
           have c98b2 : ¬ (t1618 = []) := fun h_ => c98 (by rw [h_]; rfl)
           replace H := ga H; obtain ⟨t1657, A100, H⟩ := H
           by_cases c101 : t1657 = 0
           ·rw [if_pos c101] at H
            have c101b0 : (t1657 == 0) = true := beq_iff_eq.mpr c101
            have c101b1 : (t1657 != 0) = false := bne_eq_false_iff_eq.mpr c101
            clear c101
            by_cases c102 : (t1618.length : Int) = 1
            ·rw [if_pos c102] at H
             have c102b0 : ((t1618.length : Int) == 1) = true := beq_iff_eq.mpr c102
             have c102b1 : ((t1618.length : Int) != 1) = false := bne_eq_false_iff_eq.mpr c102
             clear c102
             replace H := gp H; obtain ⟨c103, H⟩ := H
             have c103b0 : decide (0 < (t1618.length : Int)) = true := decide_eq_true c103
             have c103b1 : decide (0 < t1618.length) = true := decide_eq_true (by omega)
             clear c103
             have HRE_ := Option.some.inj H
             obtain ⟨Ao104, co104, eo104⟩ := Kd.R_slice HO_5.out
             subst eo104
             have hnb105 := NB1617_1627.out
             have hnc105 := NB1627_1617.out
             have hnb106 := NB1617_1639.out
             have hnc106 := NB1639_1617.out
             have hcz107_0 := bc BK1617 0 (.slice Ao13 t1613.length co13)
             have hfz107_0 := blk_frozen BK1617.out 0
             go_wp2_with (first | ((with_reducible refine gate_callee (f := 25) rfl ?_); refine gl (some 112) Try.func25 #[.agg #[.slice Ao13 t1613.length co13]] ?_; (with_reducible refine (spec_GenusOf.calls kj79 _ _ t1613 t1657 _ ?side1 ?side2 A100.out).mono ?_); (case side1 => exact co (Kd.Q_reads' HO_1618000.out).2.2); (case side2 => exact (Kd.Q_reads' HO_1618000.out).2.1); rintro e w108 ⟨rfl, hb⟩; refine ⟨_, rfl, ?_⟩; replace HO_5 := am (Kd.R_below (ro HO_5.out) hb); replace HO_7 := am (Kd.R_below (ro HO_7.out) hb); replace HO_9 := am (Kd.R_below (ro HO_9.out) hb); replace HO_1618000 := am (Kd.Q_below (qo HO_1618000.out) hb); replace HO_1628000 := am (Kd.Q_below (qo HO_1628000.out) hb); replace HO_1640000 := am (Kd.Q_below (qo HO_1640000.out) hb); replace BK1617 := kb BK1617 hb; replace BK1627 := kb BK1627 hb; replace BK1639 := kb BK1639 hb; replace HB := am (below_step bw hb); clear hb; have p1658 : 0 ≤ (0 : Int) := (by omega); have q1658 : 0 < (t1618.length : Int) := of_decide_eq_true (by first | (with_reducible assumption) | assumption); obtain ⟨ad1658, e1658, hx1658_0⟩ := Kd.at_int (Kd.R_reads' HO_5.out).2.2 0 p1658 q1658; cases e1658; have qi1658 : (0 < t1618.length) = True := eq_true (by omega); (try rw [show ((0 : Int)).toNat = 0 from rfl] at hx1658_0); (try rw [Addr.add_zero'] at hx1658_0); replace p1658 := eq_true p1658; replace q1658 := eq_true q1658))
             go_ret
             exact ⟨re, bw⟩
            ·rw [if_neg c102] at H
             have c102b0 : ((t1618.length : Int) == 1) = false := beq_eq_false_iff_ne.mpr c102
             have c102b1 : ((t1618.length : Int) != 1) = true := bne_iff_ne.mpr c102
             exact absurd (Option.some.inj H) (by decide)
           ·rw [if_neg c101] at H
            have c101b0 : (t1657 == 0) = false := beq_eq_false_iff_ne.mpr c101
            have c101b1 : (t1657 != 0) = true := bne_iff_ne.mpr c101
            replace H := ga H; obtain ⟨t1659, A114, H⟩ := H
            replace H := ga H; obtain ⟨t1662, A115, H⟩ := H
            have HRE_ := Option.some.inj H
            obtain ⟨Ao116, co116, eo116⟩ := Kd.R_slice HO_5.out
            subst eo116
            have hnb117 := NB1617_1627.out
            have hnc117 := NB1627_1617.out
            have hnb118 := NB1617_1639.out
            have hnc118 := NB1639_1617.out
            have hcz119_0 := bc BK1617 0 (.slice Ao13 t1613.length co13)
            have hfz119_0 := blk_frozen BK1617.out 0
            go_wp2_with (first | ((with_reducible refine gate_callee (f := 25) rfl ?_); refine gl (some 112) Try.func25 #[.agg #[.slice Ao13 t1613.length co13]] ?_; (with_reducible refine (spec_GenusOf.calls kj79 _ _ t1613 t1657 _ ?side1 ?side2 A100.out).mono ?_); (case side1 => exact co (Kd.Q_reads' HO_1618000.out).2.2); (case side2 => exact (Kd.Q_reads' HO_1618000.out).2.1); rintro e w120 ⟨rfl, hb⟩; refine ⟨_, rfl, ?_⟩; replace HO_5 := am (Kd.R_below (ro HO_5.out) hb); replace HO_7 := am (Kd.R_below (ro HO_7.out) hb); replace HO_9 := am (Kd.R_below (ro HO_9.out) hb); replace HO_1618000 := am (Kd.Q_below (qo HO_1618000.out) hb); replace HO_1628000 := am (Kd.Q_below (qo HO_1628000.out) hb); replace HO_1640000 := am (Kd.Q_below (qo HO_1640000.out) hb); replace BK1617 := kb BK1617 hb; replace BK1627 := kb BK1627 hb; replace BK1639 := kb BK1639 hb; replace HB := am (below_step bw hb); clear hb; have hcz121_0 := bc BK1617 0 (.slice Ao13 t1613.length co13); have hfz121_0 := blk_frozen BK1617.out 0) | ((with_reducible refine gate_callee (f := 129) rfl ?_); refine gl (some 125) Try.func129 #[.agg #[.slice Ao13 t1613.length co13]] ?_; (with_reducible refine (spec_PseudoFrobenius.calls kj79 _ _ t1613 t1659 _ ?side1 ?side2 A114.out).mono ?_); (case side1 => exact co (Kd.Q_reads' HO_1618000.out).2.2); (case side2 => exact (Kd.Q_reads' HO_1618000.out).2.1); rintro e w122 ⟨v1660, rfl, ho0, hb⟩; refine ⟨_, rfl, ?_⟩; have HO1661 := am (Kd.R_lower (Kd.R_new' (Kd.R_new' (Kd.R_new' (Kd.R_new' (Kd.R_new' (Kd.R_new' ho0 (Kd.R_lt (ro HO_5.out))) (Kd.R_lt (ro HO_7.out))) (Kd.R_lt (ro HO_9.out))) (Kd.Q_lt (qo HO_1618000.out))) (Kd.Q_lt (qo HO_1628000.out))) (Kd.Q_lt (qo HO_1640000.out))) (below_size bw)); replace HO_5 := am (Kd.R_elder' (ro HO_5.out) (Kd.R_base ho0) hb); replace HO_7 := am (Kd.R_elder' (ro HO_7.out) (Kd.R_base ho0) hb); replace HO_9 := am (Kd.R_elder' (ro HO_9.out) (Kd.R_base ho0) hb); replace HO_1618000 := am (Kd.Q_elder' (qo HO_1618000.out) (Kd.R_base ho0) hb); replace HO_1628000 := am (Kd.Q_elder' (qo HO_1628000.out) (Kd.R_base ho0) hb); replace HO_1640000 := am (Kd.Q_elder' (qo HO_1640000.out) (Kd.R_base ho0) hb); replace BK1617 := kb BK1617 hb; replace BK1627 := kb BK1627 hb; replace BK1639 := kb BK1639 hb; replace HB := am (below_step bw hb); clear hb ho0; obtain ⟨Ao123, co123, eo123⟩ := Kd.R_slice HO1661.out; subst eo123) | ((with_reducible refine gate_callee (f := 20) rfl ?_); refine gl (some 126) Try.func20 #[.slice Ao116 t1618.length co116, .slice Ao123 t1659.length co123] ?_; (with_reducible refine (laws_sameInts.calls kj79 _ _ t1618 _ _ t1659 t1662 _ ?side1 ?side2 ?side3 ?side4 A115.out).mono ?_); (case side1 => exact co (Kd.R_reads' HO_5.out).2.2); (case side2 => exact (Kd.R_reads' HO_5.out).2.1); (case side3 => exact co (Kd.R_reads' HO1661.out).2.2); (case side4 => exact (Kd.R_reads' HO1661.out).2.1); rintro e w' ⟨rfl, ⟨nd, rfl⟩⟩; refine ⟨_, rfl, ?_⟩))
            go_ret
            exact ⟨re, bw⟩

/-- THE ONE PURE STATEMENT of laws_FnOrder: yours. -/
def laws_FnOrder.Pure : Prop := ∀ (l0 : List Int), l0.length ≤ maxLen → l0.length * 1 ≤ 140737488351232 → (∀ x ∈ l0, (Lit.int .u8 x).wf = true) → ∃ k, laws_FnOrder.f k l0 = some true
end Go.Proofs.Ytkfplkdchkmgbaa.C
