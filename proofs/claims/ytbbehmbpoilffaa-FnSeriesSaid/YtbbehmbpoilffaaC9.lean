/- Contracts of functions of the program: impl_EulerList, laws_sameInts, spec_l4Gaps, spec_Gaps, spec_FrobeniusOf, spec_ConductorOf, spec_l1Bit, spec_l3Has, spec_l15Has, spec_NumeratorOf, impl_SeriesFrom. -/
import Derived.Test.YtbbehmbpoilffaaC0
import Derived.Test.YtbbehmbpoilffaaC2
import Derived.Test.YtbbehmbpoilffaaC3
import Derived.Test.YtbbehmbpoilffaaC6
import Derived.Test.YtbbehmbpoilffaaC7
import Derived.Test.YtbbehmbpoilffaaC8
namespace Go.Proofs.Ytbbehmbpoilffaa.C
open Go.RowKit Go.Proofs.YtbbehmbpoilffaaW.PrintWords Go.Proofs.YtbbehmbpoilffaaW.PrintLast Go.Proofs.YtbbehmbpoilffaaW.PrintMore
attribute [local go_sem] max2_int min2_int max_two min_two max_three min_three max_four min_four
set_option linter.unusedVariables false
set_option linter.unusedSimpArgs false

/-! ### impl_EulerList: function 14 -/
mutual
def impl_EulerList.l0 : Nat → List Int → List Int → Int → Int → List Int → Option (List Int)
 | 0, _, _, _, _, _ => none
 | k + 1, x3, x16, x17, x18, x578000 => if x18 < x17 then (if 0 ≤ x18 then (if x18 < (x16.length : Int) then (if 0 ≤ (wrap64 ((rd x16 x18) + 1)) then (if (wrap64 ((rd x16 x18) + 1) : Int).toNat ≤ 35184372088832 then ((some (List.replicate (wrap64 ((rd x16 x18) + 1) : Int).toNat 0 : List Int)).bind fun y583 => (if 0 < (y583.length : Int) then (if 0 ≤ (rd x16 x18) then (if (rd x16 x18) < (y583.length : Int) then ((impl_product.f k x3 ((y583.set (0 : Int).toNat 1).set ((rd x16 x18) : Int).toNat (-1))).bind fun t588 => (impl_EulerList.l0 k t588 x16 x17 (wrap64 (x18 + 1)) x578000)) else (none)) else (none)) else (none))) else (none)) else (none)) else (none)) else (none)) else ((impl_FrobeniusOf.f k x578000).bind fun t594 => ((impl_total.f k x578000).bind fun t595 => (impl_EulerList.l1 k x3 (([] : List Int)) 0 (wrap64 ((wrap64 (t594 + t595)) + 1)) 0)))
def impl_EulerList.l1 : Nat → List Int → List Int → Int → Int → Int → Option (List Int)
 | 0, _, _, _, _, _ => none
 | k + 1, x3, x7, x8, x41, x42 => if x42 < x41 then (if x42 < (x3.length : Int) then (if 0 ≤ x42 then (if x7.length < 17592186044416 then (impl_EulerList.l1 k x3 (x7 ++ [wrap64 (x8 + (rd x3 x42))]) (wrap64 (x8 + (rd x3 x42))) x41 (wrap64 (x42 + 1))) else (none)) else (none)) else (if x7.length < 17592186044416 then (impl_EulerList.l1 k x3 (x7 ++ [x8]) x8 x41 (wrap64 (x42 + 1))) else (none))) else ((slices_Clip_int_int.f x7).bind fun t603 => (some t603))
end
def impl_EulerList.f (k : Nat) (l0_0 : List Int) : Option (List Int) := (impl_IsSemigroup.f k l0_0).bind fun t578 => (if t578 = true then ((impl_NumeratorOf.f k l0_0).bind fun t579 => (impl_EulerList.l0 k t579 l0_0 (l0_0.length : Int) 0 l0_0)) else (some ([] : List Int)))
def impl_EulerList.T13 : Bool × List (List Nat × List Nat) := (true, [([], []), ([0], [0]), ([], []), ([2], [2]), ([3, 1], [3]), ([1, 4], [1, 4]), ([5], [5]), ([], [])])
def impl_EulerList.B13 : List Nat := [0, 1, 0, 4, 15, 31, 63, 0]
theorem impl_EulerList.tab13 : rtab .any (opsOf Try.f14 13) = impl_EulerList.T13 := by kernel_rfl
theorem impl_EulerList.bits13 : waitsOk impl_EulerList.T13.2 impl_EulerList.B13 = true := by kernel_rfl
set_option maxHeartbeats 8000000 in
set_option maxRecDepth 100000 in
theorem impl_EulerList.calls (k : Nat) (A0_0 : Option Addr) (c0_0 : Nat) (l0_0 : List Int) (r : List Int) (w : World) (hr0_0 : Kd.C (Kd.int .i64) w A0_0 l0_0.length l0_0) (hc0_0 : l0_0.length ≤ c0_0) (h : impl_EulerList.f k l0_0 = some r) :
  Calls Try.prog 14 #[.agg #[.slice A0_0 l0_0.length c0_0]] w fun e w' => ∃ v0_ : Value, e = .returned (v0_) ∧ Kd.Z (Kd.int .i64) 3 w' w.heap.size (fun _ => True) v0_ r ∧ Below w.heap.size w w' := by
 have hu26 := Try.underlying26
 have HR0_0 := am hr0_0
 have HC0_0 := am hc0_0
 clear hr0_0 hc0_0
 have HB := am (Below.refl w.heap.size w)
 have H : ((impl_IsSemigroup.f k l0_0).bind fun t578 => (if t578 = true then ((impl_NumeratorOf.f k l0_0).bind fun t579 => (impl_EulerList.l0 k t579 l0_0 (l0_0.length : Int) 0 l0_0)) else (some ([] : List Int)))) = some r := h
 clear h
 replace H := ga H; obtain ⟨t578, A2, H⟩ := H
 replace H := gb H; obtain ⟨rfl, H⟩ | ⟨rfl, H⟩ := H
 ·replace H := ga H; obtain ⟨t579, A4, H⟩ := H
  have H' := am H
  clear H
  go_enter Try.func14, Try.ntmps14
  go_wp2_with (first | ((with_reducible refine gate_dst (N := 1) rfl ?_); refine bx 1 #[.slice A0_0 l0_0.length c0_0] 26 ?_; intro gb577 hg w5 hbox hb; have BK577 := am (hbox); have GW577 := am (gs hg : w.heap.size ≤ gb577); have GE577 := GW577; replace HB := am (below_step bw hb); clear hb hbox hg; have hcz6_0 := bc BK577 0 (.slice A0_0 l0_0.length c0_0); have hfz6_0 := blk_frozen BK577.out 0) | ((with_reducible refine gate_callee (f := 65) rfl ?_); refine gl (some 11) Try.func65 #[.agg #[.slice A0_0 l0_0.length c0_0]] ?_; (with_reducible refine (impl_IsSemigroup.calls k _ _ l0_0 true _ ?side1 ?side2 A2.out).mono ?_); (case side1 => exact co (Kd.C_below HR0_0.out HB.out)); (case side2 => exact HC0_0.out); rintro e w7 ⟨rfl, hb⟩; refine ⟨_, rfl, ?_⟩; replace BK577 := kb BK577 hb; replace HB := am (below_step bw hb); clear hb; have hcz8_0 := bc BK577 0 (.slice A0_0 l0_0.length c0_0); have hfz8_0 := blk_frozen BK577.out 0) | ((with_reducible refine gate_callee (f := 8) rfl ?_); refine gl (some 14) Try.func8 #[.agg #[.slice A0_0 l0_0.length c0_0]] ?_; (with_reducible refine (impl_NumeratorOf.calls k _ _ l0_0 t579 _ ?side1 ?side2 A4.out).mono ?_); (case side1 => exact co (Kd.C_below HR0_0.out HB.out)); (case side2 => exact HC0_0.out); rintro e w9 ⟨v580, rfl, ho0, hb⟩; refine ⟨_, rfl, ?_⟩; have HO581 := am (Kd.R_lower ho0 (below_size bw)); replace BK577 := kb BK577 hb; replace HB := am (below_step bw hb); clear hb ho0; have hcz10_0 := bc BK577 0 (.slice A0_0 l0_0.length c0_0); have hfz10_0 := blk_frozen BK577.out 0))
  go_loopg [3, 18] k (fun kq v3 v18 w' => ∃ (x3_1 : List Int) (x18_1 : Int), v18 = .int .i64 x18_1 ∧ Aside0 (impl_EulerList.l0 kq x3_1 l0_0 (l0_0.length : Int) x18_1 l0_0 = some r) ∧ Aside0 (kq ≤ k) ∧ Aside0 (Kd.R (Kd.int .i64) 3 w' w.heap.size (fun _ => True) v3 x3_1) ∧ Aside0 (w'.heap[gb577]? = some (.cells #[(.slice A0_0 l0_0.length c0_0)] 26 (0, 0))) ∧ Aside0 (Below w.heap.size w w'))
  case atStart => exact ⟨(t579), (0), rr, H', ⟨Nat.le_refl _⟩, ⟨ro HO581.out⟩, ⟨bo BK577.out⟩, ⟨bw⟩⟩
  case round =>
   clear H'
   try clear hcz10_0; try clear hcz6_0; try clear hcz8_0; try clear hfz10_0; try clear hfz6_0; try clear hfz8_0
   obtain ⟨x3_1, x18_1, rfl, HA, HK1, HO_3, BK577, HB⟩ := hrel
   cases gk with
   | zero => exact absurd HA.out (by simp [impl_EulerList.l0])
   | succ k1 =>
    have H := HA.out
    clear HA
    simp only [impl_EulerList.l0] at H
    replace H := gi H; obtain ⟨c11b0, H⟩ | ⟨c11b0, H⟩ := H
    ·replace H := gd H; obtain ⟨c12b0, H⟩ := H
     replace H := gd H; obtain ⟨c13b0, H⟩ := H
     obtain ⟨ji14, hji14⟩ : ∃ j_ : Int, (wrap64 ((rd l0_0 x18_1) + 1)) = j_ := ⟨_, rfl⟩
     replace H : (if 0 ≤ (ji14) then (if (ji14 : Int).toNat ≤ 35184372088832 then ((some (List.replicate (ji14 : Int).toNat 0 : List Int)).bind fun y583 => (if 0 < (y583.length : Int) then (if 0 ≤ (rd l0_0 x18_1) then (if (rd l0_0 x18_1) < (y583.length : Int) then ((impl_product.f k1 x3_1 ((y583.set (0 : Int).toNat 1).set ((rd l0_0 x18_1) : Int).toNat (-1))).bind fun t588 => (impl_EulerList.l0 k1 t588 l0_0 (l0_0.length : Int) (wrap64 (x18_1 + 1)) l0_0)) else (none)) else (none)) else (none))) else (none)) else (none)) = some r := by first | (rw [hji14] at H; exact H) | (simp only [hji14] at H ⊢; exact H)
     have hji14w : (IntKind.i64.wrap ((rd l0_0 x18_1) + 1)) = ji14 := (i64_w _).trans hji14
     replace H := gp H; obtain ⟨c15, H⟩ := H
     have c15b0 := eq_true c15
     have c15b1 : decide (0 ≤ (ji14)) = true := decide_eq_true c15
     clear c15
     replace H := gp H; obtain ⟨c16, H⟩ := H
     have c16b0 := eq_true c16
     have c16b1 : decide ((ji14 : Int).toNat ≤ 35184372088832) = true := decide_eq_true c16
     clear c16
     obtain ⟨y583, hy583⟩ : ∃ y_ : List Int, y_ = (List.replicate (ji14 : Int).toNat 0) := ⟨_, rfl⟩
     replace H : (if 0 < (y583.length : Int) then (if 0 ≤ (rd l0_0 x18_1) then (if (rd l0_0 x18_1) < (y583.length : Int) then ((impl_product.f k1 x3_1 ((y583.set (0 : Int).toNat 1).set ((rd l0_0 x18_1) : Int).toNat (-1))).bind fun t588 => (impl_EulerList.l0 k1 t588 l0_0 (l0_0.length : Int) (wrap64 (x18_1 + 1)) l0_0)) else (none)) else (none)) else (none)) = some r := by first | (rw [hy583]; with_reducible first | exact H | exact bs H) | (with_reducible first | exact bs H | exact H) | (rw [hy583]; exact H) | exact H
     have Ny583 := am hy583
     clear hy583
     replace H := gp H; obtain ⟨c17, H⟩ := H
     have c17b0 : decide (0 < (y583.length : Int)) = true := decide_eq_true c17
     have c17b1 : decide (0 < y583.length) = true := decide_eq_true (by omega)
     clear c17
     obtain ⟨y586, hy586⟩ : ∃ y_ : List Int, y_ = (y583.set (0 : Int).toNat 1) := ⟨_, rfl⟩
     replace H : (if 0 ≤ (rd l0_0 x18_1) then (if (rd l0_0 x18_1) < (y583.length : Int) then ((impl_product.f k1 x3_1 (y586.set ((rd l0_0 x18_1) : Int).toNat (-1))).bind fun t588 => (impl_EulerList.l0 k1 t588 l0_0 (l0_0.length : Int) (wrap64 (x18_1 + 1)) l0_0)) else (none)) else (none)) = some r := by first | (rw [hy586]; with_reducible first | exact H | exact bs H) | (with_reducible first | exact bs H | exact H) | (rw [hy586]; exact H) | exact H
     have Ny586 := am hy586
     clear hy586
     replace H := gd H; obtain ⟨c19b0, H⟩ := H
     replace H := gd H; obtain ⟨c20b0, H⟩ := H
     obtain ⟨y587, hy587⟩ : ∃ y_ : List Int, y_ = (y586.set ((rd l0_0 x18_1) : Int).toNat (-1)) := ⟨_, rfl⟩
     replace H : ((impl_product.f k1 x3_1 y587).bind fun t588 => (impl_EulerList.l0 k1 t588 l0_0 (l0_0.length : Int) (wrap64 (x18_1 + 1)) l0_0)) = some r := by first | (rw [hy587]; with_reducible first | exact H | exact bs H) | (with_reducible first | exact bs H | exact H) | (rw [hy587]; exact H) | exact H
     have Ny587 := am hy587
     clear hy587
     replace H := ga H; obtain ⟨t588, A22, H⟩ := H
     have H' := am H
     clear H
     obtain ⟨⟨ad582, e582, hx582_0⟩, p582, q582⟩ := pq (Kd.at_int HR0_0.out x18_1)
     cases e582
     replace hx582_0 := hw HB hx582_0
     go_wp2_with (first | ((with_reducible refine gate_dst (N := 24) rfl ?_); refine Kd.R_make (Kd.int .i64) _ 3 rfl (N := 24) rfl 24 _ _ rfl ji14 rfl rfl Try.underlying24 (.int .i64 0) 8 info3 rfl (by decide) (by omega) 0 (ok := fun _ => True) (okp := fun _ => True) rfl (fun _ hk => hk) trivial (of_decide_eq_true (by first | (with_reducible assumption) | assumption)) (Nat.le_trans (Nat.mul_le_mul_right _ (of_decide_eq_true (by first | (with_reducible assumption) | assumption) : ji14.toNat ≤ 35184372088832)) (by omega)) (Below.refl _ _) (Nat.le_refl _) ?_; intro v584 w23 ho24 hb hg_ hnew_; clear hg_ hnew_; (first | rw [← Ny583.out] at ho24 | (simp only [Int.reduceToNat] at ho24; rw [← Ny583.out] at ho24)); have HO585 := am (Kd.R_lower (Kd.R_new' ho24 (Kd.R_lt (ro HO_3.out))) (below_size bw)); replace HO_3 := am (Kd.R_elder' (ro HO_3.out) (Kd.R_base ho24) hb); replace BK577 := kb BK577 hb; replace HB := am (below_step bw hb); clear hb ho24; have p18 : 0 ≤ (0 : Int) := (by omega); have q18 : (0 : Int) < ((y583.length : Int) : Int) := of_decide_eq_true (by first | (with_reducible assumption) | assumption); have qi18 : (0 < y583.length) = True := eq_true (by omega); obtain ⟨go18, co18, eo18, gb18, gl18, cl18, HG18⟩ := Kd.R_form HO585.out (by omega); (first | cases eo18 | (injection eo18 with ea_ en_ ec_; (first | subst ea_ | (injection ea_ with ea_; subst ea_)); subst ec_; clear en_)); have GB18 := am gb18; have GG18 := am HG18; clear gb18 gl18 HG18; obtain ⟨hx18_0, hf18_0⟩ := Kd.R_celln 0 HO585.out (0 : Int) p18 q18; (try rw [show ((0 : Int)).toNat = 0 from rfl] at hx18_0); (try simp only [Nat.reduceMul, Nat.zero_mul, Nat.zero_add, Nat.reduceAdd] at hx18_0); (try rw [show ((0 : Int)).toNat = 0 from rfl] at hf18_0); (try simp only [Nat.reduceMul, Nat.zero_mul, Nat.zero_add, Nat.reduceAdd] at hf18_0); replace p18 := eq_true p18; replace q18 := eq_true q18; have n_ := am (Kd.R_mono (ok' := (fun k_ => some k_ ≠ (u3 : Value).ownBlock)) HO585.out (fun k_ hk => hk.2)); clear HO585; have HO585 := n_; clear n_; obtain ⟨hy25_, hz25_⟩ := Kd.R_celln 0 HO585.out (0 : Int) (by omega) (of_decide_eq_true (by first | (with_reducible assumption) | assumption)); (try simp only [Int.reduceToNat, Int.toNat_zero, Int.toNat_ofNat, Nat.reduceMul, Nat.zero_mul, Nat.zero_add] at hy25_ hz25_); (try rw [show ((0 : Int)).toNat = 0 from rfl] at hy25_); (try rw [show ((0 : Int)).toNat = 0 from rfl] at hz25_); have HP25 := Kd.R_putg HO585.out (0 : Int) 1) | ((with_reducible refine gate_store (t := 3) (p := 28) rfl ?_); refine store_event (t := 3) (p := 28) (v := ?vo_w26) (w1 := (w23.setCell ⟨go18, (0 : Int).toNat, none⟩ (.int .i64 1))) ?hg ?ho ?hn ?hr ?_; (case ho => rfl); (case hg => rfl); (case hn => rfl); (case hr => first | (go_simp; done) | (go_simp; rfl)); intro w26 hw; have hg : w23.grownBy w26 (some go18) := (by rw [hw]; exact HP25.2); have hp_ : Kd.R (Kd.int .i64) 3 w26 w.heap.size (fun k_ => some k_ ≠ (u3 : Value).ownBlock) (.slice (some ⟨go18, 0, none⟩) y583.length co18) y586 := (by rw [hw, Ny586.out]; exact HP25.1); clear HP25; replace HO_3 := am (Kd.R_after (v := (.slice (some ⟨go18, 0, none⟩) y583.length co18)) (v1 := (.slice (some ⟨go18, 0, none⟩) y583.length co18)) (ok := (fun _ => True)) (ro HO_3.out) hg (.inl rfl)); replace BK577 := am (blk_grown (g := gb577) (o := .cells #[.slice (some ad582) l0_0.length c0_0] 26 (0, 0)) (bo BK577.out) hg (Kd.R_ne HO585.out BK577.out (by decide))); replace HO585 := am (hp_); replace HB := am ((by rw [hw]; exact below_set (HB.out) GB18.out : Below w.heap.size w w26)); clear hg hw hp_; have p21 : 0 ≤ ((rd l0_0 x18_1) : Int) := of_decide_eq_true (by first | (with_reducible assumption) | assumption); have q21 : ((rd l0_0 x18_1) : Int) < ((y583.length : Int) : Int) := of_decide_eq_true (by first | (with_reducible assumption) | assumption); obtain ⟨hx21_0, hf21_0⟩ := Kd.R_celln 0 HO585.out ((rd l0_0 x18_1) : Int) p21 q21; replace p21 := eq_true p21; replace q21 := eq_true q21; obtain ⟨hy27_, hz27_⟩ := Kd.R_celln 0 HO585.out ((rd l0_0 x18_1) : Int) (of_decide_eq_true (by first | (with_reducible assumption) | assumption)) (of_decide_eq_true (by first | (with_reducible assumption) | assumption)); have HP27 := Kd.R_putg HO585.out ((rd l0_0 x18_1) : Int) (-1)) | ((with_reducible refine gate_store (t := 3) (p := 29) rfl ?_); refine store_event (t := 3) (p := 29) (v := ?vo_w28) (w1 := (w26.setCell ⟨go18, ((rd l0_0 x18_1) : Int).toNat, none⟩ (.int .i64 (-1)))) ?hg ?ho ?hn ?hr ?_; (case ho => rfl); (case hg => rfl); (case hn => rfl); (case hr => first | (go_simp; done) | (go_simp; rfl)); intro w28 hw; have hg : w26.grownBy w28 (some go18) := (by rw [hw]; exact HP27.2); have hp_ : Kd.R (Kd.int .i64) 3 w28 w.heap.size (fun k_ => some k_ ≠ (u3 : Value).ownBlock) (.slice (some ⟨go18, 0, none⟩) y583.length co18) y587 := (by rw [hw, Ny587.out]; exact HP27.1); clear HP27; replace HO_3 := am (Kd.R_after (v := (.slice (some ⟨go18, 0, none⟩) y583.length co18)) (v1 := (.slice (some ⟨go18, 0, none⟩) y583.length co18)) (ok := (fun _ => True)) (ro HO_3.out) hg (.inl rfl)); replace BK577 := am (blk_grown (g := gb577) (o := .cells #[.slice (some ad582) l0_0.length c0_0] 26 (0, 0)) (bo BK577.out) hg (Kd.R_ne HO585.out BK577.out (by decide))); replace HO585 := am (hp_); replace HB := am ((by rw [hw]; exact below_set (HB.out) GB18.out : Below w.heap.size w w28)); clear hg hw hp_; obtain ⟨Ao29, co29, eo29⟩ := Kd.R_slice HO_3.out; subst eo29) | ((with_reducible refine gate_callee (f := 73) rfl ?_); refine goesL_ (some 32) rfl rfl Try.func73 (by kernel_rfl) rfl #[.slice Ao29 x3_1.length co29, .slice (some ⟨go18, 0, none⟩) y587.length co18] rfl (by (try simp only [List.map_toArray, List.map_cons, List.map_nil]); first | done | (rw [show y587.length = y583.length from (Kd.R_reads' HO585.out).1.symm] <;> rfl) | rfl | (simp only [List.length_drop, List.length_take]; rfl)) ?_; (with_reducible refine (impl_product.calls k1 _ _ x3_1 _ _ y587 t588 _ ?side1 ?side2 ?side3 ?side4 A22.out).mono ?_); (case side1 => exact co (Kd.R_reads' HO_3.out).2.2); (case side2 => exact (Kd.R_reads' HO_3.out).2.1); (case side3 => exact co (Kd.R_reads' HO585.out).2.2); (case side4 => rw [show y587.length = y583.length from (Kd.R_reads' HO585.out).1.symm]; exact (Kd.R_reads' HO585.out).2.1); rintro e w30 ⟨v589, rfl, ho0, hb⟩; refine ⟨_, rfl, ?_⟩; have HO590 := am (Kd.R_lower (Kd.R_new' (Kd.R_new' ho0 (Kd.R_lt (ro HO_3.out))) (Kd.R_lt (ro HO585.out))) (below_size bw)); replace HO_3 := am (Kd.R_elder' (ro HO_3.out) (Kd.R_base ho0) hb); replace HO585 := am (Kd.R_elder' (ro HO585.out) (Kd.R_base ho0) hb); replace BK577 := kb BK577 hb; replace HB := am (below_step bw hb); clear hb ho0))
     go_roundg k1
     case measure => have := HK1.out; omega
     case rel => exact ⟨(t588), (wrap64 (x18_1 + 1)), rr, H', ⟨by have := HK1.out; omega⟩, ⟨by (with_reducible repeat (first | apply Kd.R_alloc | apply Kd.R_drewN | apply Kd.R_drew)); exact Kd.R_mono HO590.out (fun _ hk => trivial)⟩, ⟨bo BK577.out⟩, ⟨bw⟩⟩
    obtain ⟨y591, hy591⟩ : ∃ y_ : List Int, y_ = (([] : List Int)) := ⟨_, rfl⟩
    replace H : ((impl_FrobeniusOf.f k1 l0_0).bind fun t594 => ((impl_total.f k1 l0_0).bind fun t595 => (impl_EulerList.l1 k1 x3_1 y591 0 (wrap64 ((wrap64 (t594 + t595)) + 1)) 0))) = some r := by first | (rw [hy591]; with_reducible first | exact H | exact bs H) | (with_reducible first | exact bs H | exact H) | (rw [hy591]; exact H) | exact H
    have Ny591 := am hy591
    clear hy591
    replace H := ga H; obtain ⟨t594, A31, H⟩ := H
    replace H := ga H; obtain ⟨t595, A32, H⟩ := H
    have H' := am H
    clear H
    try go_wp2_with (first | ((with_reducible refine gate_dst (N := 34) rfl ?_); refine Kd.R_lit (Kd.int .i64) _ 3 ?hg (N := 34) ?hd (xs := ([] : List Int)) (inner := []) (ok := fun _ => True) (okp := fun _ => True) ?hr ?hp (fun _ hk => hk) trivial (Below.refl _ _) (Nat.le_refl _) (by simp) ?_; (case hd => rfl); (case hg => rfl); (case hr => first | (go_simp; done) | (go_simp; rfl)); (case hp => exact (Reps.none _ _)); intro v592 w33 ho34 hb hg_ hnew_; clear hg_ hnew_; (first | rw [← Ny591.out] at ho34 | (simp only [Int.reduceToNat] at ho34; rw [← Ny591.out] at ho34)); have HO593 := am (Kd.R_lower (Kd.R_new' ho34 (Kd.R_lt (ro HO_3.out))) (below_size bw)); replace HO_3 := am (Kd.R_elder' (ro HO_3.out) (Kd.R_base ho34) hb); replace BK577 := kb BK577 hb; replace HB := am (below_step bw hb); clear hb ho34))
    replace HO_3 := am (Kd.R_drew HO_3.out)
    replace HO593 := am (Kd.R_drew HO593.out)
    replace BK577 := bd BK577
    replace HB := am (below_drew1 HB.out)
    refine start_ (n := 8) (S := fun w' => w'.cell? ⟨gb577, 0, none⟩ = some (.slice A0_0 l0_0.length c0_0)) (ds := []) (yz 8 0) (by kernel_rfl) rfl rfl (bc BK577 0 _) (fun hHeld => ?_); refine with_tabW impl_EulerList.tab13 impl_EulerList.bits13 (fun HT_ HW_ => ?_)
    generalize w33.drew = w35 at HO_3 HO593 BK577 HB hHeld ⊢
    refine pa 2 (some 37) (yz 8 4) HT_ ?_
    refine pa 7 (some 42) (yz 8 132) HT_ ?_
    refine tK 0 (some 35) (yz 8 133) HT_ HW_ hHeld ?_
    refine tK 3 (some 38) (yz 8 141) HT_ HW_ hHeld ?_
    refine oa 1 (some 36) (yz 8 143) HT_ (fun K hK => ?_)
    refine gm Try.func74 #[.agg #[.slice A0_0 l0_0.length c0_0]] ?_
    with_reducible refine (impl_FrobeniusOf.calls k1 _ _ l0_0 t594 _ ?side1 ?side2 A31.out).mono ?_
    (case side1 => exact co (Kd.C_below HR0_0.out HB.out))
    (case side2 => exact HC0_0.out)
    rintro e w36 ⟨rfl, hb⟩
    refine ⟨_, rfl, ?_⟩
    replace HO_3 := rK HO_3 hb
    replace HO593 := rK HO593 hb
    replace BK577 := kb BK577 hb
    replace HB := am (below_step bw hb)
    clear hb
    refine hK.out _ _ (bc BK577 0 _) (fun hHeld => ?_)
    clear hK K
    refine nm (some 36) ?_
    refine oa 4 (some 39) (yz 8 159) HT_ (fun K hK => ?_)
    refine gm Try.func75 #[.slice A0_0 l0_0.length c0_0] ?_
    with_reducible refine (impl_total.calls k1 _ _ l0_0 t595 _ ?side1 ?side2 A32.out).mono ?_
    (case side1 => exact co (Kd.C_below HR0_0.out HB.out))
    (case side2 => exact HC0_0.out)
    rintro e w' ⟨rfl, ⟨nd, rfl⟩⟩
    refine ⟨_, rfl, ?_⟩
    refine hK.out _ _ (bc BK577 0 _) (fun hHeld => ?_)
    clear hK K
    refine nm (some 39) ?_
    refine pa 5 (some 40) (yz 8 191) HT_ ?_
    refine pa 6 (some 41) (yz 8 255) HT_ ?_
    refine done_ (done_of HT_.out (by kernel_rfl)) ?_
    try go_wp2
    go_loopg [7, 8, 42] k1 (fun kq v7 v8 v42 w' => ∃ (x7_2 : List Int) (x8_2 : Int) (x42_2 : Int), v8 = .int .i64 x8_2 ∧ v42 = .int .i64 x42_2 ∧ Aside0 (impl_EulerList.l1 kq x3_1 x7_2 x8_2 (wrap64 ((wrap64 (t594 + t595)) + 1)) x42_2 = some r) ∧ Aside0 (kq ≤ k1) ∧ Aside0 (Kd.R (Kd.int .i64) 3 w' w.heap.size (fun k_ => some k_ ≠ (v7 : Value).ownBlock) u3 x3_1) ∧ Aside0 (Kd.R (Kd.int .i64) 3 w' w.heap.size (fun k_ => some k_ ≠ (u3 : Value).ownBlock) v7 x7_2) ∧ Aside0 (w'.heap[gb577]? = some (.cells #[(.slice A0_0 l0_0.length c0_0)] 26 (0, 0))) ∧ Aside0 (Below w.heap.size w w'))
    case atStart => exact ⟨(y591), (0), (0), rr, rr, H', ⟨Nat.le_refl _⟩, ⟨by (with_reducible repeat (first | apply Kd.R_alloc | apply Kd.R_drewN | apply Kd.R_drew)); exact Kd.R_mono HO_3.out (fun _ hk => hk.2)⟩, ⟨by (with_reducible repeat (first | apply Kd.R_alloc | apply Kd.R_drewN | apply Kd.R_drew)); exact Kd.R_mono HO593.out (fun _ hk => hk.2)⟩, ⟨bo BK577.out⟩, ⟨bw⟩⟩
    case round =>
     clear H'
     try clear c11b0; try clear c12b0; try clear c13b0; try clear c15; try clear c15b0; try clear c15b1; try clear c16; try clear c16b0; try clear c16b1; try clear c17; try clear c17b0; try clear c17b1; try clear p18; try clear q18; try clear qi18; try clear c19b0; try clear c20b0; try clear p21; try clear q21; try clear hcz10_0; try clear hcz6_0; try clear hcz8_0; try clear hfz10_0; try clear hfz6_0; try clear hfz8_0; try clear hx18_0; try clear hx21_0; try clear hx582_0; try clear p582; try clear q582
     obtain ⟨x7_2, x8_2, x42_2, rfl, rfl, HA, HK2, HO_3, HO_7, BK577, HB⟩ := hrel
     cases gk with
     | zero => exact absurd HA.out (by simp [impl_EulerList.l1])
     | succ k2 =>
      have H := HA.out
      clear HA
      simp only [impl_EulerList.l1] at H
      replace H := gi H; obtain ⟨c37b0, H⟩ | ⟨c37b0, H⟩ := H
      ·replace H := gi H; obtain ⟨c38b0, H⟩ | ⟨c38b0, H⟩ := H
       ·replace H := gd H; obtain ⟨c39b0, H⟩ := H
        by_cases c40 : x7_2.length < 17592186044416
        rotate_left
        ·rw [if_neg c40] at H
         exact absurd H (by simp)
        rw [if_pos c40] at H
        have LMc40 := am c40
        clear c40
        obtain ⟨y597, hy597⟩ : ∃ y_ : List Int, y_ = (x7_2 ++ [wrap64 (x8_2 + (rd x3_1 x42_2))]) := ⟨_, rfl⟩
        replace H : (impl_EulerList.l1 k2 x3_1 y597 (wrap64 (x8_2 + (rd x3_1 x42_2))) (wrap64 ((wrap64 (t594 + t595)) + 1)) (wrap64 (x42_2 + 1))) = some r := by first | (rw [hy597]; with_reducible first | exact H | exact bs H) | (with_reducible first | exact bs H | exact H) | (rw [hy597]; exact H) | exact H
        have Ny597 := am hy597
        clear hy597
        have H' := am H
        clear H
        obtain ⟨Ao41, co41, eo41⟩ := Kd.R_slice HO_3.out
        subst eo41
        obtain ⟨⟨ad596, e596, hx596_0⟩, p596, q596⟩ := pq (Kd.at_int (Kd.R_reads' HO_3.out).2.2 x42_2)
        cases e596
        go_wp2_with (first | ((with_reducible refine gate_builtin (b := .append) (xs := #[.tmp 55, .tmp 57]) rfl ?_); at_builtin; refine Kd.R_append (Kd.int .i64) (w0 := w) w.heap.size rfl (.tmp 55) (.tmp 57) 24 3 (.int .i64 0) 8 rfl Try.underlying24 info3 rfl (by decide) (by omega) u7 x7_2 (wrap64 (x8_2 + (rd x3_1 x42_2))) [.int .i64 (wrap64 (x8_2 + (rd x3_1 x42_2)))] (fun k_ => some k_ ≠ (.slice (some ad596) x3_1.length co41 : Value).ownBlock) (fun _ => False) rfl rfl ?aP (fun _ hk => hk.elim) ?aF ?aO ?aB ?aS ?aL ?_; (case aP => exact rfl); (case aB => exact bw); (case aF => exact (fun k_ hk => Kd.fresh' (Kd.R_lt (ro HO_3.out)) k_ hk)); (case aO => exact (ro HO_7.out)); (case aS => exact (below_size bw)); (case aL => have := LMc40.out; omega); intro v598 w42 ho hb hg hat; rw [← Ny597.out] at ho; replace HO_3 := am (Kd.R_after (ok := (fun _ => True)) (by (with_reducible repeat (first | apply Kd.R_alloc | apply Kd.R_drewN | apply Kd.R_drew)); exact Kd.R_mono HO_3.out (fun _ hk => ⟨trivial, by first | exact hk | exact (by intro a n m c x h; cases a <;> exact h : ∀ (a : Option Addr) (n m c x : Nat), some x ≠ (Value.slice a n c).ownBlock → some x ≠ (Value.slice a m c).ownBlock) _ _ _ _ _ hk⟩)) hg hat); replace BK577 := am (blk_grown (g := gb577) (o := .cells #[.slice A0_0 l0_0.length c0_0] 26 (0, 0)) (bo BK577.out) hg (Kd.R_ne HO_7.out BK577.out (by decide))); replace HB := am (hb); have HO599 := am (ho); clear HO_7 ho hb hg hat))
        go_roundg k2
        case measure => have := HK1.out; have := HK2.out; omega
        case rel => exact ⟨(y597), (wrap64 (x8_2 + (rd x3_1 x42_2))), (wrap64 (x42_2 + 1)), rr, rr, H', ⟨by have := HK1.out; have := HK2.out; omega⟩, ⟨by (with_reducible repeat (first | apply Kd.R_alloc | apply Kd.R_drewN | apply Kd.R_drew)); exact Kd.R_mono HO_3.out (fun _ hk => hk.2)⟩, ⟨ro HO599.out⟩, ⟨bo BK577.out⟩, ⟨bw⟩⟩
       by_cases c43 : x7_2.length < 17592186044416
       rotate_left
       ·rw [if_neg c43] at H
        exact absurd H (by simp)
       rw [if_pos c43] at H
       have LMc43 := am c43
       clear c43
       obtain ⟨y600, hy600⟩ : ∃ y_ : List Int, y_ = (x7_2 ++ [x8_2]) := ⟨_, rfl⟩
       replace H : (impl_EulerList.l1 k2 x3_1 y600 x8_2 (wrap64 ((wrap64 (t594 + t595)) + 1)) (wrap64 (x42_2 + 1))) = some r := by first | (rw [hy600]; with_reducible first | exact H | exact bs H) | (with_reducible first | exact bs H | exact H) | (rw [hy600]; exact H) | exact H
       have Ny600 := am hy600
       clear hy600
       have H' := am H
       clear H
       obtain ⟨Ao44, co44, eo44⟩ := Kd.R_slice HO_3.out
       subst eo44
       go_wp2_with (first | ((with_reducible refine gate_builtin (b := .append) (xs := #[.tmp 55, .tmp 57]) rfl ?_); at_builtin; refine Kd.R_append (Kd.int .i64) (w0 := w) w.heap.size rfl (.tmp 55) (.tmp 57) 24 3 (.int .i64 0) 8 rfl Try.underlying24 info3 rfl (by decide) (by omega) u7 x7_2 x8_2 [.int .i64 x8_2] (fun k_ => nb k_ Ao44 x3_1 co44) (fun _ => False) rfl rfl ?aP (fun _ hk => hk.elim) ?aF ?aO ?aB ?aS ?aL ?_; (case aP => exact rfl); (case aB => exact bw); (case aF => exact (fun k_ hk => Kd.fresh' (Kd.R_lt (ro HO_3.out)) k_ hk)); (case aO => exact (ro HO_7.out)); (case aS => exact (below_size bw)); (case aL => have := LMc43.out; omega); intro v601 w45 ho hb hg hat; rw [← Ny600.out] at ho; replace HO_3 := am (Kd.R_after (ok := (fun _ => True)) (by (with_reducible repeat (first | apply Kd.R_alloc | apply Kd.R_drewN | apply Kd.R_drew)); exact Kd.R_mono HO_3.out (fun _ hk => ⟨trivial, by first | exact hk | exact (by intro a n m c x h; cases a <;> exact h : ∀ (a : Option Addr) (n m c x : Nat), some x ≠ (Value.slice a n c).ownBlock → some x ≠ (Value.slice a m c).ownBlock) _ _ _ _ _ hk⟩)) hg hat); replace BK577 := am (blk_grown (g := gb577) (o := .cells #[.slice A0_0 l0_0.length c0_0] 26 (0, 0)) (bo BK577.out) hg (Kd.R_ne HO_7.out BK577.out (by decide))); replace HB := am (hb); have HO602 := am (ho); clear HO_7 ho hb hg hat))
       go_roundg k2
       case measure => have := HK1.out; have := HK2.out; omega
       case rel => exact ⟨(y600), (x8_2), (wrap64 (x42_2 + 1)), rr, rr, H', ⟨by have := HK1.out; have := HK2.out; omega⟩, ⟨by (with_reducible repeat (first | apply Kd.R_alloc | apply Kd.R_drewN | apply Kd.R_drew)); exact Kd.R_mono HO_3.out (fun _ hk => hk.2)⟩, ⟨ro HO602.out⟩, ⟨bo BK577.out⟩, ⟨bw⟩⟩
      replace H := ga H; obtain ⟨t603, A46, H⟩ := H
      obtain rfl := Option.some.inj H
      obtain ⟨Ao47, co47, eo47⟩ := Kd.R_slice HO_7.out
      subst eo47
      go_wp2_with (first | ((with_reducible refine gate_callee (f := 76) rfl ?_); refine gl (some 61) Try.func76 #[.slice Ao47 x7_2.length co47] ?_; (with_reducible refine (slices_Clip_int_int.calls (fun k_ => some k_ = (.slice Ao47 x7_2.length co47 : Value).ownBlock) (.slice Ao47 x7_2.length co47) x7_2 t603 w _ ?side1 ?side2 A46.out).mono ?_); (case side1 => exact bw); (case side2 => exact Kd.R_tight rfl HO_7.out); rintro e w48 ⟨v604, rfl, ho0, hb, hkp⟩; refine ⟨_, rfl, ?_⟩; replace BK577 := am (blk_kept (bo BK577.out) hkp (fun hs_ => (fun e_ => (Kd.R_ne HO_7.out BK577.out (by decide)) e_) hs_)); have HO605 := am (Kd.Z_mono (ok' := fun k_ => some k_ ≠ (u3 : Value).ownBlock) ho0 (fun k_ hk_ => Or.elim hk_ (fun hs_ => fun e_ => (((HO_3.out).1 k_ e_.symm)) hs_) (fun hn_ => (Kd.fresh' (Kd.R_lt (ro HO_3.out)) k_ hn_)))); replace HO_3 := am (Kd.R_mono (ok' := fun k_ => some k_ ≠ (v604 : Value).ownBlock) (Kd.R_keptB (HO_3.out) hkp (fun k_ hk_ hs_ => (hk_) hs_)) (fun k_ hk_ => fun e_ => Or.elim (ho0.1 k_ e_.symm) (fun hs_ => hk_.2.1 hs_) (fun hn_ => Nat.not_le.2 hk_.2.2 hn_))); replace HB := am (hb); clear HO_7 hb hkp ho0))
      go_ret
      exact ⟨_, re, Kd.Z_mono HO605.out (fun _ _ => trivial), bw⟩
 obtain rfl := Option.some.inj H
 go_enter Try.func14, Try.ntmps14
 go_wp2_with (first | ((with_reducible refine gate_dst (N := 1) rfl ?_); refine bx 1 #[.slice A0_0 l0_0.length c0_0] 26 ?_; intro gb577 hg w49 hbox hb; have BK577 := am (hbox); have GW577 := am (gs hg : w.heap.size ≤ gb577); have GE577 := GW577; replace HB := am (below_step bw hb); clear hb hbox hg; have hcz50_0 := bc BK577 0 (.slice A0_0 l0_0.length c0_0); have hfz50_0 := blk_frozen BK577.out 0) | ((with_reducible refine gate_callee (f := 65) rfl ?_); refine gl (some 11) Try.func65 #[.agg #[.slice A0_0 l0_0.length c0_0]] ?_; (with_reducible refine (impl_IsSemigroup.calls k _ _ l0_0 false _ ?side1 ?side2 A2.out).mono ?_); (case side1 => exact co (Kd.C_below HR0_0.out HB.out)); (case side2 => exact HC0_0.out); rintro e w51 ⟨rfl, hb⟩; refine ⟨_, rfl, ?_⟩; replace BK577 := kb BK577 hb; replace HB := am (below_step bw hb); clear hb))
 go_ret
 exact ⟨_, re, Kd.Z_nil _ _ _ _ _, bw⟩


/-! ### laws_sameInts: function 15 -/
def laws_sameInts.l0 : Nat → List Int → List Int → Int → Option (Bool)
 | 0, _, _, _ => none
 | k + 1, x0, x1, x5 => if x5 < (x0.length : Int) then (if 0 ≤ x5 then (if x5 < (x1.length : Int) then (if (rd x0 x5) = (rd x1 x5) then (laws_sameInts.l0 k x0 x1 (wrap64 (x5 + 1))) else (some false)) else (none)) else (none)) else (some true)
def laws_sameInts.f (k : Nat) (l0 : List Int) (l1 : List Int) : Option (Bool) := if (l0.length : Int) = (l1.length : Int) then (laws_sameInts.l0 k l0 l1 0) else (some false)
set_option maxHeartbeats 8000000 in
set_option maxRecDepth 100000 in
theorem laws_sameInts.calls (k : Nat) (A0 : Option Addr) (c0 : Nat) (l0 : List Int) (A1 : Option Addr) (c1 : Nat) (l1 : List Int) (r : Bool) (w : World) (hr0 : Kd.C (Kd.int .i64) w A0 l0.length l0) (hc0 : l0.length ≤ c0) (hr1 : Kd.C (Kd.int .i64) w A1 l1.length l1) (hc1 : l1.length ≤ c1) (h : laws_sameInts.f k l0 l1 = some r) :
  Calls Try.prog 15 #[.slice A0 l0.length c0, .slice A1 l1.length c1] w fun e w' => e = .returned (.bool r) ∧ Drawn0 w w' := by
 have HR0 := am hr0
 have HC0 := am hc0
 clear hr0 hc0
 have HR1 := am hr1
 have HC1 := am hc1
 clear hr1 hc1
 have H : (if (l0.length : Int) = (l1.length : Int) then (laws_sameInts.l0 k l0 l1 0) else (some false)) = some r := h
 clear h
 by_cases c3 : (l0.length : Int) = (l1.length : Int)
 ·rw [if_pos c3] at H
  have c3b0 : ((l0.length : Int) == (l1.length : Int)) = true := beq_iff_eq.mpr c3
  have c3b1 : ((l0.length : Int) != (l1.length : Int)) = false := bne_eq_false_iff_eq.mpr c3
  have c3b2 : (l0.length == l1.length) = true := by first | simpa using c3 | (simp at c3 ⊢; omega)
  clear c3
  have H' := am H
  clear H
  go_enter Try.func15, Try.ntmps15
  go_wp2
  repeat (go_quiet (fail); try go_wp2)
  go_loopg [5] k (fun kq v5 w' => ∃ (x5_1 : Int), v5 = .int .i64 x5_1 ∧ Aside0 (laws_sameInts.l0 kq l0 l1 x5_1 = some r) ∧ Aside0 (kq ≤ k) ∧ Drawn0 w w')
  case atStart => exact ⟨(0), rr, H', ⟨Nat.le_refl _⟩, dw⟩
  case round =>
   clear H'
   try clear c1; try clear c3; try clear c3b0; try clear c3b1; try clear c3b2
   obtain ⟨x5_1, rfl, HA, HK1, ⟨m1, rfl⟩⟩ := hrel
   cases gk with
   | zero => exact absurd HA.out (by simp [laws_sameInts.l0])
   | succ k1 =>
    have H := HA.out
    clear HA
    simp only [laws_sameInts.l0] at H
    replace H := gi H; obtain ⟨c4b0, H⟩ | ⟨c4b0, H⟩ := H
    ·replace H := gd H; obtain ⟨c5b0, H⟩ := H
     replace H := gd H; obtain ⟨c6b0, H⟩ := H
     by_cases c7 : (rd l0 x5_1) = (rd l1 x5_1)
     ·rw [if_pos c7] at H
      have c7b0 : ((rd l0 x5_1) == (rd l1 x5_1)) = true := beq_iff_eq.mpr c7
      have c7b1 : ((rd l0 x5_1) != (rd l1 x5_1)) = false := bne_eq_false_iff_eq.mpr c7
      clear c7
      have H' := am H
      clear H
      obtain ⟨⟨ad606, e606, hx606_0⟩, p606, q606⟩ := pq (Kd.at_int HR0.out x5_1)
      cases e606
      obtain ⟨⟨ad607, e607, hx607_0⟩, p607, q607⟩ := pq (Kd.at_int HR1.out x5_1)
      cases e607
      go_wp2
      repeat (go_quiet (fail); try go_wp2)
      go_roundg k1
      case measure => have := HK1.out; omega
      case rel => exact ⟨(wrap64 (x5_1 + 1)), rr, H', ⟨by have := HK1.out; omega⟩, dw⟩
     rw [if_neg c7] at H
     have c7b0 : ((rd l0 x5_1) == (rd l1 x5_1)) = false := beq_eq_false_iff_ne.mpr c7
     have c7b1 : ((rd l0 x5_1) != (rd l1 x5_1)) = true := bne_iff_ne.mpr c7
     obtain rfl := Option.some.inj H
     obtain ⟨⟨ad606, e606, hx606_0⟩, p606, q606⟩ := pq (Kd.at_int HR0.out x5_1)
     cases e606
     obtain ⟨⟨ad607, e607, hx607_0⟩, p607, q607⟩ := pq (Kd.at_int HR1.out x5_1)
     cases e607
     go_wp2
     repeat (go_quiet (fail); try go_wp2)
     go_ret
     exact ⟨rr, dw⟩
    obtain rfl := Option.some.inj H
    go_wp2
    repeat (go_quiet (fail); try go_wp2)
    go_ret
    exact ⟨rr, dw⟩
 rw [if_neg c3] at H
 have c3b0 : ((l0.length : Int) == (l1.length : Int)) = false := beq_eq_false_iff_ne.mpr c3
 have c3b1 : ((l0.length : Int) != (l1.length : Int)) = true := bne_iff_ne.mpr c3
 have c3b2 : (l0.length == l1.length) = false := by first | simpa using c3 | (simp at c3 ⊢; omega)
 obtain rfl := Option.some.inj H
 go_enter Try.func15, Try.ntmps15
 go_wp2
 repeat (go_quiet (fail); try go_wp2)
 go_ret
 exact ⟨rr, dw⟩


/-! ### spec_l4Gaps: function 138 -/
def spec_l4Gaps.l0 : Nat → List Int → List Bool → Int → Option (List Int)
 | 0, _, _, _ => none
 | k + 1, x3, x4, x5 => if x5 < 200 then (if 0 ≤ x5 then (if x5 < (x4.length : Int) then (if rdOf false x4 x5 = true then (spec_l4Gaps.l0 k x3 x4 (wrap64 (x5 + 1))) else (if x3.length < 17592186044416 then (spec_l4Gaps.l0 k (x3 ++ [x5]) x4 (wrap64 (x5 + 1))) else (none))) else (none)) else (none)) else (some x3)
def spec_l4Gaps.f (k : Nat) (l0_0 : List Int) : Option (List Int) := (spec_l3Table.f k l0_0 200).bind fun t612 => (spec_l4Gaps.l0 k (([] : List Int)) t612 1)
set_option maxHeartbeats 8000000 in
set_option maxRecDepth 100000 in
theorem spec_l4Gaps.calls (k : Nat) (A0_0 : Option Addr) (c0_0 : Nat) (l0_0 : List Int) (r : List Int) (w : World) (hr0_0 : Kd.C (Kd.int .i64) w A0_0 l0_0.length l0_0) (hc0_0 : l0_0.length ≤ c0_0) (h : spec_l4Gaps.f k l0_0 = some r) :
  Calls Try.prog 138 #[.agg #[.slice A0_0 l0_0.length c0_0]] w fun e w' => ∃ v0_ : Value, e = .returned (v0_) ∧ Kd.R (Kd.int .i64) 3 w' w.heap.size (fun _ => True) v0_ r ∧ Below w.heap.size w w' := by
 have hu26 := Try.underlying26
 have HR0_0 := am hr0_0
 have HC0_0 := am hc0_0
 clear hr0_0 hc0_0
 have HB := am (Below.refl w.heap.size w)
 have H : ((spec_l3Table.f k l0_0 200).bind fun t612 => (spec_l4Gaps.l0 k (([] : List Int)) t612 1)) = some r := h
 clear h
 obtain ⟨y609, hy609⟩ : ∃ y_ : List Int, y_ = (([] : List Int)) := ⟨_, rfl⟩
 replace H : ((spec_l3Table.f k l0_0 200).bind fun t612 => (spec_l4Gaps.l0 k y609 t612 1)) = some r := by first | (rw [hy609]; with_reducible first | exact H | exact bs H) | (with_reducible first | exact bs H | exact H) | (rw [hy609]; exact H) | exact H
 have Ny609 := am hy609
 clear hy609
 replace H := ga H; obtain ⟨t612, A2, H⟩ := H
 have H' := am H
 clear H
 go_enter Try.func138, Try.ntmps138
 go_wp2_with (first | ((with_reducible refine gate_dst (N := 1) rfl ?_); refine bx 1 #[.slice A0_0 l0_0.length c0_0] 26 ?_; intro gb608 hg w3 hbox hb; have BK608 := am (hbox); have GW608 := am (gs hg : w.heap.size ≤ gb608); have GE608 := GW608; replace HB := am (below_step bw hb); clear hb hbox hg) | ((with_reducible refine gate_dst (N := 6) rfl ?_); refine Kd.R_lit (Kd.int .i64) _ 3 ?hg (N := 6) ?hd (xs := ([] : List Int)) (inner := []) (ok := fun _ => True) (okp := fun _ => True) ?hr ?hp (fun _ hk => hk) trivial (Below.refl _ _) (Nat.le_refl _) (by simp) ?_; (case hd => rfl); (case hg => rfl); (case hr => first | (go_simp; done) | (go_simp; rfl)); (case hp => exact (Reps.none _ _)); intro v610 w4 ho5 hb hg_ hnew_; clear hg_ hnew_; (first | rw [← Ny609.out] at ho5 | (simp only [Int.reduceToNat] at ho5; rw [← Ny609.out] at ho5)); have HO611 := am (Kd.R_lower ho5 (below_size bw)); replace BK608 := kb BK608 hb; replace HB := am (below_step bw hb); clear hb ho5; have hcz6_0 := bc BK608 0 (.slice A0_0 l0_0.length c0_0); have hfz6_0 := blk_frozen BK608.out 0) | ((with_reducible refine gate_callee (f := 128) rfl ?_); refine gl (some 9) Try.func128 #[.slice A0_0 l0_0.length c0_0, .int .i64 200] ?_; (with_reducible refine (spec_l3Table.calls k _ _ l0_0 200 t612 _ ?side1 ?side2 A2.out).mono ?_); (case side1 => exact co (Kd.C_below HR0_0.out HB.out)); (case side2 => exact HC0_0.out); rintro e w7 ⟨v613, rfl, ho0, hb⟩; refine ⟨_, rfl, ?_⟩; replace HO611 := rK HO611 hb; have HO614 := am (Kd.R_lower ho0 (below_size bw)); replace BK608 := kb BK608 hb; replace HB := am (below_step bw hb); clear hb ho0))
 go_loopg [3, 5] k (fun kq v3 v5 w' => ∃ (x3_1 : List Int) (x5_1 : Int), v5 = .int .i64 x5_1 ∧ Aside0 (spec_l4Gaps.l0 kq x3_1 t612 x5_1 = some r) ∧ Aside0 (kq ≤ k) ∧ Aside0 (Kd.R (Kd.int .i64) 3 w' w.heap.size (fun _ => True) v3 x3_1) ∧ Aside0 (Kd.R Kd.bool 4 w' w.heap.size (fun _ => True) v613 t612) ∧ Aside0 (w'.heap[gb608]? = some (.cells #[(.slice A0_0 l0_0.length c0_0)] 26 (0, 0))) ∧ Aside0 (Below w.heap.size w w'))
 case atStart => exact ⟨(y609), (1), rr, H', ⟨Nat.le_refl _⟩, ⟨ro HO611.out⟩, ⟨ro HO614.out⟩, ⟨bo BK608.out⟩, ⟨bw⟩⟩
 case round =>
  clear H'
  try clear hcz6_0; try clear hfz6_0
  obtain ⟨x3_1, x5_1, rfl, HA, HK1, HO_3, HO_4, BK608, HB⟩ := hrel
  cases gk with
  | zero => exact absurd HA.out (by simp [spec_l4Gaps.l0])
  | succ k1 =>
   have H := HA.out
   clear HA
   simp only [spec_l4Gaps.l0] at H
   replace H := gi H; obtain ⟨c8b0, H⟩ | ⟨c8b0, H⟩ := H
   ·replace H := gd H; obtain ⟨c9b0, H⟩ := H
    replace H := gd H; obtain ⟨c10b0, H⟩ := H
    obtain ⟨bq11, hbq11⟩ : ∃ b_ : Bool, b_ = (rdOf false t612 x5_1) := ⟨_, rfl⟩
    replace H : (if bq11 = true then (spec_l4Gaps.l0 k1 x3_1 t612 (wrap64 (x5_1 + 1))) else (if x3_1.length < 17592186044416 then (spec_l4Gaps.l0 k1 (x3_1 ++ [x5_1]) t612 (wrap64 (x5_1 + 1))) else (none))) = some r := by rw [← hbq11] at H; exact H
    have Nbq11 := am hbq11
    clear hbq11
    replace H := gb H; obtain ⟨rfl, H⟩ | ⟨rfl, H⟩ := H
    ·have H' := am H
     clear H
     obtain ⟨Ao13, co13, eo13⟩ := Kd.R_slice HO_4.out
     subst eo13
     obtain ⟨⟨ad615, e615, hx615_0⟩, p615, q615⟩ := pq (Kd.at_bool (Kd.R_reads' HO_4.out).2.2 x5_1)
     (try rw [← Nbq11.out] at hx615_0)
     cases e615
     go_wp2
     go_roundg k1
     case measure => have := HK1.out; omega
     case rel => exact ⟨(x3_1), (wrap64 (x5_1 + 1)), rr, H', ⟨by have := HK1.out; omega⟩, ⟨ro HO_3.out⟩, ⟨ro HO_4.out⟩, ⟨bo BK608.out⟩, ⟨bw⟩⟩
    by_cases c14 : x3_1.length < 17592186044416
    rotate_left
    ·rw [if_neg c14] at H
     exact absurd H (by simp)
    rw [if_pos c14] at H
    have LMc14 := am c14
    clear c14
    obtain ⟨y616, hy616⟩ : ∃ y_ : List Int, y_ = (x3_1 ++ [x5_1]) := ⟨_, rfl⟩
    replace H : (spec_l4Gaps.l0 k1 y616 t612 (wrap64 (x5_1 + 1))) = some r := by first | (rw [hy616]; with_reducible first | exact H | exact bs H) | (with_reducible first | exact bs H | exact H) | (rw [hy616]; exact H) | exact H
    have Ny616 := am hy616
    clear hy616
    have H' := am H
    clear H
    obtain ⟨Ao15, co15, eo15⟩ := Kd.R_slice HO_4.out
    subst eo15
    obtain ⟨⟨ad615, e615, hx615_0⟩, p615, q615⟩ := pq (Kd.at_bool (Kd.R_reads' HO_4.out).2.2 x5_1)
    (try rw [← Nbq11.out] at hx615_0)
    cases e615
    go_wp2_with (first | ((with_reducible refine gate_builtin (b := .append) (xs := #[.tmp 19, .tmp 21]) rfl ?_); at_builtin; refine Kd.R_append (Kd.int .i64) (w0 := w) w.heap.size rfl (.tmp 19) (.tmp 21) 24 3 (.int .i64 0) 8 rfl Try.underlying24 info3 rfl (by decide) (by omega) u3 x3_1 x5_1 [.int .i64 x5_1] (fun _ => True) (fun _ => False) rfl rfl ?aP (fun _ hk => hk.elim) ?aF ?aO ?aB ?aS ?aL ?_; (case aP => exact rfl); (case aB => exact bw); (case aF => exact (fun _ _ => trivial)); (case aO => exact (ro HO_3.out)); (case aS => exact (below_size bw)); (case aL => have := LMc14.out; omega); intro v617 w16 ho hb hg hat; rw [← Ny616.out] at ho; replace HO_4 := am (Kd.R_over' (ro HO_4.out) (Kd.R_typed (ro HO_3.out)) (by decide) hg); replace BK608 := am (blk_grown (g := gb608) (o := .cells #[.slice A0_0 l0_0.length c0_0] 26 (0, 0)) (bo BK608.out) hg (Kd.R_ne HO_3.out BK608.out (by decide))); replace HB := am (hb); have HO618 := am (ho); clear HO_3 ho hb hg hat))
    go_roundg k1
    case measure => have := HK1.out; omega
    case rel => exact ⟨(y616), (wrap64 (x5_1 + 1)), rr, H', ⟨by have := HK1.out; omega⟩, ⟨ro HO618.out⟩, ⟨ro HO_4.out⟩, ⟨bo BK608.out⟩, ⟨bw⟩⟩
   obtain rfl := Option.some.inj H
   go_wp2
   go_ret
   exact ⟨_, re, ro HO_3.out, bw⟩


/-! ### spec_Gaps: function 126 -/
def spec_Gaps.f (k : Nat) (l0_0 : List Int) : Option (List Int) := (spec_IsSemigroup.f k l0_0).bind fun t620 => (if t620 = true then ((spec_l4Gaps.f k l0_0).bind fun t621 => (some t621)) else (some (([] : List Int))))
set_option maxHeartbeats 8000000 in
set_option maxRecDepth 100000 in
theorem spec_Gaps.calls (k : Nat) (A0_0 : Option Addr) (c0_0 : Nat) (l0_0 : List Int) (r : List Int) (w : World) (hr0_0 : Kd.C (Kd.int .i64) w A0_0 l0_0.length l0_0) (hc0_0 : l0_0.length ≤ c0_0) (h : spec_Gaps.f k l0_0 = some r) :
  Calls Try.prog 126 #[.agg #[.slice A0_0 l0_0.length c0_0]] w fun e w' => ∃ v0_ : Value, e = .returned (v0_) ∧ Kd.R (Kd.int .i64) 3 w' w.heap.size (fun _ => True) v0_ r ∧ Below w.heap.size w w' := by
 have hu26 := Try.underlying26
 have HR0_0 := am hr0_0
 have HC0_0 := am hc0_0
 clear hr0_0 hc0_0
 have HB := am (Below.refl w.heap.size w)
 have H : ((spec_IsSemigroup.f k l0_0).bind fun t620 => (if t620 = true then ((spec_l4Gaps.f k l0_0).bind fun t621 => (some t621)) else (some (([] : List Int))))) = some r := h
 clear h
 replace H := ga H; obtain ⟨t620, A2, H⟩ := H
 replace H := gb H; obtain ⟨rfl, H⟩ | ⟨rfl, H⟩ := H
 ·replace H := ga H; obtain ⟨t621, A4, H⟩ := H
  obtain rfl := Option.some.inj H
  go_enter Try.func126, Try.ntmps126
  go_wp2_with (first | ((with_reducible refine gate_dst (N := 1) rfl ?_); refine bx 1 #[.slice A0_0 l0_0.length c0_0] 26 ?_; intro gb619 hg w5 hbox hb; have BK619 := am (hbox); have GW619 := am (gs hg : w.heap.size ≤ gb619); have GE619 := GW619; replace HB := am (below_step bw hb); clear hb hbox hg; have hcz6_0 := bc BK619 0 (.slice A0_0 l0_0.length c0_0); have hfz6_0 := blk_frozen BK619.out 0) | ((with_reducible refine gate_callee (f := 26) rfl ?_); refine gl (some 4) Try.func26 #[.agg #[.slice A0_0 l0_0.length c0_0]] ?_; (with_reducible refine (spec_IsSemigroup.calls k _ _ l0_0 true _ ?side1 ?side2 A2.out).mono ?_); (case side1 => exact co (Kd.C_below HR0_0.out HB.out)); (case side2 => exact HC0_0.out); rintro e w7 ⟨rfl, hb⟩; refine ⟨_, rfl, ?_⟩; replace BK619 := kb BK619 hb; replace HB := am (below_step bw hb); clear hb; have hcz8_0 := bc BK619 0 (.slice A0_0 l0_0.length c0_0); have hfz8_0 := blk_frozen BK619.out 0) | ((with_reducible refine gate_callee (f := 138) rfl ?_); refine gl (some 8) Try.func138 #[.agg #[.slice A0_0 l0_0.length c0_0]] ?_; (with_reducible refine (spec_l4Gaps.calls k _ _ l0_0 t621 _ ?side1 ?side2 A4.out).mono ?_); (case side1 => exact co (Kd.C_below HR0_0.out HB.out)); (case side2 => exact HC0_0.out); rintro e w9 ⟨v622, rfl, ho0, hb⟩; refine ⟨_, rfl, ?_⟩; have HO623 := am (Kd.R_lower ho0 (below_size bw)); replace BK619 := kb BK619 hb; replace HB := am (below_step bw hb); clear hb ho0))
  go_ret
  exact ⟨_, re, ro HO623.out, bw⟩
 obtain ⟨y624, hy624⟩ : ∃ y_ : List Int, y_ = (([] : List Int)) := ⟨_, rfl⟩
 replace H : (some y624) = some r := by first | (rw [hy624]; with_reducible first | exact H | exact bs H) | (with_reducible first | exact bs H | exact H) | (rw [hy624]; exact H) | exact H
 have Ny624 := am hy624
 clear hy624
 obtain rfl := Option.some.inj H
 go_enter Try.func126, Try.ntmps126
 go_wp2_with (first | ((with_reducible refine gate_dst (N := 1) rfl ?_); refine bx 1 #[.slice A0_0 l0_0.length c0_0] 26 ?_; intro gb619 hg w10 hbox hb; have BK619 := am (hbox); have GW619 := am (gs hg : w.heap.size ≤ gb619); have GE619 := GW619; replace HB := am (below_step bw hb); clear hb hbox hg; have hcz11_0 := bc BK619 0 (.slice A0_0 l0_0.length c0_0); have hfz11_0 := blk_frozen BK619.out 0) | ((with_reducible refine gate_callee (f := 26) rfl ?_); refine gl (some 4) Try.func26 #[.agg #[.slice A0_0 l0_0.length c0_0]] ?_; (with_reducible refine (spec_IsSemigroup.calls k _ _ l0_0 false _ ?side1 ?side2 A2.out).mono ?_); (case side1 => exact co (Kd.C_below HR0_0.out HB.out)); (case side2 => exact HC0_0.out); rintro e w12 ⟨rfl, hb⟩; refine ⟨_, rfl, ?_⟩; replace BK619 := kb BK619 hb; replace HB := am (below_step bw hb); clear hb) | ((with_reducible refine gate_dst (N := 6) rfl ?_); refine Kd.R_lit (Kd.int .i64) _ 3 ?hg (N := 6) ?hd (xs := ([] : List Int)) (inner := []) (ok := fun _ => True) (okp := fun _ => True) ?hr ?hp (fun _ hk => hk) trivial (Below.refl _ _) (Nat.le_refl _) (by simp) ?_; (case hd => rfl); (case hg => rfl); (case hr => first | (go_simp; done) | (go_simp; rfl)); (case hp => exact (Reps.none _ _)); intro v625 w13 ho14 hb hg_ hnew_; clear hg_ hnew_; (first | rw [← Ny624.out] at ho14 | (simp only [Int.reduceToNat] at ho14; rw [← Ny624.out] at ho14)); have HO626 := am (Kd.R_lower ho14 (below_size bw)); replace BK619 := kb BK619 hb; replace HB := am (below_step bw hb); clear hb ho14))
 go_ret
 exact ⟨_, re, ro HO626.out, bw⟩


/-! ### spec_FrobeniusOf: function 84 -/
def spec_FrobeniusOf.f (k : Nat) (l0_0 : List Int) : Option (Int) := (spec_Gaps.f k l0_0).bind fun t628 => (if (t628.length : Int) = 0 then (some (-1)) else (if 0 ≤ (wrap64 ((t628.length : Int) - 1)) then (if (wrap64 ((t628.length : Int) - 1)) < (t628.length : Int) then (some (rd t628 (wrap64 ((t628.length : Int) - 1)))) else (none)) else (none)))
set_option maxHeartbeats 8000000 in
set_option maxRecDepth 100000 in
theorem spec_FrobeniusOf.calls (k : Nat) (A0_0 : Option Addr) (c0_0 : Nat) (l0_0 : List Int) (r : Int) (w : World) (hr0_0 : Kd.C (Kd.int .i64) w A0_0 l0_0.length l0_0) (hc0_0 : l0_0.length ≤ c0_0) (h : spec_FrobeniusOf.f k l0_0 = some r) :
  Calls Try.prog 84 #[.agg #[.slice A0_0 l0_0.length c0_0]] w fun e w' => e = .returned (.int .i64 r) ∧ Below w.heap.size w w' := by
 have hu26 := Try.underlying26
 have HR0_0 := am hr0_0
 have HC0_0 := am hc0_0
 clear hr0_0 hc0_0
 have HB := am (Below.refl w.heap.size w)
 have H : ((spec_Gaps.f k l0_0).bind fun t628 => (if (t628.length : Int) = 0 then (some (-1)) else (if 0 ≤ (wrap64 ((t628.length : Int) - 1)) then (if (wrap64 ((t628.length : Int) - 1)) < (t628.length : Int) then (some (rd t628 (wrap64 ((t628.length : Int) - 1)))) else (none)) else (none)))) = some r := h
 clear h
 replace H := ga H; obtain ⟨t628, A2, H⟩ := H
 by_cases c3 : (t628.length : Int) = 0
 ·rw [if_pos c3] at H
  have c3b0 : ((t628.length : Int) == 0) = true := beq_iff_eq.mpr c3
  have c3b1 : ((t628.length : Int) != 0) = false := bne_eq_false_iff_eq.mpr c3
  clear c3
  obtain rfl := Option.some.inj H
  go_enter Try.func84, Try.ntmps84
  go_wp2_with (first | ((with_reducible refine gate_dst (N := 1) rfl ?_); refine bx 1 #[.slice A0_0 l0_0.length c0_0] 26 ?_; intro gb627 hg w4 hbox hb; have BK627 := am (hbox); have GW627 := am (gs hg : w.heap.size ≤ gb627); have GE627 := GW627; replace HB := am (below_step bw hb); clear hb hbox hg; have hcz5_0 := bc BK627 0 (.slice A0_0 l0_0.length c0_0); have hfz5_0 := blk_frozen BK627.out 0) | ((with_reducible refine gate_callee (f := 126) rfl ?_); refine gl (some 5) Try.func126 #[.agg #[.slice A0_0 l0_0.length c0_0]] ?_; (with_reducible refine (spec_Gaps.calls k _ _ l0_0 t628 _ ?side1 ?side2 A2.out).mono ?_); (case side1 => exact co (Kd.C_below HR0_0.out HB.out)); (case side2 => exact HC0_0.out); rintro e w6 ⟨v629, rfl, ho0, hb⟩; refine ⟨_, rfl, ?_⟩; have HO630 := am (Kd.R_lower ho0 (below_size bw)); replace BK627 := kb BK627 hb; replace HB := am (below_step bw hb); clear hb ho0; obtain ⟨Ao7, co7, eo7⟩ := Kd.R_slice HO630.out; subst eo7))
  go_ret
  exact ⟨re, bw⟩
 rw [if_neg c3] at H
 have c3b0 : ((t628.length : Int) == 0) = false := beq_eq_false_iff_ne.mpr c3
 have c3b1 : ((t628.length : Int) != 0) = true := bne_iff_ne.mpr c3
 have c3b2 : ¬ (t628 = []) := fun h_ => c3 (by rw [h_]; rfl)
 obtain ⟨ji8, hji8⟩ : ∃ j_ : Int, (wrap64 ((t628.length : Int) - 1)) = j_ := ⟨_, rfl⟩
 replace H : (if 0 ≤ (ji8) then (if (ji8) < (t628.length : Int) then (some (rd t628 (ji8))) else (none)) else (none)) = some r := by first | (rw [hji8] at H; exact H) | (simp only [hji8] at H ⊢; exact H)
 (try rw [hji8] at A2)
 have hji8w : (IntKind.i64.wrap ((t628.length : Int) - 1)) = ji8 := (i64_w _).trans hji8
 replace H := gd H; obtain ⟨c9b0, H⟩ := H
 replace H := gd H; obtain ⟨c10b0, H⟩ := H
 obtain rfl := Option.some.inj H
 go_enter Try.func84, Try.ntmps84
 go_wp2_with (first | ((with_reducible refine gate_dst (N := 1) rfl ?_); refine bx 1 #[.slice A0_0 l0_0.length c0_0] 26 ?_; intro gb627 hg w11 hbox hb; have BK627 := am (hbox); have GW627 := am (gs hg : w.heap.size ≤ gb627); have GE627 := GW627; replace HB := am (below_step bw hb); clear hb hbox hg; have hcz12_0 := bc BK627 0 (.slice A0_0 l0_0.length c0_0); have hfz12_0 := blk_frozen BK627.out 0) | ((with_reducible refine gate_callee (f := 126) rfl ?_); refine gl (some 5) Try.func126 #[.agg #[.slice A0_0 l0_0.length c0_0]] ?_; (with_reducible refine (spec_Gaps.calls k _ _ l0_0 t628 _ ?side1 ?side2 A2.out).mono ?_); (case side1 => exact co (Kd.C_below HR0_0.out HB.out)); (case side2 => exact HC0_0.out); rintro e w13 ⟨v629, rfl, ho0, hb⟩; refine ⟨_, rfl, ?_⟩; have HO630 := am (Kd.R_lower ho0 (below_size bw)); replace BK627 := kb BK627 hb; replace HB := am (below_step bw hb); clear hb ho0; obtain ⟨Ao14, co14, eo14⟩ := Kd.R_slice HO630.out; subst eo14; have p631 : 0 ≤ ((ji8) : Int) := of_decide_eq_true (by first | (with_reducible assumption) | assumption); have q631 : (ji8) < (t628.length : Int) := of_decide_eq_true (by first | (with_reducible assumption) | assumption); obtain ⟨ad631, e631, hx631_0⟩ := Kd.at_int (Kd.R_reads' HO630.out).2.2 (ji8) p631 q631; cases e631; replace p631 := eq_true p631; replace q631 := eq_true q631))
 go_ret
 exact ⟨by first | rfl | (simp [errW_none, errW_some] <;> rfl) | (simp only [← hji8]; first | rfl | (simp [errW_none, errW_some] <;> rfl)) | (simp [*, errW_none, errW_some] <;> rfl), bw⟩


/-! ### spec_ConductorOf: function 77 -/
def spec_ConductorOf.f (k : Nat) (l0_0 : List Int) : Option (Int) := (spec_FrobeniusOf.f k l0_0).bind fun t633 => (some (wrap64 (t633 + 1)))
set_option maxHeartbeats 8000000 in
set_option maxRecDepth 100000 in
theorem spec_ConductorOf.calls (k : Nat) (A0_0 : Option Addr) (c0_0 : Nat) (l0_0 : List Int) (r : Int) (w : World) (hr0_0 : Kd.C (Kd.int .i64) w A0_0 l0_0.length l0_0) (hc0_0 : l0_0.length ≤ c0_0) (h : spec_ConductorOf.f k l0_0 = some r) :
  Calls Try.prog 77 #[.agg #[.slice A0_0 l0_0.length c0_0]] w fun e w' => e = .returned (.int .i64 r) ∧ Below w.heap.size w w' := by
 have hu26 := Try.underlying26
 have HR0_0 := am hr0_0
 have HC0_0 := am hc0_0
 clear hr0_0 hc0_0
 have HB := am (Below.refl w.heap.size w)
 have H : ((spec_FrobeniusOf.f k l0_0).bind fun t633 => (some (wrap64 (t633 + 1)))) = some r := h
 clear h
 replace H := ga H; obtain ⟨t633, A2, H⟩ := H
 obtain rfl := Option.some.inj H
 go_enter Try.func77, Try.ntmps77
 go_wp2_with (first | ((with_reducible refine gate_dst (N := 1) rfl ?_); refine bx 1 #[.slice A0_0 l0_0.length c0_0] 26 ?_; intro gb632 hg w3 hbox hb; have BK632 := am (hbox); have GW632 := am (gs hg : w.heap.size ≤ gb632); have GE632 := GW632; replace HB := am (below_step bw hb); clear hb hbox hg; have hcz4_0 := bc BK632 0 (.slice A0_0 l0_0.length c0_0); have hfz4_0 := blk_frozen BK632.out 0) | ((with_reducible refine gate_callee (f := 84) rfl ?_); refine gl (some 4) Try.func84 #[.agg #[.slice A0_0 l0_0.length c0_0]] ?_; (with_reducible refine (spec_FrobeniusOf.calls k _ _ l0_0 t633 _ ?side1 ?side2 A2.out).mono ?_); (case side1 => exact co (Kd.C_below HR0_0.out HB.out)); (case side2 => exact HC0_0.out); rintro e w5 ⟨rfl, hb⟩; refine ⟨_, rfl, ?_⟩; replace BK632 := kb BK632 hb; replace HB := am (below_step bw hb); clear hb))
 go_ret
 exact ⟨re, bw⟩


/-! ### spec_l1Bit: function 78 -/
def spec_l1Bit.f (a0 : Bool) : Option (Int) := if a0 = true then (some 1) else (some 0)
set_option maxHeartbeats 8000000 in
set_option maxRecDepth 100000 in
theorem spec_l1Bit.calls (a0 : Bool) (r : Int) (w : World) (h : spec_l1Bit.f a0 = some r) :
  Calls Try.prog 78 #[.bool a0] w fun e w' => e = .returned (.int .i64 r) ∧ Drawn0 w w' := by
 have H : (if a0 = true then (some 1) else (some 0)) = some r := h
 clear h
 replace H := gb H; obtain ⟨rfl, H⟩ | ⟨rfl, H⟩ := H
 ·obtain rfl := Option.some.inj H
  go_enter Try.func78, Try.ntmps78
  go_wp2
  go_ret
  exact ⟨rr, dw⟩
 obtain rfl := Option.some.inj H
 go_enter Try.func78, Try.ntmps78
 go_wp2
 go_ret
 exact ⟨rr, dw⟩


/-! ### spec_l3Has: function 91 -/
def spec_l3Has.f (k : Nat) (l0_0 : List Int) (a1 : Int) : Option (Bool) := if a1 < 0 then (some (decide (a1 > 0))) else (if a1 ≥ 200 then (some (decide (a1 > 0))) else ((spec_l3Table.f k l0_0 a1).bind fun t635 => (if 0 ≤ a1 then (if a1 < (t635.length : Int) then (some (rdOf false t635 a1)) else (none)) else (none))))
set_option maxHeartbeats 8000000 in
set_option maxRecDepth 100000 in
theorem spec_l3Has.calls (k : Nat) (A0_0 : Option Addr) (c0_0 : Nat) (l0_0 : List Int) (a1 : Int) (r : Bool) (w : World) (hr0_0 : Kd.C (Kd.int .i64) w A0_0 l0_0.length l0_0) (hc0_0 : l0_0.length ≤ c0_0) (h : spec_l3Has.f k l0_0 a1 = some r) :
  Calls Try.prog 91 #[.agg #[.slice A0_0 l0_0.length c0_0], .int .i64 a1] w fun e w' => e = .returned (.bool r) ∧ Below w.heap.size w w' := by
 have hu26 := Try.underlying26
 have HR0_0 := am hr0_0
 have HC0_0 := am hc0_0
 clear hr0_0 hc0_0
 have HB := am (Below.refl w.heap.size w)
 have H : (if a1 < 0 then (some (decide (a1 > 0))) else (if a1 ≥ 200 then (some (decide (a1 > 0))) else ((spec_l3Table.f k l0_0 a1).bind fun t635 => (if 0 ≤ a1 then (if a1 < (t635.length : Int) then (some (rdOf false t635 a1)) else (none)) else (none))))) = some r := h
 clear h
 replace H := gi H; obtain ⟨c3b0, H⟩ | ⟨c3b0, H⟩ := H
 ·obtain rfl := Option.some.inj H
  go_enter Try.func91, Try.ntmps91
  go_wp2_with (first | ((with_reducible refine gate_dst (N := 2) rfl ?_); refine bx 2 #[.slice A0_0 l0_0.length c0_0] 26 ?_; intro gb634 hg w4 hbox hb; have BK634 := am (hbox); have GW634 := am (gs hg : w.heap.size ≤ gb634); have GE634 := GW634; replace HB := am (below_step bw hb); clear hb hbox hg))
  go_ret
  exact ⟨re, bw⟩
 replace H := gj H; obtain ⟨c5, H⟩ | ⟨c5, H⟩ := H
 ·have c5b0 : decide (200 ≤ a1) = true := decide_eq_true c5
  clear c5
  obtain rfl := Option.some.inj H
  go_enter Try.func91, Try.ntmps91
  go_wp2_with (first | ((with_reducible refine gate_dst (N := 2) rfl ?_); refine bx 2 #[.slice A0_0 l0_0.length c0_0] 26 ?_; intro gb634 hg w6 hbox hb; have BK634 := am (hbox); have GW634 := am (gs hg : w.heap.size ≤ gb634); have GE634 := GW634; replace HB := am (below_step bw hb); clear hb hbox hg))
  go_ret
  exact ⟨re, bw⟩
 have c5b0 : decide (200 ≤ a1) = false := decide_eq_false c5
 clear c5
 replace H := ga H; obtain ⟨t635, A7, H⟩ := H
 replace H := gd H; obtain ⟨c8b0, H⟩ := H
 replace H := gd H; obtain ⟨c9b0, H⟩ := H
 obtain rfl := Option.some.inj H
 go_enter Try.func91, Try.ntmps91
 go_wp2_with (first | ((with_reducible refine gate_dst (N := 2) rfl ?_); refine bx 2 #[.slice A0_0 l0_0.length c0_0] 26 ?_; intro gb634 hg w10 hbox hb; have BK634 := am (hbox); have GW634 := am (gs hg : w.heap.size ≤ gb634); have GE634 := GW634; replace HB := am (below_step bw hb); clear hb hbox hg; have hcz11_0 := bc BK634 0 (.slice A0_0 l0_0.length c0_0); have hfz11_0 := blk_frozen BK634.out 0) | ((with_reducible refine gate_callee (f := 128) rfl ?_); refine gl (some 16) Try.func128 #[.slice A0_0 l0_0.length c0_0, .int .i64 a1] ?_; (with_reducible refine (spec_l3Table.calls k _ _ l0_0 a1 t635 _ ?side1 ?side2 A7.out).mono ?_); (case side1 => exact co (Kd.C_below HR0_0.out HB.out)); (case side2 => exact HC0_0.out); rintro e w12 ⟨v636, rfl, ho0, hb⟩; refine ⟨_, rfl, ?_⟩; have HO637 := am (Kd.R_lower ho0 (below_size bw)); replace BK634 := kb BK634 hb; replace HB := am (below_step bw hb); clear hb ho0; obtain ⟨Ao13, co13, eo13⟩ := Kd.R_slice HO637.out; subst eo13; have p638 : 0 ≤ (a1 : Int) := of_decide_eq_true (by first | (with_reducible assumption) | assumption); have q638 : a1 < (t635.length : Int) := of_decide_eq_true (by first | (with_reducible assumption) | assumption); obtain ⟨ad638, e638, hx638_0⟩ := Kd.at_bool (Kd.R_reads' HO637.out).2.2 a1 p638 q638; cases e638; replace p638 := eq_true p638; replace q638 := eq_true q638))
 go_ret
 exact ⟨re, bw⟩


/-! ### spec_l15Has: function 79 -/
def spec_l15Has.f (k : Nat) (l0_0 : List Int) (a1 : Int) : Option (Bool) := if a1 = 0 then (some true) else ((spec_l3Has.f k l0_0 a1).bind fun t640 => (some t640))
set_option maxHeartbeats 8000000 in
set_option maxRecDepth 100000 in
theorem spec_l15Has.calls (k : Nat) (A0_0 : Option Addr) (c0_0 : Nat) (l0_0 : List Int) (a1 : Int) (r : Bool) (w : World) (hr0_0 : Kd.C (Kd.int .i64) w A0_0 l0_0.length l0_0) (hc0_0 : l0_0.length ≤ c0_0) (h : spec_l15Has.f k l0_0 a1 = some r) :
  Calls Try.prog 79 #[.agg #[.slice A0_0 l0_0.length c0_0], .int .i64 a1] w fun e w' => e = .returned (.bool r) ∧ Below w.heap.size w w' := by
 have hu26 := Try.underlying26
 have HR0_0 := am hr0_0
 have HC0_0 := am hc0_0
 clear hr0_0 hc0_0
 have HB := am (Below.refl w.heap.size w)
 have H : (if a1 = 0 then (some true) else ((spec_l3Has.f k l0_0 a1).bind fun t640 => (some t640))) = some r := h
 clear h
 by_cases c3 : a1 = 0
 ·rw [if_pos c3] at H
  have c3b0 : (a1 == 0) = true := beq_iff_eq.mpr c3
  have c3b1 : (a1 != 0) = false := bne_eq_false_iff_eq.mpr c3
  clear c3
  obtain rfl := Option.some.inj H
  go_enter Try.func79, Try.ntmps79
  go_wp2_with (first | ((with_reducible refine gate_dst (N := 2) rfl ?_); refine bx 2 #[.slice A0_0 l0_0.length c0_0] 26 ?_; intro gb639 hg w4 hbox hb; have BK639 := am (hbox); have GW639 := am (gs hg : w.heap.size ≤ gb639); have GE639 := GW639; replace HB := am (below_step bw hb); clear hb hbox hg))
  go_ret
  exact ⟨re, bw⟩
 rw [if_neg c3] at H
 have c3b0 : (a1 == 0) = false := beq_eq_false_iff_ne.mpr c3
 have c3b1 : (a1 != 0) = true := bne_iff_ne.mpr c3
 replace H := ga H; obtain ⟨t640, A5, H⟩ := H
 obtain rfl := Option.some.inj H
 go_enter Try.func79, Try.ntmps79
 go_wp2_with (first | ((with_reducible refine gate_dst (N := 2) rfl ?_); refine bx 2 #[.slice A0_0 l0_0.length c0_0] 26 ?_; intro gb639 hg w6 hbox hb; have BK639 := am (hbox); have GW639 := am (gs hg : w.heap.size ≤ gb639); have GE639 := GW639; replace HB := am (below_step bw hb); clear hb hbox hg; have hcz7_0 := bc BK639 0 (.slice A0_0 l0_0.length c0_0); have hfz7_0 := blk_frozen BK639.out 0) | (go_at_call 91; (with_reducible refine (spec_l3Has.calls k _ _ l0_0 a1 t640 _ ?side1 ?side2 A5.out).mono ?_); (case side1 => exact co (Kd.C_below HR0_0.out HB.out)); (case side2 => exact HC0_0.out); rintro e w8 ⟨rfl, hb⟩; replace BK639 := kb BK639 hb; replace HB := am (below_step bw hb); clear hb))
 go_ret
 exact ⟨re, bw⟩


/-! ### spec_NumeratorOf: function 16 -/
def spec_NumeratorOf.l0 : Nat → List Int → Int → List Int → Option (List Int)
 | 0, _, _, _ => none
 | k + 1, x3, x4, x642000 => (spec_ConductorOf.f k x642000).bind fun t646 => (if x4 ≤ t646 then ((spec_l15Has.f k x642000 x4).bind fun t647 => ((spec_l1Bit.f t647).bind fun t648 => ((spec_l15Has.f k x642000 (wrap64 (x4 - 1))).bind fun t649 => ((spec_l1Bit.f t649).bind fun t650 => (if x3.length < 17592186044416 then (spec_NumeratorOf.l0 k (x3 ++ [wrap64 (t648 - t650)]) (wrap64 (x4 + 1)) x642000) else (none)))))) else (some x3))
def spec_NumeratorOf.f (k : Nat) (l0_0 : List Int) : Option (List Int) := (some (([] : List Int) : List Int)).bind fun y642 => ((spec_IsSemigroup.f k l0_0).bind fun t645 => (if t645 = true then (spec_NumeratorOf.l0 k y642 0 l0_0) else (some y642)))
def spec_NumeratorOf.T7 : Bool × List (List Nat × List Nat) := (true, [([], []), ([], []), ([], []), ([1, 2], [1, 2]), ([3, 3], [3]), ([], []), ([], []), ([6], [6]), ([5, 7, 4], [5, 7]), ([8, 8], [8]), ([4, 9], [4, 9]), ([10], [10]), ([0, 11, 9], [0, 11]), ([12, 12, 0, 1, 2, 3, 4, 5, 6, 7, 8, 9, 10, 11, 12], [0, 12])])
def spec_NumeratorOf.B7 : List Nat := [0, 0, 0, 6, 14, 0, 0, 64, 254, 510, 1022, 2046, 4095, 8191]
theorem spec_NumeratorOf.tab7 : rtab .any (opsOf Try.f16 7) = spec_NumeratorOf.T7 := by kernel_rfl
theorem spec_NumeratorOf.bits7 : waitsOk spec_NumeratorOf.T7.2 spec_NumeratorOf.B7 = true := by kernel_rfl
set_option maxHeartbeats 8000000 in
set_option maxRecDepth 100000 in
theorem spec_NumeratorOf.calls (k : Nat) (A0_0 : Option Addr) (c0_0 : Nat) (l0_0 : List Int) (r : List Int) (w : World) (hr0_0 : Kd.C (Kd.int .i64) w A0_0 l0_0.length l0_0) (hc0_0 : l0_0.length ≤ c0_0) (h : spec_NumeratorOf.f k l0_0 = some r) :
  Calls Try.prog 16 #[.agg #[.slice A0_0 l0_0.length c0_0]] w fun e w' => ∃ v0_ : Value, e = .returned (v0_) ∧ Kd.R (Kd.int .i64) 3 w' w.heap.size (fun _ => True) v0_ r ∧ Below w.heap.size w w' := by
 have hu26 := Try.underlying26
 have HR0_0 := am hr0_0
 have HC0_0 := am hc0_0
 clear hr0_0 hc0_0
 have HB := am (Below.refl w.heap.size w)
 have H : ((some (([] : List Int) : List Int)).bind fun y642 => ((spec_IsSemigroup.f k l0_0).bind fun t645 => (if t645 = true then (spec_NumeratorOf.l0 k y642 0 l0_0) else (some y642)))) = some r := h
 clear h
 obtain ⟨y642, hy642⟩ : ∃ y_ : List Int, y_ = (([] : List Int)) := ⟨_, rfl⟩
 replace H : ((spec_IsSemigroup.f k l0_0).bind fun t645 => (if t645 = true then (spec_NumeratorOf.l0 k y642 0 l0_0) else (some y642))) = some r := by first | (rw [hy642]; with_reducible first | exact H | exact bs H) | (with_reducible first | exact bs H | exact H) | (rw [hy642]; exact H) | exact H
 have Ny642 := am hy642
 clear hy642
 replace H := ga H; obtain ⟨t645, A2, H⟩ := H
 replace H := gb H; obtain ⟨rfl, H⟩ | ⟨rfl, H⟩ := H
 ·have H' := am H
  clear H
  go_enter Try.func16, Try.ntmps16
  go_wp2_with (first | ((with_reducible refine gate_dst (N := 1) rfl ?_); refine bx 1 #[.slice A0_0 l0_0.length c0_0] 26 ?_; intro gb641 hg w4 hbox hb; have BK641 := am (hbox); have GW641 := am (gs hg : w.heap.size ≤ gb641); have GE641 := GW641; replace HB := am (below_step bw hb); clear hb hbox hg) | ((with_reducible refine gate_dst (N := 5) rfl ?_); refine Kd.R_lit (Kd.int .i64) _ 3 ?hg (N := 5) ?hd (xs := ([] : List Int)) (inner := []) (ok := fun _ => True) (okp := fun _ => True) ?hr ?hp (fun _ hk => hk) trivial (Below.refl _ _) (Nat.le_refl _) (by simp) ?_; (case hd => rfl); (case hg => rfl); (case hr => first | (go_simp; done) | (go_simp; rfl)); (case hp => exact (Reps.none _ _)); intro v643 w5 ho6 hb hg_ hnew_; clear hg_ hnew_; (first | rw [← Ny642.out] at ho6 | (simp only [Int.reduceToNat] at ho6; rw [← Ny642.out] at ho6)); have HO644 := am (Kd.R_lower ho6 (below_size bw)); replace BK641 := kb BK641 hb; replace HB := am (below_step bw hb); clear hb ho6; have hcz7_0 := bc BK641 0 (.slice A0_0 l0_0.length c0_0); have hfz7_0 := blk_frozen BK641.out 0) | ((with_reducible refine gate_callee (f := 26) rfl ?_); refine gl (some 7) Try.func26 #[.agg #[.slice A0_0 l0_0.length c0_0]] ?_; (with_reducible refine (spec_IsSemigroup.calls k _ _ l0_0 true _ ?side1 ?side2 A2.out).mono ?_); (case side1 => exact co (Kd.C_below HR0_0.out HB.out)); (case side2 => exact HC0_0.out); rintro e w8 ⟨rfl, hb⟩; refine ⟨_, rfl, ?_⟩; replace HO644 := rK HO644 hb; replace BK641 := kb BK641 hb; replace HB := am (below_step bw hb); clear hb))
  go_loopg [3, 4] k (fun kq v3 v4 w' => ∃ (x3_1 : List Int) (x4_1 : Int), v4 = .int .i64 x4_1 ∧ Aside0 (spec_NumeratorOf.l0 kq x3_1 x4_1 l0_0 = some r) ∧ Aside0 (kq ≤ k) ∧ Aside0 (Kd.R (Kd.int .i64) 3 w' w.heap.size (fun _ => True) v3 x3_1) ∧ Aside0 (w'.heap[gb641]? = some (.cells #[(.slice A0_0 l0_0.length c0_0)] 26 (0, 0))) ∧ Aside0 (Below w.heap.size w w'))
  case atStart => exact ⟨(y642), (0), rr, H', ⟨Nat.le_refl _⟩, ⟨ro HO644.out⟩, ⟨bo BK641.out⟩, ⟨bw⟩⟩
  case round =>
   clear H'
   try clear hcz7_0; try clear hfz7_0
   obtain ⟨x3_1, x4_1, rfl, HA, HK1, HO_3, BK641, HB⟩ := hrel
   cases gk with
   | zero => exact absurd HA.out (by simp [spec_NumeratorOf.l0])
   | succ k1 =>
    have H := HA.out
    clear HA
    simp only [spec_NumeratorOf.l0] at H
    replace H := ga H; obtain ⟨t646, A9, H⟩ := H
    replace H := gi H; obtain ⟨c10b0, H⟩ | ⟨c10b0, H⟩ := H
    ·replace H := ga H; obtain ⟨t647, A11, H⟩ := H
     replace H := ga H; obtain ⟨t648, A12, H⟩ := H
     replace H := ga H; obtain ⟨t649, A13, H⟩ := H
     replace H := ga H; obtain ⟨t650, A14, H⟩ := H
     by_cases c15 : x3_1.length < 17592186044416
     rotate_left
     ·rw [if_neg c15] at H
      exact absurd H (by simp)
     rw [if_pos c15] at H
     have LMc15 := am c15
     clear c15
     obtain ⟨y651, hy651⟩ : ∃ y_ : List Int, y_ = (x3_1 ++ [wrap64 (t648 - t650)]) := ⟨_, rfl⟩
     replace H : (spec_NumeratorOf.l0 k1 y651 (wrap64 (x4_1 + 1)) l0_0) = some r := by first | (rw [hy651]; with_reducible first | exact H | exact bs H) | (with_reducible first | exact bs H | exact H) | (rw [hy651]; exact H) | exact H
     have Ny651 := am hy651
     clear hy651
     have H' := am H
     clear H
     have hcz16_0 := bc BK641 0 (.slice A0_0 l0_0.length c0_0)
     have hfz16_0 := blk_frozen BK641.out 0
     try go_wp2_with (first | ((with_reducible refine gate_callee (f := 77) rfl ?_); refine gl (some 12) Try.func77 #[.agg #[.slice A0_0 l0_0.length c0_0]] ?_; (with_reducible refine (spec_ConductorOf.calls k1 _ _ l0_0 t646 _ ?side1 ?side2 A9.out).mono ?_); (case side1 => exact co (Kd.C_below HR0_0.out HB.out)); (case side2 => exact HC0_0.out); rintro e w17 ⟨rfl, hb⟩; refine ⟨_, rfl, ?_⟩; replace HO_3 := rK HO_3 hb; replace BK641 := kb BK641 hb; replace HB := am (below_step bw hb); clear hb))
     replace HO_3 := am (Kd.R_drew HO_3.out)
     replace BK641 := bd BK641
     replace HB := am (below_drew1 HB.out)
     refine start_ (n := 14) (S := fun w' => w'.cell? ⟨gb641, 0, none⟩ = some (.slice A0_0 l0_0.length c0_0)) (ds := []) (yz 14 0) (by kernel_rfl) rfl rfl (bc BK641 0 _) (fun hHeld => ?_); refine with_tabW spec_NumeratorOf.tab7 spec_NumeratorOf.bits7 (fun HT_ HW_ => ?_)
     generalize w17.drew = w18 at HO_3 BK641 HB hHeld ⊢
     refine pa 0 (some 16) (yz 14 1) HT_ ?_
     refine pa 2 (some 18) (yz 14 5) HT_ ?_
     refine pa 6 (some 22) (yz 14 69) HT_ ?_
     refine pa 7 (some 23) (yz 14 197) HT_ ?_
     refine tK 1 (some 17) (yz 14 199) HT_ HW_ hHeld ?_
     refine tK 5 (some 21) (yz 14 231) HT_ HW_ hHeld ?_
     refine oa 3 (some 19) (yz 14 239) HT_ (fun K hK => ?_)
     refine gm Try.func79 #[.agg #[.slice A0_0 l0_0.length c0_0], .int .i64 x4_1] ?_
     with_reducible refine (spec_l15Has.calls k1 _ _ l0_0 x4_1 t647 _ ?side1 ?side2 A11.out).mono ?_
     (case side1 => exact co (Kd.C_below HR0_0.out HB.out))
     (case side2 => exact HC0_0.out)
     rintro e w19 ⟨rfl, hb⟩
     refine ⟨_, rfl, ?_⟩
     replace HO_3 := rK HO_3 hb
     replace BK641 := kb BK641 hb
     replace HB := am (below_step bw hb)
     clear hb
     refine hK.out _ _ (bc BK641 0 _) (fun hHeld => ?_)
     clear hK K
     refine nm (some 19) ?_
     refine oa 4 (some 20) (yz 14 255) HT_ (fun K hK => ?_)
     refine gm Try.func78 #[.bool t647] ?_
     with_reducible refine (spec_l1Bit.calls t647 t648 _ A12.out).mono ?_
     rintro e w' ⟨rfl, ⟨nd, rfl⟩⟩
     refine ⟨_, rfl, ?_⟩
     refine hK.out _ _ (bc BK641 0 _) (fun hHeld => ?_)
     clear hK K
     refine nm (some 20) ?_
     refine oa 8 (some 24) (yz 14 511) HT_ (fun K hK => ?_)
     refine gm Try.func79 #[.agg #[.slice A0_0 l0_0.length c0_0], .int .i64 (wrap64 (x4_1 - 1))] ?_
     with_reducible refine (spec_l15Has.calls k1 _ _ l0_0 (wrap64 (x4_1 - 1)) t649 _ ?side1 ?side2 A13.out).mono ?_
     (case side1 => exact co (Kd.C_below HR0_0.out bw))
     (case side2 => exact HC0_0.out)
     rintro e w20 ⟨rfl, hb⟩
     refine ⟨_, rfl, ?_⟩
     replace HO_3 := rK HO_3 hb
     replace BK641 := kb BK641 hb
     replace HB := am (below_step bw hb)
     clear hb
     refine hK.out _ _ (bc BK641 0 _) (fun hHeld => ?_)
     clear hK K
     refine nm (some 24) ?_
     refine oa 9 (some 25) (yz 14 1023) HT_ (fun K hK => ?_)
     refine gm Try.func78 #[.bool t649] ?_
     with_reducible refine (spec_l1Bit.calls t649 t650 _ A14.out).mono ?_
     rintro e w' ⟨rfl, ⟨nd, rfl⟩⟩
     refine ⟨_, rfl, ?_⟩
     refine hK.out _ _ (bc BK641 0 _) (fun hHeld => ?_)
     clear hK K
     refine nm (some 25) ?_
     refine pa 10 (some 26) (yz 14 2047) HT_ ?_
     refine oa 11 (some 27) (yz 14 4095) HT_ (fun K hK => ?_)
     refine value_ (w1 := ?_) (v := ?_) (by rfl) rfl ?_ ?_
     rotate_left 2
     ·go_simp
      constructor
      ·rfl
      rfl
     refine hK.out _ _ ((blk_cell (blk_alloc BK641.out _) 0).trans rfl) (fun hHeld => ?_)
     clear hK K
     refine nm (some 27) ?_
     refine oa 12 (some 28) (yz 14 8191) HT_ (fun K hK => ?_)
     refine Kd.R_append_step (Kd.int .i64) (w0 := w) w.heap.size (by rfl) (.tmp 16) (.tmp 27) 24 3 (.int .i64 0) 8 rfl Try.underlying24 info3 rfl (by decide) (by omega) u3 x3_1 (wrap64 (t648 - t650)) [.int .i64 (wrap64 (t648 - t650))] (fun _ => True) (fun _ => False) rfl rfl ?aP (fun _ hk => hk.elim) ?aF ?aO ?aB ?aS ?aL ?_
     (case aP => exact rfl)
     (case aB => exact bw)
     (case aF => exact (fun _ _ => trivial))
     (case aO => exact (ro HO_3.out))
     (case aS => exact (below_size bw))
     (case aL => have := LMc15.out; omega)
     intro v652 w21 ho hb hg hat
     rw [← Ny651.out] at ho
     replace BK641 := am (blk_grown (g := gb641) (o := .cells #[.slice A0_0 l0_0.length c0_0] 26 (0, 0)) (bo BK641.out) hg (Kd.R_ne HO_3.out BK641.out (by decide)))
     replace HB := am (hb)
     have HO653 := am (ho)
     clear HO_3 ho hb hg hat
     refine hK.out _ _ (bc BK641 0 _) (fun hHeld => ?_)
     clear hK K
     refine nm (some 28) ?_
     refine pa 13 (some 3) (yz 14 16383) HT_ ?_
     refine done_ (done_of HT_.out (by kernel_rfl)) ?_
     try go_wp2
     go_roundg k1
     case measure => have := HK1.out; omega
     case rel => exact ⟨(y651), (wrap64 (x4_1 + 1)), rr, H', ⟨by have := HK1.out; omega⟩, ⟨ro HO653.out⟩, ⟨bo BK641.out⟩, ⟨bw⟩⟩
    obtain rfl := Option.some.inj H
    have hcz22_0 := bc BK641 0 (.slice A0_0 l0_0.length c0_0)
    have hfz22_0 := blk_frozen BK641.out 0
    go_wp2_with (first | ((with_reducible refine gate_callee (f := 77) rfl ?_); refine gl (some 12) Try.func77 #[.agg #[.slice A0_0 l0_0.length c0_0]] ?_; (with_reducible refine (spec_ConductorOf.calls k1 _ _ l0_0 t646 _ ?side1 ?side2 A9.out).mono ?_); (case side1 => exact co (Kd.C_below HR0_0.out HB.out)); (case side2 => exact HC0_0.out); rintro e w23 ⟨rfl, hb⟩; refine ⟨_, rfl, ?_⟩; replace HO_3 := rK HO_3 hb; replace BK641 := kb BK641 hb; replace HB := am (below_step bw hb); clear hb))
    go_ret
    exact ⟨_, re, ro HO_3.out, bw⟩
 obtain rfl := Option.some.inj H
 go_enter Try.func16, Try.ntmps16
 go_wp2_with (first | ((with_reducible refine gate_dst (N := 1) rfl ?_); refine bx 1 #[.slice A0_0 l0_0.length c0_0] 26 ?_; intro gb641 hg w24 hbox hb; have BK641 := am (hbox); have GW641 := am (gs hg : w.heap.size ≤ gb641); have GE641 := GW641; replace HB := am (below_step bw hb); clear hb hbox hg) | ((with_reducible refine gate_dst (N := 5) rfl ?_); refine Kd.R_lit (Kd.int .i64) _ 3 ?hg (N := 5) ?hd (xs := ([] : List Int)) (inner := []) (ok := fun _ => True) (okp := fun _ => True) ?hr ?hp (fun _ hk => hk) trivial (Below.refl _ _) (Nat.le_refl _) (by simp) ?_; (case hd => rfl); (case hg => rfl); (case hr => first | (go_simp; done) | (go_simp; rfl)); (case hp => exact (Reps.none _ _)); intro v643 w25 ho26 hb hg_ hnew_; clear hg_ hnew_; (first | rw [← Ny642.out] at ho26 | (simp only [Int.reduceToNat] at ho26; rw [← Ny642.out] at ho26)); have HO644 := am (Kd.R_lower ho26 (below_size bw)); replace BK641 := kb BK641 hb; replace HB := am (below_step bw hb); clear hb ho26; have hcz27_0 := bc BK641 0 (.slice A0_0 l0_0.length c0_0); have hfz27_0 := blk_frozen BK641.out 0) | ((with_reducible refine gate_callee (f := 26) rfl ?_); refine gl (some 7) Try.func26 #[.agg #[.slice A0_0 l0_0.length c0_0]] ?_; (with_reducible refine (spec_IsSemigroup.calls k _ _ l0_0 false _ ?side1 ?side2 A2.out).mono ?_); (case side1 => exact co (Kd.C_below HR0_0.out HB.out)); (case side2 => exact HC0_0.out); rintro e w28 ⟨rfl, hb⟩; refine ⟨_, rfl, ?_⟩; replace HO644 := rK HO644 hb; replace BK641 := kb BK641 hb; replace HB := am (below_step bw hb); clear hb))
 go_ret
 exact ⟨_, re, ro HO644.out, bw⟩


/-! ### impl_SeriesFrom: function 17 -/
def impl_SeriesFrom.l0 : Nat → List Int → List Int → Int → Int → Int → Option (List Int)
 | 0, _, _, _, _, _ => none
 | k + 1, x0, x5, x6, x12, x13 => if x13 < x12 then (if x13 < (x0.length : Int) then (if 0 ≤ x13 then (if x5.length < 17592186044416 then (impl_SeriesFrom.l0 k x0 (x5 ++ [wrap64 (x6 + (rd x0 x13))]) (wrap64 (x6 + (rd x0 x13))) x12 (wrap64 (x13 + 1))) else (none)) else (none)) else (if x5.length < 17592186044416 then (impl_SeriesFrom.l0 k x0 (x5 ++ [x6]) x6 x12 (wrap64 (x13 + 1))) else (none))) else (some x5)
def impl_SeriesFrom.f (k : Nat) (l0 : List Int) (a1 : Int) : Option (List Int) := (impl_within.f a1 0 1000).bind fun t654 => (if t654 = true then (impl_SeriesFrom.l0 k l0 (([] : List Int)) 0 a1 0) else (some ([] : List Int)))
set_option maxHeartbeats 8000000 in
set_option maxRecDepth 100000 in
theorem impl_SeriesFrom.calls (k : Nat) (A0 : Option Addr) (c0 : Nat) (l0 : List Int) (a1 : Int) (r : List Int) (w : World) (hr0 : Kd.C (Kd.int .i64) w A0 l0.length l0) (hc0 : l0.length ≤ c0) (h : impl_SeriesFrom.f k l0 a1 = some r) :
  Calls Try.prog 17 #[.slice A0 l0.length c0, .int .i64 a1] w fun e w' => ∃ v0_ : Value, e = .returned (v0_) ∧ Kd.R (Kd.int .i64) 3 w' w.heap.size (fun _ => True) v0_ r ∧ Below w.heap.size w w' := by
 have HR0 := am hr0
 have HC0 := am hc0
 clear hr0 hc0
 have HB := am (Below.refl w.heap.size w)
 have H : ((impl_within.f a1 0 1000).bind fun t654 => (if t654 = true then (impl_SeriesFrom.l0 k l0 (([] : List Int)) 0 a1 0) else (some ([] : List Int)))) = some r := h
 clear h
 replace H := ga H; obtain ⟨t654, A3, H⟩ := H
 replace H := gb H; obtain ⟨rfl, H⟩ | ⟨rfl, H⟩ := H
 ·obtain ⟨y655, hy655⟩ : ∃ y_ : List Int, y_ = (([] : List Int)) := ⟨_, rfl⟩
  replace H : (impl_SeriesFrom.l0 k l0 y655 0 a1 0) = some r := by first | (rw [hy655]; with_reducible first | exact H | exact bs H) | (with_reducible first | exact bs H | exact H) | (rw [hy655]; exact H) | exact H
  have Ny655 := am hy655
  clear hy655
  have H' := am H
  clear H
  go_enter Try.func17, Try.ntmps17
  go_wp2_with (first | ((with_reducible refine gate_callee (f := 80) rfl ?_); refine gl (some 9) Try.func80 #[.int .i64 a1, .int .i64 0, .int .i64 1000] ?_; (with_reducible refine (impl_within.calls a1 0 1000 true _ A3.out).mono ?_); rintro e w' ⟨rfl, ⟨nd, rfl⟩⟩; refine ⟨_, rfl, ?_⟩) | ((with_reducible refine gate_dst (N := 11) rfl ?_); refine Kd.R_lit (Kd.int .i64) _ 3 ?hg (N := 11) ?hd (xs := ([] : List Int)) (inner := []) (ok := fun _ => True) (okp := fun _ => True) ?hr ?hp (fun _ hk => hk) trivial (Below.refl _ _) (Nat.le_refl _) (by simp) ?_; (case hd => rfl); (case hg => rfl); (case hr => first | (go_simp; done) | (go_simp; rfl)); (case hp => exact (Reps.none _ _)); intro v656 w5 ho6 hb hg_ hnew_; clear hg_ hnew_; (first | rw [← Ny655.out] at ho6 | (simp only [Int.reduceToNat] at ho6; rw [← Ny655.out] at ho6)); have HO657 := am (Kd.R_lower ho6 (below_size bw)); replace HB := am (below_step bw hb); clear hb ho6))
  go_loopg [5, 6, 13] k (fun kq v5 v6 v13 w' => ∃ (x5_1 : List Int) (x6_1 : Int) (x13_1 : Int), v6 = .int .i64 x6_1 ∧ v13 = .int .i64 x13_1 ∧ Aside0 (impl_SeriesFrom.l0 kq l0 x5_1 x6_1 a1 x13_1 = some r) ∧ Aside0 (kq ≤ k) ∧ Aside0 (Kd.R (Kd.int .i64) 3 w' w.heap.size (fun _ => True) v5 x5_1) ∧ Aside0 (Below w.heap.size w w'))
  case atStart => exact ⟨(y655), (0), (0), rr, rr, H', ⟨Nat.le_refl _⟩, ⟨ro HO657.out⟩, ⟨bw⟩⟩
  case round =>
   clear H'
   obtain ⟨x5_1, x6_1, x13_1, rfl, rfl, HA, HK1, HO_5, HB⟩ := hrel
   cases gk with
   | zero => exact absurd HA.out (by simp [impl_SeriesFrom.l0])
   | succ k1 =>
    have H := HA.out
    clear HA
    simp only [impl_SeriesFrom.l0] at H
    replace H := gi H; obtain ⟨c7b0, H⟩ | ⟨c7b0, H⟩ := H
    ·replace H := gi H; obtain ⟨c8b0, H⟩ | ⟨c8b0, H⟩ := H
     ·replace H := gd H; obtain ⟨c9b0, H⟩ := H
      by_cases c10 : x5_1.length < 17592186044416
      rotate_left
      ·rw [if_neg c10] at H
       exact absurd H (by simp)
      rw [if_pos c10] at H
      have LMc10 := am c10
      clear c10
      obtain ⟨y659, hy659⟩ : ∃ y_ : List Int, y_ = (x5_1 ++ [wrap64 (x6_1 + (rd l0 x13_1))]) := ⟨_, rfl⟩
      replace H : (impl_SeriesFrom.l0 k1 l0 y659 (wrap64 (x6_1 + (rd l0 x13_1))) a1 (wrap64 (x13_1 + 1))) = some r := by first | (rw [hy659]; with_reducible first | exact H | exact bs H) | (with_reducible first | exact bs H | exact H) | (rw [hy659]; exact H) | exact H
      have Ny659 := am hy659
      clear hy659
      have H' := am H
      clear H
      obtain ⟨⟨ad658, e658, hx658_0⟩, p658, q658⟩ := pq (Kd.at_int HR0.out x13_1)
      cases e658
      replace hx658_0 := hw HB hx658_0
      go_wp2_with (first | ((with_reducible refine gate_builtin (b := .append) (xs := #[.tmp 26, .tmp 28]) rfl ?_); at_builtin; refine Kd.R_append (Kd.int .i64) (w0 := w) w.heap.size rfl (.tmp 26) (.tmp 28) 24 3 (.int .i64 0) 8 rfl Try.underlying24 info3 rfl (by decide) (by omega) u5 x5_1 (wrap64 (x6_1 + (rd l0 x13_1))) [.int .i64 (wrap64 (x6_1 + (rd l0 x13_1)))] (fun _ => True) (fun _ => False) rfl rfl ?aP (fun _ hk => hk.elim) ?aF ?aO ?aB ?aS ?aL ?_; (case aP => exact rfl); (case aB => exact bw); (case aF => exact (fun _ _ => trivial)); (case aO => exact (ro HO_5.out)); (case aS => exact (below_size bw)); (case aL => have := LMc10.out; omega); intro v660 w11 ho hb hg hat; rw [← Ny659.out] at ho; replace HB := am (hb); have HO661 := am (ho); clear HO_5 ho hb hg hat))
      go_roundg k1
      case measure => have := HK1.out; omega
      case rel => exact ⟨(y659), (wrap64 (x6_1 + (rd l0 x13_1))), (wrap64 (x13_1 + 1)), rr, rr, H', ⟨by have := HK1.out; omega⟩, ⟨ro HO661.out⟩, ⟨bw⟩⟩
     by_cases c12 : x5_1.length < 17592186044416
     rotate_left
     ·rw [if_neg c12] at H
      exact absurd H (by simp)
     rw [if_pos c12] at H
     have LMc12 := am c12
     clear c12
     obtain ⟨y662, hy662⟩ : ∃ y_ : List Int, y_ = (x5_1 ++ [x6_1]) := ⟨_, rfl⟩
     replace H : (impl_SeriesFrom.l0 k1 l0 y662 x6_1 a1 (wrap64 (x13_1 + 1))) = some r := by first | (rw [hy662]; with_reducible first | exact H | exact bs H) | (with_reducible first | exact bs H | exact H) | (rw [hy662]; exact H) | exact H
     have Ny662 := am hy662
     clear hy662
     have H' := am H
     clear H
     go_wp2_with (first | ((with_reducible refine gate_builtin (b := .append) (xs := #[.tmp 26, .tmp 28]) rfl ?_); at_builtin; refine Kd.R_append (Kd.int .i64) (w0 := w) w.heap.size rfl (.tmp 26) (.tmp 28) 24 3 (.int .i64 0) 8 rfl Try.underlying24 info3 rfl (by decide) (by omega) u5 x5_1 x6_1 [.int .i64 x6_1] (fun _ => True) (fun _ => False) rfl rfl ?aP (fun _ hk => hk.elim) ?aF ?aO ?aB ?aS ?aL ?_; (case aP => exact rfl); (case aB => exact bw); (case aF => exact (fun _ _ => trivial)); (case aO => exact (ro HO_5.out)); (case aS => exact (below_size bw)); (case aL => have := LMc12.out; omega); intro v663 w13 ho hb hg hat; rw [← Ny662.out] at ho; replace HB := am (hb); have HO664 := am (ho); clear HO_5 ho hb hg hat))
     go_roundg k1
     case measure => have := HK1.out; omega
     case rel => exact ⟨(y662), (x6_1), (wrap64 (x13_1 + 1)), rr, rr, H', ⟨by have := HK1.out; omega⟩, ⟨ro HO664.out⟩, ⟨bw⟩⟩
    obtain rfl := Option.some.inj H
    go_wp2
    go_ret
    exact ⟨_, re, ro HO_5.out, bw⟩
 obtain rfl := Option.some.inj H
 go_enter Try.func17, Try.ntmps17
 go_wp2_with (first | ((with_reducible refine gate_callee (f := 80) rfl ?_); refine gl (some 9) Try.func80 #[.int .i64 a1, .int .i64 0, .int .i64 1000] ?_; (with_reducible refine (impl_within.calls a1 0 1000 false _ A3.out).mono ?_); rintro e w' ⟨rfl, ⟨nd, rfl⟩⟩; refine ⟨_, rfl, ?_⟩))
 go_ret
 exact ⟨_, re, by first | exact Kd.R_nil _ _ _ _ _ | exact Kd.N_nil _ _ _ _ _ | exact Kd.V_nil _ _ _ _ _ | exact Kd.Q_nil _ _ _ _ _ | exact Kd.S_nil _ _ _ _ _, bw⟩

end Go.Proofs.Ytbbehmbpoilffaa.C
