/- Contracts of functions of the program: spec_DeltaOf, impl_DeltaOf. -/
import Derived.Test.YtiejmnnnjmmifaaC0
import Derived.Test.YtiejmnnnjmmifaaC2
import Derived.Test.YtiejmnnnjmmifaaC5
import Derived.Test.YtiejmnnnjmmifaaC8
namespace Go.Proofs.Ytiejmnnnjmmifaa.C
open Go.RowKit Go.Proofs.YtiejmnnnjmmifaaW.PrintWords Go.Proofs.YtiejmnnnjmmifaaW.PrintLast Go.Proofs.YtiejmnnnjmmifaaW.PrintMore
attribute [local go_sem] max2_int min2_int max_two min_two max_three min_three max_four min_four
set_option linter.unusedVariables false
set_option linter.unusedSimpArgs false

/-! ### spec_DeltaOf: function 33 -/
def spec_DeltaOf.l0 : Nat → List Int → List Int → Int → Option (List Int)
 | 0, _, _, _ => none
 | k + 1, x5, x6, x7 => if x7 < (x6.length : Int) then (if 0 ≤ x7 then (if 0 ≤ (wrap64 (x7 - 1)) then (if (wrap64 (x7 - 1)) < (x6.length : Int) then (if x5.length < 17592186044416 then (spec_DeltaOf.l0 k (x5 ++ [wrap64 ((rd x6 x7) - (rd x6 (wrap64 (x7 - 1))))]) x6 (wrap64 (x7 + 1))) else (none)) else (none)) else (none)) else (none)) else ((spec_SortList.f k x5).bind fun t621 => (some t621))
def spec_DeltaOf.f (k : Nat) (l0_0 : List Int) (a1 : Int) : Option (List Int) := (spec_LengthsOf.f k l0_0 a1).bind fun t613 => (spec_DeltaOf.l0 k (([] : List Int)) t613 1)
def spec_DeltaOf.T6 : Bool × List (List Nat × List Nat) := (true, [([], []), ([], []), ([], []), ([1, 2], [1, 2]), ([3], [3]), ([], []), ([], []), ([6], [6]), ([5, 7], [5, 7]), ([8], [8]), ([4, 9], [4, 9]), ([10], [10]), ([0, 11], [0, 11]), ([12, 12, 0, 1, 2, 3, 4, 5, 6, 7, 8, 9, 10, 11, 12], [0, 12])])
def spec_DeltaOf.B6 : List Nat := [0, 0, 0, 6, 14, 0, 0, 64, 224, 480, 1022, 2046, 4095, 8191]
theorem spec_DeltaOf.tab6 : rtab .any (opsOf Try.f33 6) = spec_DeltaOf.T6 := by kernel_rfl
theorem spec_DeltaOf.bits6 : waitsOk spec_DeltaOf.T6.2 spec_DeltaOf.B6 = true := by kernel_rfl
set_option maxHeartbeats 8000000 in
set_option maxRecDepth 100000 in
theorem spec_DeltaOf.calls (k : Nat) (A0_0 : Option Addr) (c0_0 : Nat) (l0_0 : List Int) (a1 : Int) (r : List Int) (w : World) (hr0_0 : Kd.C (Kd.int .i64) w A0_0 l0_0.length l0_0) (hc0_0 : l0_0.length ≤ c0_0) (h : spec_DeltaOf.f k l0_0 a1 = some r) :
  Calls Try.prog 33 #[.agg #[.slice A0_0 l0_0.length c0_0], .int .i64 a1] w fun e w' => ∃ v0_ : Value, e = .returned (v0_) ∧ Kd.R (Kd.int .i64) 3 w' w.heap.size (fun _ => True) v0_ r ∧ Below w.heap.size w w' := by
 have hu27 := Try.underlying27
 have HR0_0 := Aside0.mk hr0_0
 have HC0_0 := Aside0.mk hc0_0
 clear hr0_0 hc0_0
 have HB := Aside0.mk (Below.refl w.heap.size w)
 have H : ((spec_LengthsOf.f k l0_0 a1).bind fun t613 => (spec_DeltaOf.l0 k (([] : List Int)) t613 1)) = some r := h
 clear h
 obtain ⟨y610, hy610⟩ : ∃ y_ : List Int, y_ = (([] : List Int)) := ⟨_, rfl⟩
 replace H : ((spec_LengthsOf.f k l0_0 a1).bind fun t613 => (spec_DeltaOf.l0 k y610 t613 1)) = some r := by first | (rw [hy610]; with_reducible exact H) | (have H2_ := (Option.bind_some _ _).symm.trans H; rw [hy610]; with_reducible exact H2_) | (have H2_ := (Option.bind_some _ _).symm.trans H; with_reducible exact H2_) | with_reducible exact H | (rw [hy610]; exact H) | exact H
 have Ny610 := Aside0.mk hy610
 clear hy610
 replace H := ga H; obtain ⟨t613, A3, H⟩ := H
 have H' := Aside0.mk H
 clear H
 go_enter Try.func33, Try.ntmps33
 go_wp2_with (first | ((with_reducible refine gate_dst (N := 2) rfl ?_); refine bx 2 #[.slice A0_0 l0_0.length c0_0] 27 ?_; intro gb609 hg w4 hbox hb; have BK609 := Aside0.mk (hbox); have GW609 := Aside0.mk (gs hg : w.heap.size ≤ gb609); have GE609 := Aside0.mk (gs hg : w.heap.size ≤ gb609); replace HB := Aside0.mk (below_step bw hb); clear hb hbox hg) | ((with_reducible refine gate_dst (N := 8) rfl ?_); refine Kd.R_lit (Kd.int .i64) _ 3 ?hg (N := 8) ?hd (xs := ([] : List Int)) (inner := []) (ok := fun _ => True) (okp := fun _ => True) ?hr ?hp (fun _ hk => hk) trivial (Below.refl _ _) (Nat.le_refl _) (by simp) ?_; (case hd => rfl); (case hg => rfl); (case hr => first | (go_simp; done) | (go_simp; rfl)); (case hp => exact (Reps.none _ _)); intro v611 w5 ho6 hb hg_ hnew_; clear hg_ hnew_; (first | rw [← Ny610.out] at ho6 | (simp only [Int.reduceToNat] at ho6; rw [← Ny610.out] at ho6)); have HO612 := Aside0.mk (Kd.R_lower ho6 (below_size bw)); replace BK609 := Aside0.mk (blk_below (g := gb609) (o := .cells #[.slice A0_0 l0_0.length c0_0] 27 (0, 0)) (bo BK609.out) hb); replace HB := Aside0.mk (below_step bw hb); clear hb ho6; have hcz7_0 := bc BK609 0 (.slice A0_0 l0_0.length c0_0); have hfz7_0 := blk_frozen BK609.out 0) | ((with_reducible refine gate_callee (f := 27) rfl ?_); refine gl (some 11) Try.func27 #[.agg #[.slice A0_0 l0_0.length c0_0], .int .i64 a1] ?_; (with_reducible refine (spec_LengthsOf.calls k _ _ l0_0 a1 t613 _ ?side1 ?side2 A3.out).mono ?_); (case side1 => exact co (Kd.C_below HR0_0.out HB.out)); (case side2 => exact HC0_0.out); rintro e w8 ⟨v614, rfl, ho0, hb⟩; refine ⟨_, rfl, ?_⟩; have HO615 := Aside0.mk (Kd.R_lower (Kd.R_new' ho0 (Kd.R_lt (ro HO612.out))) (below_size bw)); replace HO612 := Aside0.mk (Kd.R_elder' (ro HO612.out) (Kd.R_base ho0) hb); replace BK609 := Aside0.mk (blk_below (g := gb609) (o := .cells #[.slice A0_0 l0_0.length c0_0] 27 (0, 0)) (bo BK609.out) hb); replace HB := Aside0.mk (below_step bw hb); clear hb ho0))
 go_loopg [5, 7] k (fun kq v5 v7 w' => ∃ (x5_1 : List Int) (x7_1 : Int), v7 = .int .i64 x7_1 ∧ Aside0 (spec_DeltaOf.l0 kq x5_1 t613 x7_1 = some r) ∧ Aside0 (kq ≤ k) ∧ Aside0 (Kd.R (Kd.int .i64) 3 w' w.heap.size (fun k_ => some k_ ≠ (v614 : Value).ownBlock) v5 x5_1) ∧ Aside0 (Kd.R (Kd.int .i64) 3 w' w.heap.size (fun k_ => some k_ ≠ (v5 : Value).ownBlock) v614 t613) ∧ Aside0 (w'.heap[gb609]? = some (.cells #[(.slice A0_0 l0_0.length c0_0)] 27 (0, 0))) ∧ Aside0 (Below w.heap.size w w'))
 case atStart => exact ⟨(y610), (1), rr, H', ⟨Nat.le_refl _⟩, ⟨by (with_reducible repeat (first | apply Kd.R_alloc | apply Kd.R_drewN | apply Kd.R_drew)); exact Kd.R_mono HO612.out (fun _ hk => hk.2)⟩, ⟨by (with_reducible repeat (first | apply Kd.R_alloc | apply Kd.R_drewN | apply Kd.R_drew)); exact Kd.R_mono HO615.out (fun _ hk => hk.2)⟩, ⟨bo BK609.out⟩, ⟨bw⟩⟩
 case round =>
  clear H'
  try clear hcz7_0; try clear hfz7_0
  obtain ⟨x5_1, x7_1, rfl, HA, HK1, HO_5, HO_6, BK609, HB⟩ := hrel
  cases gk with
  | zero => exact absurd HA.out (by simp [spec_DeltaOf.l0])
  | succ k1 =>
   have H := HA.out
   clear HA
   simp only [spec_DeltaOf.l0] at H
   replace H := gi H; obtain ⟨c9b0, H⟩ | ⟨c9b0, H⟩ := H
   ·replace H := gd H; obtain ⟨c10b0, H⟩ := H
    obtain ⟨ji11, hji11⟩ : ∃ j_ : Int, (wrap64 (x7_1 - 1)) = j_ := ⟨_, rfl⟩
    replace H : (if 0 ≤ (ji11) then (if (ji11) < (t613.length : Int) then (if x5_1.length < 17592186044416 then (spec_DeltaOf.l0 k1 (x5_1 ++ [wrap64 ((rd t613 x7_1) - (rd t613 (ji11)))]) t613 (wrap64 (x7_1 + 1))) else (none)) else (none)) else (none)) = some r := by first | (rw [hji11] at H; exact H) | (simp only [hji11] at H ⊢; exact H)
    have hji11w : (IntKind.i64.wrap (x7_1 - 1)) = ji11 := (i64_w _).trans hji11
    replace H := gd H; obtain ⟨c12b0, H⟩ := H
    replace H := gd H; obtain ⟨c13b0, H⟩ := H
    by_cases c14 : x5_1.length < 17592186044416
    rotate_left
    ·rw [if_neg c14] at H
     exact absurd H (by simp)
    rw [if_pos c14] at H
    have LMc14 := Aside0.mk c14
    clear c14
    obtain ⟨y618, hy618⟩ : ∃ y_ : List Int, y_ = (x5_1 ++ [wrap64 ((rd t613 x7_1) - (rd t613 (ji11)))]) := ⟨_, rfl⟩
    replace H : (spec_DeltaOf.l0 k1 y618 t613 (wrap64 (x7_1 + 1))) = some r := by first | (rw [hy618]; with_reducible exact H) | (have H2_ := (Option.bind_some _ _).symm.trans H; rw [hy618]; with_reducible exact H2_) | (have H2_ := (Option.bind_some _ _).symm.trans H; with_reducible exact H2_) | with_reducible exact H | (rw [hy618]; exact H) | exact H
    have Ny618 := Aside0.mk hy618
    clear hy618
    have H' := Aside0.mk H
    clear H
    obtain ⟨Ao15, co15, eo15⟩ := Kd.R_slice HO_6.out
    subst eo15
    try go_wp2
    replace HO_5 := Aside0.mk (Kd.R_drew HO_5.out)
    replace HO_6 := Aside0.mk (Kd.R_drew HO_6.out)
    replace BK609 := Aside0.mk (blk_drew BK609.out)
    replace HB := Aside0.mk (below_drew1 HB.out)
    obtain ⟨⟨ad616, e616, hx616_0⟩, p616, q616⟩ := pq (Kd.at_int (Kd.R_reads' HO_6.out).2.2 x7_1)
    cases e616
    obtain ⟨⟨ad617, e617, hx617_0⟩, p617, q617⟩ := pq (Kd.at_int (Kd.R_reads' HO_6.out).2.2 (ji11))
    obtain rfl : ad616 = ad617 := (by injection e617)
    refine start_ (n := 14) (S := fun w' => w'.cell? (ad616.add (x7_1).toNat) = some (.int .i64 (rd t613 x7_1)) ∧ w'.cell? (ad616.add ((ji11)).toNat) = some (.int .i64 (rd t613 (ji11)))) (ds := [11, 12]) #[Z,Z,Z,Z,Z,Z,Z,Z,Z,Z,Z,Z,Z,Z] (by kernel_rfl) rfl rfl ⟨hx616_0, hx617_0⟩ (fun hHeld => ?_); refine with_tabW spec_DeltaOf.tab6 spec_DeltaOf.bits6 (fun HT_ HW_ => ?_)
    generalize wr.drew = w16 at HO_5 HO_6 BK609 HB hx616_0 hx617_0 hHeld ⊢
    refine pa 0 (some 18) #[Y,Z,Z,Z,Z,Z,Z,Z,Z,Z,Z,Z,Z,Z] HT_ ?_
    refine pa 1 (some 19) #[Y,Y,Z,Z,Z,Z,Z,Z,Z,Z,Z,Z,Z,Z] HT_ ?_
    refine pa 2 (some 20) #[Y,Y,Y,Z,Z,Z,Z,Z,Z,Z,Z,Z,Z,Z] HT_ ?_
    refine pa 3 (some 21) #[Y,Y,Y,Y,Z,Z,Z,Z,Z,Z,Z,Z,Z,Z] HT_ ?_
    refine pa 5 (some 23) #[Y,Y,Y,Y,Z,Y,Z,Z,Z,Z,Z,Z,Z,Z] HT_ ?_
    refine pa 6 (some 24) #[Y,Y,Y,Y,Z,Y,Y,Z,Z,Z,Z,Z,Z,Z] HT_ ?_
    refine pa 7 (some 25) #[Y,Y,Y,Y,Z,Y,Y,Y,Z,Z,Z,Z,Z,Z] HT_ ?_
    refine pa 8 (some 26) #[Y,Y,Y,Y,Z,Y,Y,Y,Y,Z,Z,Z,Z,Z] HT_ ?_
    refine take_ (i := 4) (N := some 22) (v := ?_) (a' := ?_) #[Y,Y,Y,Y,Y,Y,Y,Y,Y,Z,Z,Z,Z,Z] rfl rfl (take_ofW HT_.out HW_.out (by kernel_rfl)) (fun _ _ _ h => h) (Or.inl ⟨by rfl, ?_⟩) hHeld ?_ ?_
    rotate_left
    ·rintro w' ⟨s0, s1⟩
     go_simp
     with_reducible rfl
    rotate_left
    ·simp only [Act.put, qa, qb, qc, i64_w, i32_w]
     rfl
    refine take_ (i := 9) (N := some 27) (v := ?_) (a' := ?_) #[Y,Y,Y,Y,Y,Y,Y,Y,Y,Y,Z,Z,Z,Z] rfl rfl (take_ofW HT_.out HW_.out (by kernel_rfl)) (fun _ _ _ h => h) (Or.inl ⟨by rfl, ?_⟩) hHeld ?_ ?_
    rotate_left
    ·rintro w' ⟨s0, s1⟩
     go_simp
     with_reducible rfl
    rotate_left
    ·simp only [Act.put, qa, qb, qc, i64_w, i32_w]
     rfl
    refine pa 10 (some 28) #[Y,Y,Y,Y,Y,Y,Y,Y,Y,Y,Y,Z,Z,Z] HT_ ?_
    refine last_ (i := 11) (N := some 29) #[Y,Y,Y,Y,Y,Y,Y,Y,Y,Y,Y,Y,Z,Z] rfl rfl (one_of HT_.out (by kernel_rfl)) (by decide) (fun K hK => ?_)
    refine value_ (w1 := ?_) (v := ?_) (by rfl) rfl ?_ ?_
    rotate_left 2
    ·go_simp
     constructor
     ·rfl
     ·rfl
    refine hK.out _ _ ?_
    clear hK K
    refine norm_ (a' := ?_) ?_ ?_
    rotate_left
    ·show Act.put _ (some 29) _ = _
     simp only [Act.put, qa, qb, qc, i64_w, i32_w]
     rfl
    refine last_ (i := 12) (N := some 30) #[Y,Y,Y,Y,Y,Y,Y,Y,Y,Y,Y,Y,Y,Z] rfl rfl (one_of HT_.out (by kernel_rfl)) (by decide) (fun K hK => ?_)
    refine Kd.R_append_step (Kd.int .i64) (w0 := w) w.heap.size (by rfl) (.tmp 18) (.tmp 29) 22 3 (.int .i64 0) 8 rfl Try.underlying22 info3 rfl (by decide) (by omega) u5 x5_1 (wrap64 ((rd t613 x7_1) - (rd t613 (ji11)))) [.int .i64 (wrap64 ((rd t613 x7_1) - (rd t613 (ji11))))] (fun k_ => some k_ ≠ (.slice (some ad616) t613.length co15 : Value).ownBlock) (fun _ => False) rfl rfl ?aP (fun _ hk => hk.elim) ?aF ?aO ?aB ?aS ?aL ?_
    (case aP => exact rfl)
    (case aB => exact bw)
    (case aF => exact (fun k_ hk => Kd.fresh' (Kd.R_lt (ro HO_6.out)) k_ hk))
    (case aO => exact (ro HO_5.out))
    (case aS => exact (below_size bw))
    (case aL => have := LMc14.out; omega)
    intro v619 w17 ho hb hg hat
    rw [← Ny618.out] at ho
    replace HO_6 := Aside0.mk (Kd.R_after (ok := (fun _ => True)) (by (with_reducible repeat (first | apply Kd.R_alloc | apply Kd.R_drewN | apply Kd.R_drew)); exact Kd.R_mono HO_6.out (fun _ hk => ⟨trivial, by first | exact hk | exact (by intro a n m c x h; cases a <;> exact h : ∀ (a : Option Addr) (n m c x : Nat), some x ≠ (Value.slice a n c).ownBlock → some x ≠ (Value.slice a m c).ownBlock) _ _ _ _ _ hk⟩)) hg hat)
    replace BK609 := Aside0.mk (blk_grown (g := gb609) (o := .cells #[.slice A0_0 l0_0.length c0_0] 27 (0, 0)) (bo BK609.out) hg (Kd.R_ne HO_5.out BK609.out (by decide)))
    replace HB := Aside0.mk (hb)
    have HO620 := Aside0.mk (ho)
    clear HO_5 ho hb hg hat
    refine hK.out _ _ ?_
    clear hK K
    refine norm_ (a' := ?_) ?_ ?_
    rotate_left
    ·show Act.put _ (some 30) _ = _
     simp only [Act.put, qa, qb, qc, i64_w, i32_w]
     rfl
    refine pa 13 (some 5) #[Y,Y,Y,Y,Y,Y,Y,Y,Y,Y,Y,Y,Y,Y] HT_ ?_
    refine done_ (done_of HT_.out (by kernel_rfl)) ?_
    try go_wp2
    go_roundg k1
    case measure => have := HK1.out; omega
    case rel => exact ⟨(y618), (wrap64 (x7_1 + 1)), rr, H', ⟨by have := HK1.out; omega⟩, ⟨ro HO620.out⟩, ⟨by (with_reducible repeat (first | apply Kd.R_alloc | apply Kd.R_drewN | apply Kd.R_drew)); exact Kd.R_mono HO_6.out (fun _ hk => hk.2)⟩, ⟨bo BK609.out⟩, ⟨bw⟩⟩
   ·replace H := ga H; obtain ⟨t621, A18, H⟩ := H
    obtain rfl := Option.some.inj H
    obtain ⟨Ao19, co19, eo19⟩ := Kd.R_slice HO_6.out
    subst eo19
    obtain ⟨Ao20, co20, eo20⟩ := Kd.R_slice HO_5.out
    subst eo20
    go_wp2_with (first | ((with_reducible refine gate_callee (f := 57) rfl ?_); refine gl (some 32) Try.func57 #[.slice Ao20 x5_1.length co20] ?_; (with_reducible refine (spec_SortList.calls k1 _ _ x5_1 t621 _ ?side1 ?side2 A18.out).mono ?_); (case side1 => exact co (Kd.R_reads' HO_5.out).2.2); (case side2 => exact (Kd.R_reads' HO_5.out).2.1); rintro e w21 ⟨v622, rfl, ho0, hb⟩; refine ⟨_, rfl, ?_⟩; have HO623 := Aside0.mk (Kd.R_lower (Kd.R_new' (Kd.R_new' ho0 (Kd.R_lt (ro HO_5.out))) (Kd.R_lt (ro HO_6.out))) (below_size bw)); replace HO_5 := Aside0.mk (Kd.R_elder' (ro HO_5.out) (Kd.R_base ho0) hb); replace HO_6 := Aside0.mk (Kd.R_elder' (ro HO_6.out) (Kd.R_base ho0) hb); replace BK609 := Aside0.mk (blk_below (g := gb609) (o := .cells #[.slice A0_0 l0_0.length c0_0] 27 (0, 0)) (bo BK609.out) hb); replace HB := Aside0.mk (below_step bw hb); clear hb ho0))
    go_ret
    exact ⟨_, re, by (with_reducible repeat (first | apply Kd.R_alloc | apply Kd.R_drewN | apply Kd.R_drew)); exact Kd.R_mono HO623.out (fun _ hk => trivial), bw⟩


/-! ### impl_DeltaOf: function 34 -/
def impl_DeltaOf.l0 : Nat → List Int → List Int → Int → Option (List Int)
 | 0, _, _, _ => none
 | k + 1, x5, x6, x7 => if x7 < (x5.length : Int) then (if 0 ≤ x7 then (if 0 ≤ (wrap64 (x7 - 1)) then (if (wrap64 (x7 - 1)) < (x5.length : Int) then (if x6.length < 17592186044416 then (impl_DeltaOf.l0 k x5 (x6 ++ [wrap64 ((rd x5 x7) - (rd x5 (wrap64 (x7 - 1))))]) (wrap64 (x7 + 1))) else (none)) else (none)) else (none)) else (none)) else ((impl_SortList.f x6).bind fun t636 => (some t636))
def impl_DeltaOf.f (k : Nat) (l0_0 : List Int) (a1 : Int) : Option (List Int) := (impl_LengthsOf.f k l0_0 a1).bind fun t625 => (impl_DeltaOf.l0 k t625 (([] : List Int)) 1)
def impl_DeltaOf.T6 : Bool × List (List Nat × List Nat) := (true, [([], []), ([], []), ([], []), ([1, 2], [1, 2]), ([3], [3]), ([], []), ([], []), ([6], [6]), ([5, 7], [5, 7]), ([8], [8]), ([4, 9], [4, 9]), ([10], [10]), ([0, 11], [0, 11]), ([12, 12, 0, 1, 2, 3, 4, 5, 6, 7, 8, 9, 10, 11, 12], [0, 12])])
def impl_DeltaOf.B6 : List Nat := [0, 0, 0, 6, 14, 0, 0, 64, 224, 480, 1022, 2046, 4095, 8191]
theorem impl_DeltaOf.tab6 : rtab .any (opsOf Try.f34 6) = impl_DeltaOf.T6 := by kernel_rfl
theorem impl_DeltaOf.bits6 : waitsOk impl_DeltaOf.T6.2 impl_DeltaOf.B6 = true := by kernel_rfl
set_option maxHeartbeats 8000000 in
set_option maxRecDepth 100000 in
theorem impl_DeltaOf.calls (k : Nat) (A0_0 : Option Addr) (c0_0 : Nat) (l0_0 : List Int) (a1 : Int) (r : List Int) (w : World) (hr0_0 : Kd.C (Kd.int .i64) w A0_0 l0_0.length l0_0) (hc0_0 : l0_0.length ≤ c0_0) (h : impl_DeltaOf.f k l0_0 a1 = some r) :
  Calls Try.prog 34 #[.agg #[.slice A0_0 l0_0.length c0_0], .int .i64 a1] w fun e w' => ∃ v0_ : Value, e = .returned (v0_) ∧ Kd.R (Kd.int .i64) 3 w' w.heap.size (fun _ => True) v0_ r ∧ Below w.heap.size w w' := by
 have hu27 := Try.underlying27
 have HR0_0 := Aside0.mk hr0_0
 have HC0_0 := Aside0.mk hc0_0
 clear hr0_0 hc0_0
 have HB := Aside0.mk (Below.refl w.heap.size w)
 have H : ((impl_LengthsOf.f k l0_0 a1).bind fun t625 => (impl_DeltaOf.l0 k t625 (([] : List Int)) 1)) = some r := h
 clear h
 replace H := ga H; obtain ⟨t625, A3, H⟩ := H
 obtain ⟨y628, hy628⟩ : ∃ y_ : List Int, y_ = (([] : List Int)) := ⟨_, rfl⟩
 replace H : (impl_DeltaOf.l0 k t625 y628 1) = some r := by first | (rw [hy628]; with_reducible exact H) | (have H2_ := (Option.bind_some _ _).symm.trans H; rw [hy628]; with_reducible exact H2_) | (have H2_ := (Option.bind_some _ _).symm.trans H; with_reducible exact H2_) | with_reducible exact H | (rw [hy628]; exact H) | exact H
 have Ny628 := Aside0.mk hy628
 clear hy628
 have H' := Aside0.mk H
 clear H
 go_enter Try.func34, Try.ntmps34
 go_wp2_with (first | ((with_reducible refine gate_dst (N := 2) rfl ?_); refine bx 2 #[.slice A0_0 l0_0.length c0_0] 27 ?_; intro gb624 hg w4 hbox hb; have BK624 := Aside0.mk (hbox); have GW624 := Aside0.mk (gs hg : w.heap.size ≤ gb624); have GE624 := Aside0.mk (gs hg : w.heap.size ≤ gb624); replace HB := Aside0.mk (below_step bw hb); clear hb hbox hg; have hcz5_0 := bc BK624 0 (.slice A0_0 l0_0.length c0_0); have hfz5_0 := blk_frozen BK624.out 0) | ((with_reducible refine gate_callee (f := 28) rfl ?_); refine gl (some 10) Try.func28 #[.agg #[.slice A0_0 l0_0.length c0_0], .int .i64 a1] ?_; (with_reducible refine (impl_LengthsOf.calls k _ _ l0_0 a1 t625 _ ?side1 ?side2 A3.out).mono ?_); (case side1 => exact co (Kd.C_below HR0_0.out HB.out)); (case side2 => exact HC0_0.out); rintro e w6 ⟨v626, rfl, ho0, hb⟩; refine ⟨_, rfl, ?_⟩; have HO627 := Aside0.mk (Kd.R_lower ho0 (below_size bw)); replace BK624 := Aside0.mk (blk_below (g := gb624) (o := .cells #[.slice A0_0 l0_0.length c0_0] 27 (0, 0)) (bo BK624.out) hb); replace HB := Aside0.mk (below_step bw hb); clear hb ho0) | ((with_reducible refine gate_dst (N := 11) rfl ?_); refine Kd.R_lit (Kd.int .i64) _ 3 ?hg (N := 11) ?hd (xs := ([] : List Int)) (inner := []) (ok := fun _ => True) (okp := fun _ => True) ?hr ?hp (fun _ hk => hk) trivial (Below.refl _ _) (Nat.le_refl _) (by simp) ?_; (case hd => rfl); (case hg => rfl); (case hr => first | (go_simp; done) | (go_simp; rfl)); (case hp => exact (Reps.none _ _)); intro v629 w7 ho8 hb hg_ hnew_; clear hg_ hnew_; (first | rw [← Ny628.out] at ho8 | (simp only [Int.reduceToNat] at ho8; rw [← Ny628.out] at ho8)); have HO630 := Aside0.mk (Kd.R_lower (Kd.R_new' ho8 (Kd.R_lt (ro HO627.out))) (below_size bw)); replace HO627 := Aside0.mk (Kd.R_elder' (ro HO627.out) (Kd.R_base ho8) hb); replace BK624 := Aside0.mk (blk_below (g := gb624) (o := .cells #[.slice A0_0 l0_0.length c0_0] 27 (0, 0)) (bo BK624.out) hb); replace HB := Aside0.mk (below_step bw hb); clear hb ho8))
 go_loopg [6, 7] k (fun kq v6 v7 w' => ∃ (x6_1 : List Int) (x7_1 : Int), v7 = .int .i64 x7_1 ∧ Aside0 (impl_DeltaOf.l0 kq t625 x6_1 x7_1 = some r) ∧ Aside0 (kq ≤ k) ∧ Aside0 (Kd.R (Kd.int .i64) 3 w' w.heap.size (fun k_ => some k_ ≠ (v6 : Value).ownBlock) v626 t625) ∧ Aside0 (Kd.R (Kd.int .i64) 3 w' w.heap.size (fun k_ => some k_ ≠ (v626 : Value).ownBlock) v6 x6_1) ∧ Aside0 (w'.heap[gb624]? = some (.cells #[(.slice A0_0 l0_0.length c0_0)] 27 (0, 0))) ∧ Aside0 (Below w.heap.size w w'))
 case atStart => exact ⟨(y628), (1), rr, H', ⟨Nat.le_refl _⟩, ⟨by (with_reducible repeat (first | apply Kd.R_alloc | apply Kd.R_drewN | apply Kd.R_drew)); exact Kd.R_mono HO627.out (fun _ hk => hk.2)⟩, ⟨by (with_reducible repeat (first | apply Kd.R_alloc | apply Kd.R_drewN | apply Kd.R_drew)); exact Kd.R_mono HO630.out (fun _ hk => hk.2)⟩, ⟨bo BK624.out⟩, ⟨bw⟩⟩
 case round =>
  clear H'
  try clear hcz5_0; try clear hfz5_0
  obtain ⟨x6_1, x7_1, rfl, HA, HK1, HO_5, HO_6, BK624, HB⟩ := hrel
  cases gk with
  | zero => exact absurd HA.out (by simp [impl_DeltaOf.l0])
  | succ k1 =>
   have H := HA.out
   clear HA
   simp only [impl_DeltaOf.l0] at H
   replace H := gi H; obtain ⟨c9b0, H⟩ | ⟨c9b0, H⟩ := H
   ·replace H := gd H; obtain ⟨c10b0, H⟩ := H
    obtain ⟨ji11, hji11⟩ : ∃ j_ : Int, (wrap64 (x7_1 - 1)) = j_ := ⟨_, rfl⟩
    replace H : (if 0 ≤ (ji11) then (if (ji11) < (t625.length : Int) then (if x6_1.length < 17592186044416 then (impl_DeltaOf.l0 k1 t625 (x6_1 ++ [wrap64 ((rd t625 x7_1) - (rd t625 (ji11)))]) (wrap64 (x7_1 + 1))) else (none)) else (none)) else (none)) = some r := by first | (rw [hji11] at H; exact H) | (simp only [hji11] at H ⊢; exact H)
    have hji11w : (IntKind.i64.wrap (x7_1 - 1)) = ji11 := (i64_w _).trans hji11
    replace H := gd H; obtain ⟨c12b0, H⟩ := H
    replace H := gd H; obtain ⟨c13b0, H⟩ := H
    by_cases c14 : x6_1.length < 17592186044416
    rotate_left
    ·rw [if_neg c14] at H
     exact absurd H (by simp)
    rw [if_pos c14] at H
    have LMc14 := Aside0.mk c14
    clear c14
    obtain ⟨y633, hy633⟩ : ∃ y_ : List Int, y_ = (x6_1 ++ [wrap64 ((rd t625 x7_1) - (rd t625 (ji11)))]) := ⟨_, rfl⟩
    replace H : (impl_DeltaOf.l0 k1 t625 y633 (wrap64 (x7_1 + 1))) = some r := by first | (rw [hy633]; with_reducible exact H) | (have H2_ := (Option.bind_some _ _).symm.trans H; rw [hy633]; with_reducible exact H2_) | (have H2_ := (Option.bind_some _ _).symm.trans H; with_reducible exact H2_) | with_reducible exact H | (rw [hy633]; exact H) | exact H
    have Ny633 := Aside0.mk hy633
    clear hy633
    have H' := Aside0.mk H
    clear H
    obtain ⟨Ao15, co15, eo15⟩ := Kd.R_slice HO_5.out
    subst eo15
    try go_wp2
    replace HO_5 := Aside0.mk (Kd.R_drew HO_5.out)
    replace HO_6 := Aside0.mk (Kd.R_drew HO_6.out)
    replace BK624 := Aside0.mk (blk_drew BK624.out)
    replace HB := Aside0.mk (below_drew1 HB.out)
    obtain ⟨⟨ad631, e631, hx631_0⟩, p631, q631⟩ := pq (Kd.at_int (Kd.R_reads' HO_5.out).2.2 x7_1)
    cases e631
    obtain ⟨⟨ad632, e632, hx632_0⟩, p632, q632⟩ := pq (Kd.at_int (Kd.R_reads' HO_5.out).2.2 (ji11))
    obtain rfl : ad631 = ad632 := (by injection e632)
    refine start_ (n := 14) (S := fun w' => w'.cell? (ad631.add (x7_1).toNat) = some (.int .i64 (rd t625 x7_1)) ∧ w'.cell? (ad631.add ((ji11)).toNat) = some (.int .i64 (rd t625 (ji11)))) (ds := [11, 12]) #[Z,Z,Z,Z,Z,Z,Z,Z,Z,Z,Z,Z,Z,Z] (by kernel_rfl) rfl rfl ⟨hx631_0, hx632_0⟩ (fun hHeld => ?_); refine with_tabW impl_DeltaOf.tab6 impl_DeltaOf.bits6 (fun HT_ HW_ => ?_)
    generalize wr.drew = w16 at HO_5 HO_6 BK624 HB hx631_0 hx632_0 hHeld ⊢
    refine pa 0 (some 18) #[Y,Z,Z,Z,Z,Z,Z,Z,Z,Z,Z,Z,Z,Z] HT_ ?_
    refine pa 1 (some 19) #[Y,Y,Z,Z,Z,Z,Z,Z,Z,Z,Z,Z,Z,Z] HT_ ?_
    refine pa 2 (some 20) #[Y,Y,Y,Z,Z,Z,Z,Z,Z,Z,Z,Z,Z,Z] HT_ ?_
    refine pa 3 (some 21) #[Y,Y,Y,Y,Z,Z,Z,Z,Z,Z,Z,Z,Z,Z] HT_ ?_
    refine pa 5 (some 23) #[Y,Y,Y,Y,Z,Y,Z,Z,Z,Z,Z,Z,Z,Z] HT_ ?_
    refine pa 6 (some 24) #[Y,Y,Y,Y,Z,Y,Y,Z,Z,Z,Z,Z,Z,Z] HT_ ?_
    refine pa 7 (some 25) #[Y,Y,Y,Y,Z,Y,Y,Y,Z,Z,Z,Z,Z,Z] HT_ ?_
    refine pa 8 (some 26) #[Y,Y,Y,Y,Z,Y,Y,Y,Y,Z,Z,Z,Z,Z] HT_ ?_
    refine take_ (i := 4) (N := some 22) (v := ?_) (a' := ?_) #[Y,Y,Y,Y,Y,Y,Y,Y,Y,Z,Z,Z,Z,Z] rfl rfl (take_ofW HT_.out HW_.out (by kernel_rfl)) (fun _ _ _ h => h) (Or.inl ⟨by rfl, ?_⟩) hHeld ?_ ?_
    rotate_left
    ·rintro w' ⟨s0, s1⟩
     go_simp
     with_reducible rfl
    rotate_left
    ·simp only [Act.put, qa, qb, qc, i64_w, i32_w]
     rfl
    refine take_ (i := 9) (N := some 27) (v := ?_) (a' := ?_) #[Y,Y,Y,Y,Y,Y,Y,Y,Y,Y,Z,Z,Z,Z] rfl rfl (take_ofW HT_.out HW_.out (by kernel_rfl)) (fun _ _ _ h => h) (Or.inl ⟨by rfl, ?_⟩) hHeld ?_ ?_
    rotate_left
    ·rintro w' ⟨s0, s1⟩
     go_simp
     with_reducible rfl
    rotate_left
    ·simp only [Act.put, qa, qb, qc, i64_w, i32_w]
     rfl
    refine pa 10 (some 28) #[Y,Y,Y,Y,Y,Y,Y,Y,Y,Y,Y,Z,Z,Z] HT_ ?_
    refine last_ (i := 11) (N := some 29) #[Y,Y,Y,Y,Y,Y,Y,Y,Y,Y,Y,Y,Z,Z] rfl rfl (one_of HT_.out (by kernel_rfl)) (by decide) (fun K hK => ?_)
    refine value_ (w1 := ?_) (v := ?_) (by rfl) rfl ?_ ?_
    rotate_left 2
    ·go_simp
     constructor
     ·rfl
     ·rfl
    refine hK.out _ _ ?_
    clear hK K
    refine norm_ (a' := ?_) ?_ ?_
    rotate_left
    ·show Act.put _ (some 29) _ = _
     simp only [Act.put, qa, qb, qc, i64_w, i32_w]
     rfl
    refine last_ (i := 12) (N := some 30) #[Y,Y,Y,Y,Y,Y,Y,Y,Y,Y,Y,Y,Y,Z] rfl rfl (one_of HT_.out (by kernel_rfl)) (by decide) (fun K hK => ?_)
    refine Kd.R_append_step (Kd.int .i64) (w0 := w) w.heap.size (by rfl) (.tmp 18) (.tmp 29) 22 3 (.int .i64 0) 8 rfl Try.underlying22 info3 rfl (by decide) (by omega) u6 x6_1 (wrap64 ((rd t625 x7_1) - (rd t625 (ji11)))) [.int .i64 (wrap64 ((rd t625 x7_1) - (rd t625 (ji11))))] (fun k_ => some k_ ≠ (.slice (some ad631) t625.length co15 : Value).ownBlock) (fun _ => False) rfl rfl ?aP (fun _ hk => hk.elim) ?aF ?aO ?aB ?aS ?aL ?_
    (case aP => exact rfl)
    (case aB => exact bw)
    (case aF => exact (fun k_ hk => Kd.fresh' (Kd.R_lt (ro HO_5.out)) k_ hk))
    (case aO => exact (ro HO_6.out))
    (case aS => exact (below_size bw))
    (case aL => have := LMc14.out; omega)
    intro v634 w17 ho hb hg hat
    rw [← Ny633.out] at ho
    replace HO_5 := Aside0.mk (Kd.R_after (ok := (fun _ => True)) (by (with_reducible repeat (first | apply Kd.R_alloc | apply Kd.R_drewN | apply Kd.R_drew)); exact Kd.R_mono HO_5.out (fun _ hk => ⟨trivial, by first | exact hk | exact (by intro a n m c x h; cases a <;> exact h : ∀ (a : Option Addr) (n m c x : Nat), some x ≠ (Value.slice a n c).ownBlock → some x ≠ (Value.slice a m c).ownBlock) _ _ _ _ _ hk⟩)) hg hat)
    replace BK624 := Aside0.mk (blk_grown (g := gb624) (o := .cells #[.slice A0_0 l0_0.length c0_0] 27 (0, 0)) (bo BK624.out) hg (Kd.R_ne HO_6.out BK624.out (by decide)))
    replace HB := Aside0.mk (hb)
    have HO635 := Aside0.mk (ho)
    clear HO_6 ho hb hg hat
    refine hK.out _ _ ?_
    clear hK K
    refine norm_ (a' := ?_) ?_ ?_
    rotate_left
    ·show Act.put _ (some 30) _ = _
     simp only [Act.put, qa, qb, qc, i64_w, i32_w]
     rfl
    refine pa 13 (some 6) #[Y,Y,Y,Y,Y,Y,Y,Y,Y,Y,Y,Y,Y,Y] HT_ ?_
    refine done_ (done_of HT_.out (by kernel_rfl)) ?_
    try go_wp2
    go_roundg k1
    case measure => have := HK1.out; omega
    case rel => exact ⟨(y633), (wrap64 (x7_1 + 1)), rr, H', ⟨by have := HK1.out; omega⟩, ⟨by (with_reducible repeat (first | apply Kd.R_alloc | apply Kd.R_drewN | apply Kd.R_drew)); exact Kd.R_mono HO_5.out (fun _ hk => hk.2)⟩, ⟨ro HO635.out⟩, ⟨bo BK624.out⟩, ⟨bw⟩⟩
   ·replace H := ga H; obtain ⟨t636, A18, H⟩ := H
    obtain rfl := Option.some.inj H
    obtain ⟨Ao19, co19, eo19⟩ := Kd.R_slice HO_5.out
    subst eo19
    obtain ⟨Ao20, co20, eo20⟩ := Kd.R_slice HO_6.out
    subst eo20
    go_wp2_with (first | ((with_reducible refine gate_callee (f := 62) rfl ?_); refine gl (some 32) Try.func62 #[.slice Ao20 x6_1.length co20] ?_; (with_reducible refine (impl_SortList.calls _ _ x6_1 t636 _ ?side1 ?side2 A18.out).mono ?_); (case side1 => exact co (Kd.R_reads' HO_6.out).2.2); (case side2 => exact (Kd.R_reads' HO_6.out).2.1); rintro e w21 ⟨v637, rfl, ho0, hb⟩; refine ⟨_, rfl, ?_⟩; have HO638 := Aside0.mk (Kd.R_lower (Kd.R_new' (Kd.R_new' ho0 (Kd.R_lt (ro HO_5.out))) (Kd.R_lt (ro HO_6.out))) (below_size bw)); replace HO_5 := Aside0.mk (Kd.R_elder' (ro HO_5.out) (Kd.R_base ho0) hb); replace HO_6 := Aside0.mk (Kd.R_elder' (ro HO_6.out) (Kd.R_base ho0) hb); replace BK624 := Aside0.mk (blk_below (g := gb624) (o := .cells #[.slice A0_0 l0_0.length c0_0] 27 (0, 0)) (bo BK624.out) hb); replace HB := Aside0.mk (below_step bw hb); clear hb ho0))
    go_ret
    exact ⟨_, re, by (with_reducible repeat (first | apply Kd.R_alloc | apply Kd.R_drewN | apply Kd.R_drew)); exact Kd.R_mono HO638.out (fun _ hk => trivial), bw⟩

end Go.Proofs.Ytiejmnnnjmmifaa.C
