/- Contracts of functions of the program: impl_ExceedingOf, spec_l2Draw, spec_l2Bent, spec_DrawMaximalOf, spec_DrawIsBelow, spec_MaximalOf, spec_ExceedingOf, impl_IsBelow, spec_IsBelow. -/
import Derived.Test.YtkfplkdchkmgbaaC0
import Derived.Test.YtkfplkdchkmgbaaC1
import Derived.Test.YtkfplkdchkmgbaaC3
import Derived.Test.YtkfplkdchkmgbaaC6
import Derived.Test.YtkfplkdchkmgbaaC9
import Derived.Test.YtkfplkdchkmgbaaC13
import Derived.Test.YtkfplkdchkmgbaaC20
import Derived.Test.YtkfplkdchkmgbaaC21
import Derived.Test.YtkfplkdchkmgbaaC35
namespace Go.Proofs.Ytkfplkdchkmgbaa.C
open Go.RowKit Go.Proofs.YtkfplkdchkmgbaaW.PrintWords Go.Proofs.YtkfplkdchkmgbaaW.PrintLast Go.Proofs.YtkfplkdchkmgbaaW.PrintMore
attribute [local go_sem] max2_int min2_int max_two min_two max_three min_three max_four min_four
set_option linter.unusedVariables false
set_option linter.unusedSimpArgs false

/-! ### impl_ExceedingOf: function 119 -/
def impl_ExceedingOf.l0 : Nat → Int → List Int → List Int → Int → Int → Option (List Int)
 | 0, _, _, _, _, _ => none
 | k + 1, x1, x6, x18, x19, x20 => if x20 < x19 then (if 0 ≤ x20 then (if x20 < (x18.length : Int) then (if x6.length < 17592186044416 then (impl_ExceedingOf.l0 k x1 (x6 ++ [wrap64 ((rd x18 x20) - x1)]) x18 x19 (wrap64 (x20 + 1))) else (none)) else (none)) else (none)) else (some x6)
def impl_ExceedingOf.f (k : Nat) (l0_0 : List Int) (a1 : Int) : Option (List Int) := (impl_AperySet.f k l0_0 a1).bind fun t1444 => (if (t1444.length : Int) = 0 then (some ([] : List Int)) else ((impl_MaximalOf.f k l0_0 t1444).bind fun t1450 => (impl_ExceedingOf.l0 k a1 (([] : List Int)) t1450 (t1450.length : Int) 0)))
set_option maxHeartbeats 8000000 in
set_option maxRecDepth 100000 in
theorem impl_ExceedingOf.calls (k : Nat) (A0_0 : Option Addr) (c0_0 : Nat) (l0_0 : List Int) (a1 : Int) (r : List Int) (w : World) (hr0_0 : Kd.C (Kd.int .i64) w A0_0 l0_0.length l0_0) (hc0_0 : l0_0.length ≤ c0_0) (h : impl_ExceedingOf.f k l0_0 a1 = some r) :
  Calls Try.prog 119 #[.agg #[.slice A0_0 l0_0.length c0_0], .int .i64 a1] w fun e w' => ∃ v0_ : Value, e = .returned (v0_) ∧ Kd.R (Kd.int .i64) 3 w' w.heap.size (fun _ => True) v0_ r ∧ Below w.heap.size w w' := by
 have hu26 := Try.underlying26
 have HR0_0 := am hr0_0
 have HC0_0 := am hc0_0
 clear hr0_0 hc0_0
 have HB := am (Below.refl w.heap.size w)
 have H : ((impl_AperySet.f k l0_0 a1).bind fun t1444 => (if (t1444.length : Int) = 0 then (some ([] : List Int)) else ((impl_MaximalOf.f k l0_0 t1444).bind fun t1450 => (impl_ExceedingOf.l0 k a1 (([] : List Int)) t1450 (t1450.length : Int) 0)))) = some r := h
 clear h
 replace H := ga H; obtain ⟨t1444, A3, H⟩ := H
 by_cases c4 : (t1444.length : Int) = 0
 ·rw [if_pos c4] at H
  have c4b0 : ((t1444.length : Int) == 0) = true := beq_iff_eq.mpr c4
  have c4b1 : ((t1444.length : Int) != 0) = false := bne_eq_false_iff_eq.mpr c4
  clear c4
  obtain rfl := Option.some.inj H
  go_enter Try.func119, Try.ntmps119
  go_wp2_with (first | ((with_reducible refine gate_dst (N := 2) rfl ?_); refine bx 2 #[.slice A0_0 l0_0.length c0_0] 26 ?_; intro gb1443 hg w5 hbox hb; have BK1443 := am (hbox); have GW1443 := am (gs hg : w.heap.size ≤ gb1443); have GE1443 := GW1443; replace HB := am (below_step bw hb); clear hb hbox hg; have hcz6_0 := bc BK1443 0 (.slice A0_0 l0_0.length c0_0); have hfz6_0 := blk_frozen BK1443.out 0) | ((with_reducible refine gate_callee (f := 133) rfl ?_); refine gl (some 11) Try.func133 #[.agg #[.slice A0_0 l0_0.length c0_0], .int .i64 a1] ?_; (with_reducible refine (impl_AperySet.calls k _ _ l0_0 a1 t1444 _ ?side1 ?side2 A3.out).mono ?_); (case side1 => exact co (Kd.C_below HR0_0.out HB.out)); (case side2 => exact HC0_0.out); rintro e w7 ⟨v1445, rfl, ho0, hb⟩; refine ⟨_, rfl, ?_⟩; have HO1446 := am (Kd.R_lower ho0 (below_size bw)); replace BK1443 := kb BK1443 hb; replace HB := am (below_step bw hb); clear hb ho0; obtain ⟨Ao8, co8, eo8⟩ := Kd.R_slice HO1446.out; subst eo8))
  go_ret
  exact ⟨_, re, by first | exact Kd.R_nil _ _ _ _ _ | exact Kd.N_nil _ _ _ _ _ | exact Kd.V_nil _ _ _ _ _ | exact Kd.Q_nil _ _ _ _ _ | exact Kd.S_nil _ _ _ _ _, bw⟩
 ·rw [if_neg c4] at H
  have c4b0 : ((t1444.length : Int) == 0) = false := beq_eq_false_iff_ne.mpr c4
  have c4b1 : ((t1444.length : Int) != 0) = true := bne_iff_ne.mpr c4
  have c4b2 : ¬ (t1444 = []) := fun h_ => c4 (by rw [h_]; rfl)
  obtain ⟨y1447, hy1447⟩ : ∃ y_ : List Int, y_ = (([] : List Int)) := ⟨_, rfl⟩
  replace H : ((impl_MaximalOf.f k l0_0 t1444).bind fun t1450 => (impl_ExceedingOf.l0 k a1 y1447 t1450 (t1450.length : Int) 0)) = some r := by first | (rw [hy1447]; with_reducible exact H) | (have H2_ := (Option.bind_some _ _).symm.trans H; rw [hy1447]; with_reducible exact H2_) | (have H2_ := (Option.bind_some _ _).symm.trans H; with_reducible exact H2_) | with_reducible exact H | (rw [hy1447]; exact H) | exact H
  have Ny1447 := am hy1447
  clear hy1447
  replace H := ga H; obtain ⟨t1450, A9, H⟩ := H
  have H' := am H
  clear H
  go_enter Try.func119, Try.ntmps119
  go_wp2_with (first | ((with_reducible refine gate_dst (N := 2) rfl ?_); refine bx 2 #[.slice A0_0 l0_0.length c0_0] 26 ?_; intro gb1443 hg w10 hbox hb; have BK1443 := am (hbox); have GW1443 := am (gs hg : w.heap.size ≤ gb1443); have GE1443 := GW1443; replace HB := am (below_step bw hb); clear hb hbox hg; have hcz11_0 := bc BK1443 0 (.slice A0_0 l0_0.length c0_0); have hfz11_0 := blk_frozen BK1443.out 0) | ((with_reducible refine gate_callee (f := 133) rfl ?_); refine gl (some 11) Try.func133 #[.agg #[.slice A0_0 l0_0.length c0_0], .int .i64 a1] ?_; (with_reducible refine (impl_AperySet.calls k _ _ l0_0 a1 t1444 _ ?side1 ?side2 A3.out).mono ?_); (case side1 => exact co (Kd.C_below HR0_0.out HB.out)); (case side2 => exact HC0_0.out); rintro e w12 ⟨v1445, rfl, ho0, hb⟩; refine ⟨_, rfl, ?_⟩; have HO1446 := am (Kd.R_lower ho0 (below_size bw)); replace BK1443 := kb BK1443 hb; replace HB := am (below_step bw hb); clear hb ho0; obtain ⟨Ao13, co13, eo13⟩ := Kd.R_slice HO1446.out; subst eo13) | ((with_reducible refine gate_dst (N := 15) rfl ?_); refine Kd.R_lit (Kd.int .i64) _ 3 ?hg (N := 15) ?hd (xs := ([] : List Int)) (inner := []) (ok := fun _ => True) (okp := fun _ => True) ?hr ?hp (fun _ hk => hk) trivial (Below.refl _ _) (Nat.le_refl _) (by simp) ?_; (case hd => rfl); (case hg => rfl); (case hr => first | (go_simp; done) | (go_simp; rfl)); (case hp => exact (Reps.none _ _)); intro v1448 w14 ho15 hb hg_ hnew_; clear hg_ hnew_; (first | rw [← Ny1447.out] at ho15 | (simp only [Int.reduceToNat] at ho15; rw [← Ny1447.out] at ho15)); have HO1449 := am (Kd.R_lower (Kd.R_new' ho15 (Kd.R_lt (ro HO1446.out))) (below_size bw)); replace HO1446 := am (Kd.R_elder' (ro HO1446.out) (Kd.R_base ho15) hb); replace BK1443 := kb BK1443 hb; replace HB := am (below_step bw hb); clear hb ho15; have hcz16_0 := bc BK1443 0 (.slice A0_0 l0_0.length c0_0); have hfz16_0 := blk_frozen BK1443.out 0) | ((with_reducible refine gate_callee (f := 121) rfl ?_); refine gl (some 18) Try.func121 #[.agg #[.slice A0_0 l0_0.length c0_0], .slice Ao13 t1444.length co13] ?_; (with_reducible refine (impl_MaximalOf.calls k _ _ l0_0 _ _ t1444 t1450 _ ?side1 ?side2 ?side3 ?side4 A9.out).mono ?_); (case side1 => exact co (Kd.C_below HR0_0.out HB.out)); (case side2 => exact HC0_0.out); (case side3 => exact co (Kd.R_reads' HO1446.out).2.2); (case side4 => exact (Kd.R_reads' HO1446.out).2.1); rintro e w17 ⟨v1451, rfl, ho0, hb⟩; refine ⟨_, rfl, ?_⟩; have HO1452 := am (Kd.R_lower (Kd.R_new' (Kd.R_new' ho0 (Kd.R_lt (ro HO1446.out))) (Kd.R_lt (ro HO1449.out))) (below_size bw)); replace HO1446 := am (Kd.R_elder' (ro HO1446.out) (Kd.R_base ho0) hb); replace HO1449 := am (Kd.R_elder' (ro HO1449.out) (Kd.R_base ho0) hb); replace BK1443 := kb BK1443 hb; replace HB := am (below_step bw hb); clear hb ho0; obtain ⟨Ao18, co18, eo18⟩ := Kd.R_slice HO1452.out; subst eo18))
  go_loopg [6, 20] k (fun kq v6 v20 w' => ∃ (x6_1 : List Int) (x20_1 : Int), v20 = .int .i64 x20_1 ∧ Aside0 (impl_ExceedingOf.l0 kq a1 x6_1 t1450 (t1450.length : Int) x20_1 = some r) ∧ Aside0 (kq ≤ k) ∧ Aside0 (Kd.R (Kd.int .i64) 3 w' w.heap.size (fun k_ => some k_ ≠ ((.slice Ao18 t1450.length co18) : Value).ownBlock) v6 x6_1) ∧ Aside0 (Kd.R (Kd.int .i64) 3 w' w.heap.size (fun k_ => some k_ ≠ (v6 : Value).ownBlock) (.slice Ao18 t1450.length co18) t1450) ∧ Aside0 (w'.heap[gb1443]? = some (.cells #[(.slice A0_0 l0_0.length c0_0)] 26 (0, 0))) ∧ Aside0 (Below w.heap.size w w'))
  case atStart => exact ⟨(y1447), (0), rr, H', ⟨Nat.le_refl _⟩, ⟨by (with_reducible repeat (first | apply Kd.R_alloc | apply Kd.R_drewN | apply Kd.R_drew)); exact Kd.R_mono HO1449.out (fun _ hk => hk.2)⟩, ⟨by (with_reducible repeat (first | apply Kd.R_alloc | apply Kd.R_drewN | apply Kd.R_drew)); exact Kd.R_mono HO1452.out (fun _ hk => hk.2)⟩, ⟨bo BK1443.out⟩, ⟨bw⟩⟩
  case round =>
   clear H'
   try clear c4; try clear c4b0; try clear c4b1; try clear c4b2; try clear hcz11_0; try clear hcz16_0; try clear hcz6_0; try clear hfz11_0; try clear hfz16_0; try clear hfz6_0
   obtain ⟨x6_1, x20_1, rfl, HA, HK1, HO_6, HO_18, BK1443, HB⟩ := hrel
   cases gk with
   | zero => exact absurd HA.out (by simp [impl_ExceedingOf.l0])
   | succ k1 =>
    have H := HA.out
    clear HA
    simp only [impl_ExceedingOf.l0] at H
    replace H := gi H; obtain ⟨c19b0, H⟩ | ⟨c19b0, H⟩ := H
    ·replace H := gd H; obtain ⟨c20b0, H⟩ := H
     replace H := gd H; obtain ⟨c21b0, H⟩ := H
     by_cases c22 : x6_1.length < 17592186044416
     rotate_left
     ·rw [if_neg c22] at H
      exact absurd H (by simp)
     rw [if_pos c22] at H
     have LMc22 := am c22
     clear c22
     obtain ⟨y1454, hy1454⟩ : ∃ y_ : List Int, y_ = (x6_1 ++ [wrap64 ((rd t1450 x20_1) - a1)]) := ⟨_, rfl⟩
     replace H : (impl_ExceedingOf.l0 k1 a1 y1454 t1450 (t1450.length : Int) (wrap64 (x20_1 + 1))) = some r := by first | (rw [hy1454]; with_reducible exact H) | (have H2_ := (Option.bind_some _ _).symm.trans H; rw [hy1454]; with_reducible exact H2_) | (have H2_ := (Option.bind_some _ _).symm.trans H; with_reducible exact H2_) | with_reducible exact H | (rw [hy1454]; exact H) | exact H
     have Ny1454 := am hy1454
     clear hy1454
     have H' := am H
     clear H
     obtain ⟨⟨ad1453, e1453, hx1453_0⟩, p1453, q1453⟩ := pq (Kd.at_int (Kd.R_reads' HO_18.out).2.2 x20_1)
     cases e1453
     go_wp2_with (first | ((with_reducible refine gate_builtin (b := .append) (xs := #[.tmp 24, .tmp 28]) rfl ?_); at_builtin; refine Kd.R_append (Kd.int .i64) (w0 := w) w.heap.size rfl (.tmp 24) (.tmp 28) 24 3 (.int .i64 0) 8 rfl Try.underlying24 info3 rfl (by decide) (by omega) u6 x6_1 (wrap64 ((rd t1450 x20_1) - a1)) [.int .i64 (wrap64 ((rd t1450 x20_1) - a1))] (fun k_ => some k_ ≠ (.slice (some ad1453) t1450.length co18 : Value).ownBlock) (fun _ => False) rfl rfl ?aP (fun _ hk => hk.elim) ?aF ?aO ?aB ?aS ?aL ?_; (case aP => exact rfl); (case aB => exact bw); (case aF => exact (fun k_ hk => Kd.fresh' (Kd.R_lt (ro HO_18.out)) k_ hk)); (case aO => exact (ro HO_6.out)); (case aS => exact (below_size bw)); (case aL => have := LMc22.out; omega); intro v1455 w23 ho hb hg hat; rw [← Ny1454.out] at ho; replace HO_18 := am (Kd.R_after (ok := (fun _ => True)) (by (with_reducible repeat (first | apply Kd.R_alloc | apply Kd.R_drewN | apply Kd.R_drew)); exact Kd.R_mono HO_18.out (fun _ hk => ⟨trivial, by first | exact hk | exact (by intro a n m c x h; cases a <;> exact h : ∀ (a : Option Addr) (n m c x : Nat), some x ≠ (Value.slice a n c).ownBlock → some x ≠ (Value.slice a m c).ownBlock) _ _ _ _ _ hk⟩)) hg hat); replace BK1443 := am (blk_grown (g := gb1443) (o := .cells #[.slice A0_0 l0_0.length c0_0] 26 (0, 0)) (bo BK1443.out) hg (Kd.R_ne HO_6.out BK1443.out (by decide))); replace HB := am (hb); have HO1456 := am (ho); clear HO_6 ho hb hg hat))
     go_roundg k1
     case measure => have := HK1.out; omega
     case rel => exact ⟨(y1454), (wrap64 (x20_1 + 1)), rr, H', ⟨by have := HK1.out; omega⟩, ⟨ro HO1456.out⟩, ⟨by (with_reducible repeat (first | apply Kd.R_alloc | apply Kd.R_drewN | apply Kd.R_drew)); exact Kd.R_mono HO_18.out (fun _ hk => hk.2)⟩, ⟨bo BK1443.out⟩, ⟨bw⟩⟩
    ·obtain rfl := Option.some.inj H
     go_wp2
     go_ret
     exact ⟨_, re, by (with_reducible repeat (first | apply Kd.R_alloc | apply Kd.R_drewN | apply Kd.R_drew)); exact Kd.R_mono HO_6.out (fun _ hk => trivial), bw⟩


/-! ### spec_l2Draw: function 162 -/
def spec_l2Draw.l0 : Nat → List Int → Int → Int → List Int → Int → Int → Option (List Int × Int × Int)
 | 0, _, _, _, _, _, _ => none
 | k + 1, x3, x4, x5, x1000, x1001, x1002 => if x5 < x4 then ((spec_l1Below.f x1000 x1001 x1002 25).bind fun bt1463 => (if x3.length < 17592186044416 then (spec_l2Draw.l0 k (x3 ++ [wrap64 (bt1463.1 - 4)]) x4 (wrap64 (x5 + 1)) x1000 bt1463.2.1 bt1463.2.2) else (none))) else (some (x3, x1001, x1002))
def spec_l2Draw.f (k : Nat) (s0_0 : List Int) (s0_1 : Int) (s0_2 : Int) : Option (List Int × Int × Int) := (spec_l1Below.f s0_0 s0_1 s0_2 6).bind fun bt1460 => (spec_l2Draw.l0 k (([] : List Int)) bt1460.1 0 s0_0 bt1460.2.1 bt1460.2.2)
set_option maxHeartbeats 8000000 in
set_option maxRecDepth 100000 in
theorem spec_l2Draw.calls (k : Nat) (g : Nat) (s0_0 : List Int) (s0_1 : Int) (s0_2 : Int) (r1 : List Int) (r2 : Int) (r3 : Int) (w0 w : World) (hI : IsS132 w0 w g s0_0 s0_1 s0_2) (hB : Below w0.heap.size w0 w) (h : spec_l2Draw.f k s0_0 s0_1 s0_2 = some (r1, r2, r3)) :
  Calls Try.prog 162 #[.pointer (some ⟨g, 0, none⟩)] w fun e w' => ∃ v0_ : Value, e = .returned (v0_) ∧ Kd.R (Kd.int .i64) 3 w' w.heap.size (fun _ => True) v0_ r1 ∧ IsS132 w0 w' g s0_0 r2 r3 ∧ Below w0.heap.size w0 w' ∧ KeepBut w w' g none := by
 have HI0 := am hI
 have HK := am (KeepBut.refl w g none)
 have HL := am hB.size
 clear hI
 have HW0 := am hB.size
 have HB := am hB
 clear hB
 have H : ((spec_l1Below.f s0_0 s0_1 s0_2 6).bind fun bt1460 => (spec_l2Draw.l0 k (([] : List Int)) bt1460.1 0 s0_0 bt1460.2.1 bt1460.2.2)) = some (r1, r2, r3) := h
 clear h
 obtain ⟨y1457, hy1457⟩ : ∃ y_ : List Int, y_ = (([] : List Int)) := ⟨_, rfl⟩
 replace H : ((spec_l1Below.f s0_0 s0_1 s0_2 6).bind fun bt1460 => (spec_l2Draw.l0 k y1457 bt1460.1 0 s0_0 bt1460.2.1 bt1460.2.2)) = some (r1, r2, r3) := by first | (rw [hy1457]; with_reducible exact H) | (have H2_ := (Option.bind_some _ _).symm.trans H; rw [hy1457]; with_reducible exact H2_) | (have H2_ := (Option.bind_some _ _).symm.trans H; with_reducible exact H2_) | with_reducible exact H | (rw [hy1457]; exact H) | exact H
 have Ny1457 := am hy1457
 clear hy1457
 replace H := ga H; obtain ⟨⟨t1460, t1461, t1462⟩, A2, H⟩ := H
 replace H : (spec_l2Draw.l0 k y1457 t1460 0 s0_0 t1461 t1462) = some (r1, r2, r3) := H
 have H' := am H
 clear H
 go_enter Try.func162, Try.ntmps162
 go_wp2_with (first | ((with_reducible refine gate_dst (N := 6) rfl ?_); refine Kd.R_lit (Kd.int .i64) _ 3 ?hg (N := 6) ?hd (xs := ([] : List Int)) (inner := []) (ok := fun _ => True) (okp := fun _ => True) ?hr ?hp (fun _ hk => hk) trivial (Below.refl _ _) (Nat.le_refl _) (by simp) ?_; (case hd => rfl); (case hg => rfl); (case hr => first | (go_simp; done) | (go_simp; rfl)); (case hp => exact (Reps.none _ _)); intro v1458 w3 ho4 hb hg_ hnew_; clear hg_ hnew_; (first | rw [← Ny1457.out] at ho4 | (simp only [Int.reduceToNat] at ho4; rw [← Ny1457.out] at ho4)); have HO1459 := am (Kd.R_lower ho4 (keep_size (w := w) (g := g) (row := none) (by repeat (first | (with_reducible first | exact HK.out | apply KeepBut.set_ | apply keep_drewN | apply keep_drew | apply keep_alloc) | exact HK.out)))); replace HK := am (KeepBut.trans (by repeat (first | (with_reducible first | exact HK.out | apply KeepBut.set_ | apply keep_drewN | apply keep_drew | apply keep_alloc) | exact HK.out)) (KeepBut.of_below hb g none) (.inl rfl)); replace HB := am (below_step bv hb); replace HI0 := am (IsS132.below (iw HI0.out) hb); clear hb ho4) | ((with_reducible refine gate_callee (f := 156) rfl ?_); refine gl (some 8) Try.func156 #[.pointer (some ⟨g, 0, none⟩), .int .i64 6] ?_; (with_reducible refine (spec_l1Below.calls g s0_0 s0_1 s0_2 6 t1460 t1461 t1462 w0 _ ?side1 ?side2 A2.out).mono ?_); (case side1 => exact iw HI0.out); (case side2 => exact bv); rintro e w5 ⟨rfl, hi, hb, hk⟩; refine ⟨_, rfl, ?_⟩; replace HO1459 := am (Kd.R_mono (Kd.R_keep (IsS132.apart (show IsS132 w0 _ g s0_0 s0_1 s0_2 from (iw HI0.out)) (ro HO1459.out) (by decide)) hk (fun _ h => h.2)) (fun _ h => h.1)); replace HK := am (KeepBut.trans (by repeat (first | (with_reducible first | exact HK.out | apply KeepBut.set_ | apply keep_drewN | apply keep_drew | apply keep_alloc) | exact HK.out)) hk (.inl rfl)); replace HB := am (hb); replace HI0 := am (hi); clear hb hk hi))
 go_loopg [3, 5] k (fun kq v3 v5 w' => ∃ (x3_1 : List Int) (x5_1 : Int) (x1001_1 : Int) (x1002_1 : Int), v5 = .int .i64 x5_1 ∧ Aside0 (spec_l2Draw.l0 kq x3_1 t1460 x5_1 s0_0 x1001_1 x1002_1 = some (r1, r2, r3)) ∧ Aside0 (kq ≤ k) ∧ Aside0 (Kd.R (Kd.int .i64) 3 w' w.heap.size (fun _ => True) v3 x3_1) ∧ Aside0 (IsS132 w0 w' g s0_0 x1001_1 x1002_1) ∧ Aside0 (KeepBut w w' g none) ∧ Aside0 (Below w0.heap.size w0 w'))
 case atStart => exact ⟨(y1457), (0), (t1461), (t1462), rr, H', ⟨Nat.le_refl _⟩, ⟨ro HO1459.out⟩, ⟨(iw HI0.out)⟩, ⟨by repeat (first | (with_reducible first | exact HK.out | apply KeepBut.set_ | apply keep_drewN | apply keep_drew | apply keep_alloc) | exact HK.out)⟩, ⟨bv⟩⟩
 case round =>
  clear H'
  obtain ⟨x3_1, x5_1, x1001_1, x1002_1, rfl, HA, HK1, HO_3, HI0, HK, HB⟩ := hrel
  cases gk with
  | zero => exact absurd HA.out (by simp [spec_l2Draw.l0])
  | succ k1 =>
   have H := HA.out
   clear HA
   simp only [spec_l2Draw.l0] at H
   replace H := gi H; obtain ⟨c6b0, H⟩ | ⟨c6b0, H⟩ := H
   ·replace H := ga H; obtain ⟨⟨t1463, t1464, t1465⟩, A7, H⟩ := H
    replace H : (if x3_1.length < 17592186044416 then (spec_l2Draw.l0 k1 (x3_1 ++ [wrap64 (t1463 - 4)]) t1460 (wrap64 (x5_1 + 1)) s0_0 t1464 t1465) else (none)) = some (r1, r2, r3) := H
    by_cases c8 : x3_1.length < 17592186044416
    rotate_left
    ·rw [if_neg c8] at H
     exact absurd H (by simp)
    rw [if_pos c8] at H
    have LMc8 := am c8
    clear c8
    obtain ⟨y1466, hy1466⟩ : ∃ y_ : List Int, y_ = (x3_1 ++ [wrap64 (t1463 - 4)]) := ⟨_, rfl⟩
    replace H : (spec_l2Draw.l0 k1 y1466 t1460 (wrap64 (x5_1 + 1)) s0_0 t1464 t1465) = some (r1, r2, r3) := by first | (rw [hy1466]; with_reducible exact H) | (have H2_ := (Option.bind_some _ _).symm.trans H; rw [hy1466]; with_reducible exact H2_) | (have H2_ := (Option.bind_some _ _).symm.trans H; with_reducible exact H2_) | with_reducible exact H | (rw [hy1466]; exact H) | exact H
    have Ny1466 := am hy1466
    clear hy1466
    have H' := am H
    clear H
    go_wp2_with (first | ((with_reducible refine gate_callee (f := 156) rfl ?_); refine gl (some 16) Try.func156 #[.pointer (some ⟨g, 0, none⟩), .int .i64 25] ?_; (with_reducible refine (spec_l1Below.calls g s0_0 x1001_1 x1002_1 25 t1463 t1464 t1465 w0 _ ?side1 ?side2 A7.out).mono ?_); (case side1 => exact iw HI0.out); (case side2 => exact bv); rintro e w9 ⟨rfl, hi, hb, hk⟩; refine ⟨_, rfl, ?_⟩; replace HO_3 := am (Kd.R_mono (Kd.R_keep (IsS132.apart (show IsS132 w0 _ g s0_0 x1001_1 x1002_1 from (iw HI0.out)) (ro HO_3.out) (by decide)) hk (fun _ h => h.2)) (fun _ h => h.1)); replace HK := am (KeepBut.trans (by repeat (first | (with_reducible first | exact HK.out | apply KeepBut.set_ | apply keep_drewN | apply keep_drew | apply keep_alloc) | exact HK.out)) hk (.inl rfl)); replace HB := am (hb); replace HI0 := am (hi); clear hb hk hi) | ((with_reducible refine gate_builtin (b := .append) (xs := #[.tmp 14, .tmp 18]) rfl ?_); at_builtin; refine Kd.R_append (Kd.int .i64) w.heap.size rfl (.tmp 14) (.tmp 18) 24 3 (.int .i64 0) 8 rfl Try.underlying24 info3 rfl (by decide) (by omega) u3 x3_1 (wrap64 (t1463 - 4)) [.int .i64 (wrap64 (t1463 - 4))] (fun _ => True) (fun _ => False) rfl rfl ?aP (fun _ hk => hk.elim) ?aF ?aO (Below.refl _ _) ?aS ?aL ?_; (case aP => exact rfl); (case aF => exact (fun _ _ => trivial)); (case aO => exact (ro HO_3.out)); (case aS => exact (keep_size (w := w) (g := g) (row := none) (by repeat (first | (with_reducible first | exact HK.out | apply KeepBut.set_ | apply keep_drewN | apply keep_drew | apply keep_alloc) | exact HK.out)))); (case aL => have := LMc8.out; omega); intro v1467 w10 ho hb hg hat; rw [← Ny1466.out] at ho; replace HB := am (below_weaken bv HL.out hb); replace HI0 := am (IsS132.grown (iw HI0.out) hg (IsS132.own_ne HI0.out HO_3.out (by decide))); replace HK := am (KeepBut.trans (by repeat (first | (with_reducible first | exact HK.out | apply KeepBut.set_ | apply keep_drewN | apply keep_drew | apply keep_alloc) | exact HK.out)) (KeepBut.of_grown hg g) (Kd.R_base2 HO_3.out)); have HO1468 := am (ho); clear HO_3 ho hb hg hat))
    go_roundg k1
    case measure => have := HK1.out; omega
    case rel => exact ⟨(y1466), (wrap64 (x5_1 + 1)), (t1464), (t1465), rr, H', ⟨by have := HK1.out; omega⟩, ⟨ro HO1468.out⟩, ⟨(iw HI0.out)⟩, ⟨by repeat (first | (with_reducible first | exact HK.out | apply KeepBut.set_ | apply keep_drewN | apply keep_drew | apply keep_alloc) | exact HK.out)⟩, ⟨bv⟩⟩
   ·simp only [Option.some.injEq, Prod.mk.injEq] at H
    obtain ⟨rfl, rfl, rfl⟩ := H
    go_wp2
    go_ret
    exact ⟨_, re, ro HO_3.out, (iw HI0.out), bv, by repeat (first | (with_reducible first | exact HK.out | apply KeepBut.set_ | apply keep_drewN | apply keep_drew | apply keep_alloc) | exact HK.out)⟩


/-! ### spec_l2Bent: function 161 -/
def spec_l2Bent.f (k : Nat) (s0_0 : List Int) (s0_1 : Int) (s0_2 : Int) : Option (List Int × Int × Int) := (spec_l2Draw.f k s0_0 s0_1 s0_2).bind fun bt1469 => ((spec_l1Once.f s0_0 bt1469.2.1 bt1469.2.2 8).bind fun bt1474 => (if bt1474.1 = true then ((spec_l1PickInt.f s0_0 bt1474.2.1 bt1474.2.2 (([1000000, 1000001, (-1000001), (-9223372036854775808)] : List Int))).bind fun bt1480 => (if bt1469.1.length < 17592186044416 then (some ((bt1469.1 ++ [bt1480.1]), bt1480.2.1, bt1480.2.2)) else (none))) else (some (bt1469.1, bt1474.2.1, bt1474.2.2))))
set_option maxHeartbeats 8000000 in
set_option maxRecDepth 100000 in
theorem spec_l2Bent.calls (k : Nat) (g : Nat) (s0_0 : List Int) (s0_1 : Int) (s0_2 : Int) (r1 : List Int) (r2 : Int) (r3 : Int) (w0 w : World) (hI : IsS132 w0 w g s0_0 s0_1 s0_2) (hB : Below w0.heap.size w0 w) (h : spec_l2Bent.f k s0_0 s0_1 s0_2 = some (r1, r2, r3)) :
  Calls Try.prog 161 #[.pointer (some ⟨g, 0, none⟩)] w fun e w' => ∃ v0_ : Value, e = .returned (v0_) ∧ Kd.R (Kd.int .i64) 3 w' w.heap.size (fun _ => True) v0_ r1 ∧ IsS132 w0 w' g s0_0 r2 r3 ∧ Below w0.heap.size w0 w' ∧ KeepBut w w' g none := by
 have HI0 := am hI
 have HK := am (KeepBut.refl w g none)
 have HL := am hB.size
 clear hI
 have HW0 := am hB.size
 have HB := am hB
 clear hB
 have H : ((spec_l2Draw.f k s0_0 s0_1 s0_2).bind fun bt1469 => ((spec_l1Once.f s0_0 bt1469.2.1 bt1469.2.2 8).bind fun bt1474 => (if bt1474.1 = true then ((spec_l1PickInt.f s0_0 bt1474.2.1 bt1474.2.2 (([1000000, 1000001, (-1000001), (-9223372036854775808)] : List Int))).bind fun bt1480 => (if bt1469.1.length < 17592186044416 then (some ((bt1469.1 ++ [bt1480.1]), bt1480.2.1, bt1480.2.2)) else (none))) else (some (bt1469.1, bt1474.2.1, bt1474.2.2))))) = some (r1, r2, r3) := h
 clear h
 replace H := ga H; obtain ⟨⟨t1469, t1472, t1473⟩, A2, H⟩ := H
 replace H : ((spec_l1Once.f s0_0 t1472 t1473 8).bind fun bt1474 => (if bt1474.1 = true then ((spec_l1PickInt.f s0_0 bt1474.2.1 bt1474.2.2 (([1000000, 1000001, (-1000001), (-9223372036854775808)] : List Int))).bind fun bt1480 => (if t1469.length < 17592186044416 then (some ((t1469 ++ [bt1480.1]), bt1480.2.1, bt1480.2.2)) else (none))) else (some (t1469, bt1474.2.1, bt1474.2.2)))) = some (r1, r2, r3) := H
 replace H := ga H; obtain ⟨⟨t1474, t1475, t1476⟩, A3, H⟩ := H
 replace H : (if t1474 = true then ((spec_l1PickInt.f s0_0 t1475 t1476 (([1000000, 1000001, (-1000001), (-9223372036854775808)] : List Int))).bind fun bt1480 => (if t1469.length < 17592186044416 then (some ((t1469 ++ [bt1480.1]), bt1480.2.1, bt1480.2.2)) else (none))) else (some (t1469, t1475, t1476))) = some (r1, r2, r3) := H
 replace H := gb H; obtain ⟨rfl, H⟩ | ⟨rfl, H⟩ := H
 ·obtain ⟨y1477, hy1477⟩ : ∃ y_ : List Int, y_ = (([1000000, 1000001, (-1000001), (-9223372036854775808)] : List Int)) := ⟨_, rfl⟩
  replace H : ((spec_l1PickInt.f s0_0 t1475 t1476 y1477).bind fun bt1480 => (if t1469.length < 17592186044416 then (some ((t1469 ++ [bt1480.1]), bt1480.2.1, bt1480.2.2)) else (none))) = some (r1, r2, r3) := by first | (rw [hy1477]; with_reducible exact H) | (have H2_ := (Option.bind_some _ _).symm.trans H; rw [hy1477]; with_reducible exact H2_) | (have H2_ := (Option.bind_some _ _).symm.trans H; with_reducible exact H2_) | with_reducible exact H | (rw [hy1477]; exact H) | exact H
  have Ny1477 := am hy1477
  clear hy1477
  replace H := ga H; obtain ⟨⟨t1480, t1481, t1482⟩, A5, H⟩ := H
  replace H : (if t1469.length < 17592186044416 then (some ((t1469 ++ [t1480]), t1481, t1482)) else (none)) = some (r1, r2, r3) := H
  by_cases c6 : t1469.length < 17592186044416
  rotate_left
  ·rw [if_neg c6] at H
   exact absurd H (by simp)
  rw [if_pos c6] at H
  have LMc6 := am c6
  clear c6
  obtain ⟨y1483, hy1483⟩ : ∃ y_ : List Int, y_ = (t1469 ++ [t1480]) := ⟨_, rfl⟩
  replace H : (some (y1483, t1481, t1482)) = some (r1, r2, r3) := by first | (rw [hy1483]; with_reducible exact H) | (have H2_ := (Option.bind_some _ _).symm.trans H; rw [hy1483]; with_reducible exact H2_) | (have H2_ := (Option.bind_some _ _).symm.trans H; with_reducible exact H2_) | with_reducible exact H | (rw [hy1483]; exact H) | exact H
  have Ny1483 := am hy1483
  clear hy1483
  simp only [Option.some.injEq, Prod.mk.injEq] at H
  obtain ⟨rfl, rfl, rfl⟩ := H
  go_enter Try.func161, Try.ntmps161
  go_wp2_with (first | ((with_reducible refine gate_callee (f := 162) rfl ?_); refine gl (some 5) Try.func162 #[.pointer (some ⟨g, 0, none⟩)] ?_; (with_reducible refine (spec_l2Draw.calls k g s0_0 s0_1 s0_2 t1469 t1472 t1473 w0 _ ?side1 ?side2 A2.out).mono ?_); (case side1 => exact iw HI0.out); (case side2 => exact bv); rintro e w7 ⟨v1470, rfl, ho0, hi, hb, hk⟩; refine ⟨_, rfl, ?_⟩; have HO1471 := am (Kd.R_lower ho0 (keep_size (w := w) (g := g) (row := none) (by repeat (first | (with_reducible first | exact HK.out | apply KeepBut.set_ | apply keep_drewN | apply keep_drew | apply keep_alloc) | exact HK.out)))); replace HK := am (KeepBut.trans (by repeat (first | (with_reducible first | exact HK.out | apply KeepBut.set_ | apply keep_drewN | apply keep_drew | apply keep_alloc) | exact HK.out)) hk (.inl rfl)); replace HB := am (hb); replace HI0 := am (hi); clear hb hk hi ho0) | ((with_reducible refine gate_callee (f := 163) rfl ?_); refine gl (some 7) Try.func163 #[.pointer (some ⟨g, 0, none⟩), .int .i64 8] ?_; (with_reducible refine (spec_l1Once.calls g s0_0 t1472 t1473 8 true t1475 t1476 w0 _ ?side1 ?side2 A3.out).mono ?_); (case side1 => exact iw HI0.out); (case side2 => exact bv); rintro e w8 ⟨rfl, hi, hb, hk⟩; refine ⟨_, rfl, ?_⟩; replace HO1471 := am (Kd.R_mono (Kd.R_keep (IsS132.apart (show IsS132 w0 _ g s0_0 t1472 t1473 from (iw HI0.out)) (ro HO1471.out) (by decide)) hk (fun _ h => h.2)) (fun _ h => h.1)); replace HK := am (KeepBut.trans (by repeat (first | (with_reducible first | exact HK.out | apply KeepBut.set_ | apply keep_drewN | apply keep_drew | apply keep_alloc) | exact HK.out)) hk (.inl rfl)); replace HB := am (hb); replace HI0 := am (hi); clear hb hk hi) | ((with_reducible refine gate_dst (N := 10) rfl ?_); refine Kd.R_lit (Kd.int .i64) _ 3 ?hg (N := 10) ?hd (xs := ([1000000, 1000001, (-1000001), (-9223372036854775808)] : List Int)) (inner := [.int .i64 1000000, .int .i64 1000001, .int .i64 (-1000001), .int .i64 (-9223372036854775808)]) (ok := fun _ => True) (okp := fun _ => True) ?hr ?hp (fun _ hk => hk) trivial (Below.refl _ _) (Nat.le_refl _) (by simp) ?_; (case hd => rfl); (case hg => rfl); (case hr => first | (go_simp; done) | (go_simp; rfl)); (case hp => exact (Reps.one (show Kd.M (Kd.int .i64) _ _ _ 1000000 [.int .i64 1000000] from rfl) (Reps.one (show Kd.M (Kd.int .i64) _ _ _ 1000001 [.int .i64 1000001] from rfl) (Reps.one (show Kd.M (Kd.int .i64) _ _ _ (-1000001) [.int .i64 (-1000001)] from rfl) (Reps.one (show Kd.M (Kd.int .i64) _ _ _ (-9223372036854775808) [.int .i64 (-9223372036854775808)] from rfl) (Reps.none _ _)))))); intro v1478 w9 ho10 hb hg_ hnew_; clear hg_ hnew_; (first | rw [← Ny1477.out] at ho10 | (simp only [Int.reduceToNat] at ho10; rw [← Ny1477.out] at ho10)); have HO1479 := am (Kd.R_lower (Kd.R_new' ho10 (Kd.R_lt (ro HO1471.out))) (keep_size (w := w) (g := g) (row := none) (by repeat (first | (with_reducible first | exact HK.out | apply KeepBut.set_ | apply keep_drewN | apply keep_drew | apply keep_alloc) | exact HK.out)))); replace HO1471 := am (Kd.R_elder' (ro HO1471.out) (Kd.R_base ho10) hb); replace HK := am (KeepBut.trans (by repeat (first | (with_reducible first | exact HK.out | apply KeepBut.set_ | apply keep_drewN | apply keep_drew | apply keep_alloc) | exact HK.out)) (KeepBut.of_below hb g none) (.inl rfl)); replace HB := am (below_step bv hb); replace HI0 := am (IsS132.below (iw HI0.out) hb); clear hb ho10; obtain ⟨Ao11, co11, eo11⟩ := Kd.R_slice HO1479.out; subst eo11) | ((with_reducible refine gate_callee (f := 150) rfl ?_); refine gl (some 11) Try.func150 #[.pointer (some ⟨g, 0, none⟩), .slice Ao11 y1477.length co11] ?_; (with_reducible refine (spec_l1PickInt.calls g s0_0 t1475 t1476 _ _ y1477 t1480 t1481 t1482 w0 _ ?side1 ?side2 ?side3 ?side4 ?side5 A5.out).mono ?_); (case side1 => exact iw HI0.out); (case side2 => exact bv); (case side3 => exact co (Kd.R_reads' HO1479.out).2.2); (case side4 => exact (Kd.R_reads' HO1479.out).2.1); (case side5 => exact far_slice (IsS132.own_ne HI0.out HO1479.out (by decide))); rintro e w12 ⟨rfl, hi, hb, hk⟩; refine ⟨_, rfl, ?_⟩; replace HO1471 := am (Kd.R_mono (Kd.R_keep (IsS132.apart (show IsS132 w0 _ g s0_0 t1475 t1476 from (iw HI0.out)) (ro HO1471.out) (by decide)) hk (fun _ h => h.2)) (fun _ h => h.1)); replace HO1479 := am (Kd.R_mono (Kd.R_keep (IsS132.apart (show IsS132 w0 _ g s0_0 t1475 t1476 from (iw HI0.out)) (ro HO1479.out) (by decide)) hk (fun _ h => h.2)) (fun _ h => h.1)); replace HK := am (KeepBut.trans (by repeat (first | (with_reducible first | exact HK.out | apply KeepBut.set_ | apply keep_drewN | apply keep_drew | apply keep_alloc) | exact HK.out)) hk (.inl rfl)); replace HB := am (hb); replace HI0 := am (hi); clear hb hk hi) | ((with_reducible refine gate_builtin (b := .append) (xs := #[.tmp 8, .tmp 12]) rfl ?_); at_builtin; refine Kd.R_append (Kd.int .i64) w.heap.size rfl (.tmp 8) (.tmp 12) 24 3 (.int .i64 0) 8 rfl Try.underlying24 info3 rfl (by decide) (by omega) v1470 t1469 t1480 [.int .i64 t1480] (fun k_ => some k_ ≠ (.slice Ao11 y1477.length co11 : Value).ownBlock) (fun _ => False) rfl rfl ?aP (fun _ hk => hk.elim) ?aF ?aO (Below.refl _ _) ?aS ?aL ?_; (case aP => exact rfl); (case aF => exact (fun k_ hk => Kd.fresh' (Kd.R_lt (ro HO1479.out)) k_ hk)); (case aO => exact (by (with_reducible repeat (first | apply Kd.R_alloc | apply Kd.R_drewN | apply Kd.R_drew)); exact Kd.R_mono HO1471.out (fun _ hk => hk.2))); (case aS => exact (keep_size (w := w) (g := g) (row := none) (by repeat (first | (with_reducible first | exact HK.out | apply KeepBut.set_ | apply keep_drewN | apply keep_drew | apply keep_alloc) | exact HK.out)))); (case aL => have := LMc6.out; omega); intro v1484 w13 ho hb hg hat; rw [← Ny1483.out] at ho; replace HO1479 := am (Kd.R_after (ok := (fun _ => True)) (ro HO1479.out) hg hat); replace HB := am (below_weaken bv HL.out hb); replace HI0 := am (IsS132.grown (iw HI0.out) hg (IsS132.own_ne HI0.out HO1471.out (by decide))); replace HK := am (KeepBut.trans (by repeat (first | (with_reducible first | exact HK.out | apply KeepBut.set_ | apply keep_drewN | apply keep_drew | apply keep_alloc) | exact HK.out)) (KeepBut.of_grown hg g) (Kd.R_base2 HO1471.out)); have HO1485 := am (ho); clear HO1471 ho hb hg hat))
  go_ret
  exact ⟨_, re, by (with_reducible repeat (first | apply Kd.R_alloc | apply Kd.R_drewN | apply Kd.R_drew)); exact Kd.R_mono HO1485.out (fun _ hk => trivial), (iw HI0.out), bv, by repeat (first | (with_reducible first | exact HK.out | apply KeepBut.set_ | apply keep_drewN | apply keep_drew | apply keep_alloc) | exact HK.out)⟩
 ·simp only [Option.some.injEq, Prod.mk.injEq] at H
  obtain ⟨rfl, rfl, rfl⟩ := H
  go_enter Try.func161, Try.ntmps161
  go_wp2_with (first | ((with_reducible refine gate_callee (f := 162) rfl ?_); refine gl (some 5) Try.func162 #[.pointer (some ⟨g, 0, none⟩)] ?_; (with_reducible refine (spec_l2Draw.calls k g s0_0 s0_1 s0_2 t1469 t1472 t1473 w0 _ ?side1 ?side2 A2.out).mono ?_); (case side1 => exact iw HI0.out); (case side2 => exact bv); rintro e w14 ⟨v1470, rfl, ho0, hi, hb, hk⟩; refine ⟨_, rfl, ?_⟩; have HO1471 := am (Kd.R_lower ho0 (keep_size (w := w) (g := g) (row := none) (by repeat (first | (with_reducible first | exact HK.out | apply KeepBut.set_ | apply keep_drewN | apply keep_drew | apply keep_alloc) | exact HK.out)))); replace HK := am (KeepBut.trans (by repeat (first | (with_reducible first | exact HK.out | apply KeepBut.set_ | apply keep_drewN | apply keep_drew | apply keep_alloc) | exact HK.out)) hk (.inl rfl)); replace HB := am (hb); replace HI0 := am (hi); clear hb hk hi ho0) | ((with_reducible refine gate_callee (f := 163) rfl ?_); refine gl (some 7) Try.func163 #[.pointer (some ⟨g, 0, none⟩), .int .i64 8] ?_; (with_reducible refine (spec_l1Once.calls g s0_0 t1472 t1473 8 false t1475 t1476 w0 _ ?side1 ?side2 A3.out).mono ?_); (case side1 => exact iw HI0.out); (case side2 => exact bv); rintro e w15 ⟨rfl, hi, hb, hk⟩; refine ⟨_, rfl, ?_⟩; replace HO1471 := am (Kd.R_mono (Kd.R_keep (IsS132.apart (show IsS132 w0 _ g s0_0 t1472 t1473 from (iw HI0.out)) (ro HO1471.out) (by decide)) hk (fun _ h => h.2)) (fun _ h => h.1)); replace HK := am (KeepBut.trans (by repeat (first | (with_reducible first | exact HK.out | apply KeepBut.set_ | apply keep_drewN | apply keep_drew | apply keep_alloc) | exact HK.out)) hk (.inl rfl)); replace HB := am (hb); replace HI0 := am (hi); clear hb hk hi))
  go_ret
  exact ⟨_, re, ro HO1471.out, (iw HI0.out), bv, by repeat (first | (with_reducible first | exact HK.out | apply KeepBut.set_ | apply keep_drewN | apply keep_drew | apply keep_alloc) | exact HK.out)⟩


/-! ### spec_DrawMaximalOf: function 120 -/
def spec_DrawMaximalOf.f (k : Nat) (l0 : List Int) : Option (List Int × List Int) := (spec_l1New.f k l0).bind fun bt1487 => ((spec_l3Bent.f k bt1487.1 bt1487.2.1 bt1487.2.2).bind fun bt1491 => ((spec_l2Bent.f k bt1487.1 bt1491.2.1 bt1491.2.2).bind fun bt1497 => (some (bt1491.1, bt1497.1))))
set_option maxHeartbeats 8000000 in
set_option maxRecDepth 100000 in
theorem spec_DrawMaximalOf.calls (k : Nat) (A0 : Option Addr) (c0 : Nat) (l0 : List Int) (r1 : List Int) (r2 : List Int) (w : World) (hr0 : Kd.C (Kd.int .u8) w A0 l0.length l0) (hc0 : l0.length ≤ c0) (h : spec_DrawMaximalOf.f k l0 = some (r1, r2)) :
  Calls Try.prog 120 #[.slice A0 l0.length c0] w fun e w' => ∃ v0_ v1_ : Value, e = .returned (.tuple #[.agg #[v0_], v1_]) ∧ Kd.Q (Kd.int .i64) 3 w' w.heap.size (fun k_ => some k_ ≠ (v1_ : Value).ownBlock) v0_ r1 ∧ Kd.R (Kd.int .i64) 3 w' w.heap.size (fun k_ => some k_ ≠ (v0_ : Value).ownBlock) v1_ r2 ∧ Below w.heap.size w w' := by
 have hu26 := Try.underlying26
 have HR0 := am hr0
 have HC0 := am hc0
 clear hr0 hc0
 have HB := am (Below.refl w.heap.size w)
 have H : ((spec_l1New.f k l0).bind fun bt1487 => ((spec_l3Bent.f k bt1487.1 bt1487.2.1 bt1487.2.2).bind fun bt1491 => ((spec_l2Bent.f k bt1487.1 bt1491.2.1 bt1491.2.2).bind fun bt1497 => (some (bt1491.1, bt1497.1))))) = some (r1, r2) := h
 clear h
 replace H := ga H; obtain ⟨⟨t1487, t1488, t1489⟩, A2, H⟩ := H
 replace H : ((spec_l3Bent.f k t1487 t1488 t1489).bind fun bt1491 => ((spec_l2Bent.f k t1487 bt1491.2.1 bt1491.2.2).bind fun bt1497 => (some (bt1491.1, bt1497.1)))) = some (r1, r2) := H
 replace H := ga H; obtain ⟨⟨t1491, t1494, t1495⟩, A3, H⟩ := H
 replace H : ((spec_l2Bent.f k t1487 t1494 t1495).bind fun bt1497 => (some (t1491, bt1497.1))) = some (r1, r2) := H
 replace H := ga H; obtain ⟨⟨t1497, t1500, t1501⟩, A4, H⟩ := H
 replace H : (some (t1491, t1497)) = some (r1, r2) := H
 simp only [Option.some.injEq, Prod.mk.injEq] at H
 obtain ⟨rfl, rfl⟩ := H
 go_enter Try.func120, Try.ntmps120
 try go_wp2_with (first | ((with_reducible refine gate_dst (N := 2) rfl ?_); refine bx 2 #[.slice none 0 0] 26 ?_; intro gb1486 hg w5 hbox hb; have BK1486 := am (hbox); have GW1486 := am (gs hg : w.heap.size ≤ gb1486); have GE1486 := GW1486; replace HB := am (below_step bw hb); clear hb hbox hg) | ((with_reducible refine gate_callee (f := 131) rfl ?_); refine gl (some 7) Try.func131 #[.slice A0 l0.length c0] ?_; (with_reducible refine (spec_l1New.calls k _ _ l0 t1487 t1488 t1489 w _ ?side1 ?side2 ?side3 A2.out).mono ?_); (case side1 => exact bw); (case side2 => exact HR0.out); (case side3 => exact HC0.out); rintro e w6 ⟨g1490, rfl, hi, hb, hb2⟩; refine ⟨_, rfl, ?_⟩; replace HB := am (hb); have HI1490 := am (hi); have NB1490_1486 := am (IsS132.ne_blk hi (blk_below (g := gb1486) (o := .cells #[.slice none 0 0] 26 (0, 0)) (bo BK1486.out) hb2) (by decide)); have NB1486_1490 := ns NB1490_1486; replace BK1486 := kb BK1486 hb2; clear hb hb2 hi) | ((with_reducible refine gate_callee (f := 130) rfl ?_); refine gl (some 9) Try.func130 #[.pointer (some ⟨g1490, 0, none⟩)] ?_; (with_reducible refine (spec_l3Bent.calls k g1490 t1487 t1488 t1489 t1491 t1494 t1495 w _ ?side1 ?side2 A3.out).mono ?_); (case side1 => exact iw HI1490.out); (case side2 => exact bv); rintro e w7 ⟨v1492, rfl, ho0, hi, hb, hk⟩; refine ⟨_, rfl, ?_⟩; replace BK1486 := kk hk BK1486 NB1486_1490; have HO1493 := am (Kd.Q_lower ho0 (below_size bv)); replace HB := am (hb); replace HI1490 := am (hi); clear hb hk hi ho0) | ((with_reducible refine gate_dst (N := 5) rfl ?_); refine bx 5 #[.slice none 0 0] 26 ?_; intro gb1496 hg w8 hbox hb; replace HO1493 := am (Kd.Q_below (qo HO1493.out) hb); have BK1496 := am (hbox); have GW1496 := am ((by rw [hg]; exact (below_size bv) : w.heap.size ≤ gb1496)); have GE1496 := GW1496; replace HB := am (below_step bv hb); have NB1486_1496 := nl hg BK1486; have NB1496_1486 := ns NB1486_1496; replace BK1486 := kb BK1486 hb; have NB1490_1496 := am ((by rw [hg]; exact Nat.ne_of_lt (IsS132.lt (show IsS132 w _ g1490 t1487 t1494 t1495 from (iw HI1490.out))) : g1490 ≠ gb1496)); have NB1496_1490 := ns NB1490_1496; replace HI1490 := am (IsS132.below (iw HI1490.out) hb); clear hb hbox hg; obtain ⟨Ao9, co9, eo9, _⟩ := Kd.Q_slice HO1493.out; subst eo9; have hnb10 := NB1496_1486.out; have hnc10 := NB1486_1496.out; have hnb11 := NB1496_1490.out; have hnc11 := NB1490_1496.out; have hcz12_0 := bc BK1496 0 (.slice none 0 0); have hfz12_0 := blk_frozen BK1496.out 0))
 have n0_ : Aside0 (Kd.Q (Kd.int .i64) 3 (w8.setCell ⟨gb1496, 0, none⟩ (.slice Ao9 t1491.length co9)) w.heap.size (fun _ => True) (.slice Ao9 t1491.length co9) t1491) := ⟨by (with_reducible repeat (first | apply Kd.Q_alloc | apply Kd.Q_drewN | apply Kd.Q_drew)); exact Kd.Q_mono (Kd.Q_far (p := ⟨gb1496, 0, none⟩) (Kd.Q_types HO1493.out BK1496.out (by decide)) (fun _ hk => hk.2) (.slice Ao9 t1491.length co9)) (fun _ hk => trivial)⟩
 have n1_ : Aside0 ((w8.setCell ⟨gb1496, 0, none⟩ (.slice Ao9 t1491.length co9)).heap[gb1486]? = some (.cells #[.slice none 0 0] 26 (0, 0))) := ⟨bf BK1486.out⟩
 have n2_ : Aside0 ((w8.setCell ⟨gb1496, 0, none⟩ (.slice Ao9 t1491.length co9)).heap[gb1496]? = some (.cells #[.slice Ao9 t1491.length co9] 26 (0, 0))) := ⟨by (with_reducible repeat (first | refine blk_drewN ?_ _ | refine blk_drew ?_ | refine blk_alloc ?_ _)); refine blk_put (cs := #[.slice none 0 0]) ?_ 0 _ rfl; (with_reducible repeat (first | refine blk_drewN ?_ _ | refine blk_drew ?_ | refine blk_alloc ?_ _)); exact BK1496.out⟩
 have n3_ : Aside0 (IsS132 w (w8.setCell ⟨gb1496, 0, none⟩ (.slice Ao9 t1491.length co9)) g1490 t1487 t1494 t1495) := ⟨(iw HI1490.out)⟩
 have n4_ : Aside0 (Below w.heap.size w (w8.setCell ⟨gb1496, 0, none⟩ (.slice Ao9 t1491.length co9))) := ⟨bv⟩
 (try clear HO1493); (try clear BK1486); (try clear BK1496); (try clear HI1490); (try clear HB)
 generalize (w8.setCell ⟨gb1496, 0, none⟩ (.slice Ao9 t1491.length co9)) = w13 at n0_ n1_ n2_ n3_ n4_ ⊢
 have HO1493 := n0_
 have BK1486 := n1_
 have BK1496 := n2_
 have HI1490 := n3_
 have HB := n4_
 clear n0_ n1_ n2_ n3_ n4_
 replace HO1493 := am (Kd.Q_drew HO1493.out)
 replace BK1486 := am (blk_drew BK1486.out)
 replace BK1496 := am (blk_drew BK1496.out)
 replace HI1490 := am (IsS132.drew HI1490.out)
 replace HB := am (below_drew1 HB.out)
 refine start_ (n := 5) (S := fun w' => w'.cell? ⟨gb1496, 0, none⟩ = some (.slice Ao9 t1491.length co9)) (ds := []) (yz 5 0) (by kernel_rfl) rfl rfl ((blk_cell BK1496.out 0).trans rfl) (fun hHeld => ?_)
 generalize w13.drew = w14 at HO1493 BK1486 BK1496 HI1490 HB hHeld ⊢
 refine pure_ (i := 1) (N := some 11) (v := ?_) (a' := ?_) (yz 5 2) rfl rfl (by kernel_rfl) (fun _ _ _ h => h) (Or.inl ⟨by rfl, ?_⟩) ?_ ?_
 rotate_left
 ·intro w'
  go_simp
  with_reducible rfl
 rotate_left
 ·simp only [Act.put, qa, qb, qc, i64_w, i32_w]
  rfl
 refine take_ (i := 0) (N := some 10) (v := ?_) (a' := ?_) (yz 5 3) rfl rfl (by kernel_rfl) (fun _ _ _ h => h) (Or.inl ⟨by rfl, ?_⟩) hHeld ?_ ?_
 rotate_left
 ·intro w' s0
  go_simp
  with_reducible rfl
 rotate_left
 ·simp only [Act.put, qa, qb, qc, i64_w, i32_w]
  rfl
 refine one_ (i := 2) (N := some 12) (yz 5 7) rfl rfl (by kernel_rfl) (by decide) (fun K hK => ?_)
 refine gm Try.func161 #[.pointer (some ⟨g1490, 0, none⟩)] ?_
 with_reducible refine (spec_l2Bent.calls k g1490 t1487 t1494 t1495 t1497 t1500 t1501 w _ ?side1 ?side2 A4.out).mono ?_
 (case side1 => exact iw HI1490.out)
 (case side2 => exact bv)
 rintro e w15 ⟨v1498, rfl, ho0, hi, hb, hk⟩
 refine ⟨_, rfl, ?_⟩
 replace BK1486 := kk hk BK1486 NB1486_1490
 replace BK1496 := kk hk BK1496 NB1496_1490
 have HO1499 := am (Kd.R_lower (Kd.R_new' ho0 (Kd.Q_lt (qo HO1493.out))) (below_size bv))
 replace HO1493 := am (Kd.Q_mono (Kd.Q_told (Kd.Q_oldK (IsS132.apartQ (show IsS132 w _ g1490 t1487 t1494 t1495 from (iw HI1490.out)) (qo HO1493.out) (by decide)) hk) (Kd.R_base ho0)) (fun _ h_ => h_.1))
 replace HB := am (hb)
 replace HI1490 := am (hi)
 clear hb hk hi ho0
 refine hK.out _ _ ((blk_cell BK1496.out 0).trans rfl) (fun hHeld => ?_)
 clear hK K
 refine norm_ (a' := ?_) ?_ ?_
 rotate_left
 ·show Act.put _ (some 12) _ = _
  simp only [Act.put, qa, qb, qc, i64_w, i32_w]
  rfl
 refine one_ (i := 3) (N := none) (yz 5 15) rfl rfl (by kernel_rfl) (by decide) (fun K hK => ?_)
 have hs16 := bc BK1486 0 (.slice none 0 0)
 have hfs16 := blk_frozen BK1486.out 0
 have hns16_1 := NB1496_1486.out
 have hms16_1 := NB1486_1496.out
 refine skip_ (w1 := ?_) (by rfl) rfl ?_ ?_
 rotate_left
 ·go_simp
  rfl
 refine hK.out _ _ (((cell_far (p := ⟨gb1486, _, none⟩) NB1496_1486.out _).trans (hHeld))) (fun hHeld => ?_)
 clear hK K
 refine pure_ (i := 4) (N := some 3) (v := ?_) (a' := ?_) (yz 5 31) rfl rfl (by kernel_rfl) (fun _ _ _ h => h) (Or.inl ⟨by rfl, ?_⟩) ?_ ?_
 rotate_left
 ·intro w'
  go_simp
  with_reducible rfl
 rotate_left
 ·simp only [Act.put, qa, qb, qc, i64_w, i32_w]
  rfl
 refine done_ (by kernel_rfl) ?_
 try go_wp2
 refine bodyPost_ret (results_ct rfl _ _ gb1486 26 #[.slice Ao9 t1491.length co9] (0, 0) _ rfl (by (with_reducible repeat (first | refine blk_drewN ?_ _ | refine blk_drew ?_ | refine blk_alloc ?_ _)); refine blk_put (cs := #[.slice none 0 0]) ?_ 0 _ rfl; (with_reducible repeat (first | refine blk_drewN ?_ _ | refine blk_drew ?_ | refine blk_alloc ?_ _)); exact BK1486.out) Try.underlying26 rfl (by kernel_rfl)) rfl ?_
 exact ⟨_, _, re, by (with_reducible repeat (first | apply Kd.Q_alloc | apply Kd.Q_drewN | apply Kd.Q_drew)); exact Kd.Q_mono (Kd.Q_far (p := ⟨gb1486, 0, none⟩) (Kd.Q_types HO1493.out BK1486.out (by decide)) (fun _ hk => hk.2) (.slice Ao9 t1491.length co9)) (fun _ hk => by first | exact hk.1.2 | simp_all), by (with_reducible repeat (first | apply Kd.R_alloc | apply Kd.R_drewN | apply Kd.R_drew)); exact Kd.R_mono (Kd.R_far (p := ⟨gb1486, 0, none⟩) (Kd.R_types HO1499.out BK1486.out (by decide)) (fun _ hk => hk.2) (.slice Ao9 t1491.length co9)) (fun _ hk => by first | exact hk.1.2 | simp_all), bv⟩


/-! ### spec_DrawIsBelow: function 123 -/
def spec_DrawIsBelow.f (k : Nat) (l0 : List Int) : Option (List Int × Int × Int) := (spec_l1New.f k l0).bind fun bt1503 => ((spec_l3Bent.f k bt1503.1 bt1503.2.1 bt1503.2.2).bind fun bt1507 => ((spec_l1Below.f bt1503.1 bt1507.2.1 bt1507.2.2 60).bind fun bt1513 => ((spec_l1Below.f bt1503.1 bt1513.2.1 bt1513.2.2 60).bind fun bt1516 => ((spec_l1Below.f bt1503.1 bt1516.2.1 bt1516.2.2 60).bind fun bt1519 => ((spec_l1PickInt.f bt1503.1 bt1519.2.1 bt1519.2.2 (([bt1516.1, wrap64 (bt1519.1 - 10), 1000001] : List Int))).bind fun bt1525 => (some (bt1507.1, wrap64 (bt1513.1 - 20), bt1525.1)))))))
def spec_DrawIsBelow.T4 : Bool × List (List Nat × List Nat) := (true, [([], []), ([], []), ([], []), ([], []), ([3], [3]), ([], []), ([5, 4], [5]), ([6], [6]), ([4, 7], [4, 7]), ([2, 8, 6], [2, 8]), ([0, 9, 0], [0]), ([1, 10, 0, 1, 10], [1]), ([9, 11, 0, 1, 2, 3, 4, 5, 6, 7, 8, 9, 10, 11], [9])])
def spec_DrawIsBelow.B4 : List Nat := [0, 0, 0, 0, 8, 0, 56, 120, 248, 508, 1021, 2047, 4095]
theorem spec_DrawIsBelow.tab4 : rtab .any (opsOf Try.f123 4) = spec_DrawIsBelow.T4 := by kernel_rfl
theorem spec_DrawIsBelow.bits4 : waitsOk spec_DrawIsBelow.T4.2 spec_DrawIsBelow.B4 = true := by kernel_rfl
set_option maxHeartbeats 8000000 in
set_option maxRecDepth 100000 in
theorem spec_DrawIsBelow.calls (k : Nat) (A0 : Option Addr) (c0 : Nat) (l0 : List Int) (r1 : List Int) (r2 : Int) (r3 : Int) (w : World) (hr0 : Kd.C (Kd.int .u8) w A0 l0.length l0) (hc0 : l0.length ≤ c0) (h : spec_DrawIsBelow.f k l0 = some (r1, r2, r3)) :
  Calls Try.prog 123 #[.slice A0 l0.length c0] w fun e w' => ∃ v0_ : Value, e = .returned (.tuple #[.agg #[v0_], .int .i64 r2, .int .i64 r3]) ∧ Kd.Q (Kd.int .i64) 3 w' w.heap.size (fun _ => True) v0_ r1 ∧ Below w.heap.size w w' := by
 have hu26 := Try.underlying26
 have HR0 := am hr0
 have HC0 := am hc0
 clear hr0 hc0
 have HB := am (Below.refl w.heap.size w)
 have H : ((spec_l1New.f k l0).bind fun bt1503 => ((spec_l3Bent.f k bt1503.1 bt1503.2.1 bt1503.2.2).bind fun bt1507 => ((spec_l1Below.f bt1503.1 bt1507.2.1 bt1507.2.2 60).bind fun bt1513 => ((spec_l1Below.f bt1503.1 bt1513.2.1 bt1513.2.2 60).bind fun bt1516 => ((spec_l1Below.f bt1503.1 bt1516.2.1 bt1516.2.2 60).bind fun bt1519 => ((spec_l1PickInt.f bt1503.1 bt1519.2.1 bt1519.2.2 (([bt1516.1, wrap64 (bt1519.1 - 10), 1000001] : List Int))).bind fun bt1525 => (some (bt1507.1, wrap64 (bt1513.1 - 20), bt1525.1)))))))) = some (r1, r2, r3) := h
 clear h
 replace H := ga H; obtain ⟨⟨t1503, t1504, t1505⟩, A2, H⟩ := H
 replace H : ((spec_l3Bent.f k t1503 t1504 t1505).bind fun bt1507 => ((spec_l1Below.f t1503 bt1507.2.1 bt1507.2.2 60).bind fun bt1513 => ((spec_l1Below.f t1503 bt1513.2.1 bt1513.2.2 60).bind fun bt1516 => ((spec_l1Below.f t1503 bt1516.2.1 bt1516.2.2 60).bind fun bt1519 => ((spec_l1PickInt.f t1503 bt1519.2.1 bt1519.2.2 (([bt1516.1, wrap64 (bt1519.1 - 10), 1000001] : List Int))).bind fun bt1525 => (some (bt1507.1, wrap64 (bt1513.1 - 20), bt1525.1))))))) = some (r1, r2, r3) := H
 replace H := ga H; obtain ⟨⟨t1507, t1510, t1511⟩, A3, H⟩ := H
 replace H : ((spec_l1Below.f t1503 t1510 t1511 60).bind fun bt1513 => ((spec_l1Below.f t1503 bt1513.2.1 bt1513.2.2 60).bind fun bt1516 => ((spec_l1Below.f t1503 bt1516.2.1 bt1516.2.2 60).bind fun bt1519 => ((spec_l1PickInt.f t1503 bt1519.2.1 bt1519.2.2 (([bt1516.1, wrap64 (bt1519.1 - 10), 1000001] : List Int))).bind fun bt1525 => (some (t1507, wrap64 (bt1513.1 - 20), bt1525.1)))))) = some (r1, r2, r3) := H
 replace H := ga H; obtain ⟨⟨t1513, t1514, t1515⟩, A4, H⟩ := H
 replace H : ((spec_l1Below.f t1503 t1514 t1515 60).bind fun bt1516 => ((spec_l1Below.f t1503 bt1516.2.1 bt1516.2.2 60).bind fun bt1519 => ((spec_l1PickInt.f t1503 bt1519.2.1 bt1519.2.2 (([bt1516.1, wrap64 (bt1519.1 - 10), 1000001] : List Int))).bind fun bt1525 => (some (t1507, wrap64 (t1513 - 20), bt1525.1))))) = some (r1, r2, r3) := H
 replace H := ga H; obtain ⟨⟨t1516, t1517, t1518⟩, A5, H⟩ := H
 replace H : ((spec_l1Below.f t1503 t1517 t1518 60).bind fun bt1519 => ((spec_l1PickInt.f t1503 bt1519.2.1 bt1519.2.2 (([t1516, wrap64 (bt1519.1 - 10), 1000001] : List Int))).bind fun bt1525 => (some (t1507, wrap64 (t1513 - 20), bt1525.1)))) = some (r1, r2, r3) := H
 replace H := ga H; obtain ⟨⟨t1519, t1520, t1521⟩, A6, H⟩ := H
 replace H : ((spec_l1PickInt.f t1503 t1520 t1521 (([t1516, wrap64 (t1519 - 10), 1000001] : List Int))).bind fun bt1525 => (some (t1507, wrap64 (t1513 - 20), bt1525.1))) = some (r1, r2, r3) := H
 obtain ⟨y1522, hy1522⟩ : ∃ y_ : List Int, y_ = (([t1516, wrap64 (t1519 - 10), 1000001] : List Int)) := ⟨_, rfl⟩
 replace H : ((spec_l1PickInt.f t1503 t1520 t1521 y1522).bind fun bt1525 => (some (t1507, wrap64 (t1513 - 20), bt1525.1))) = some (r1, r2, r3) := by first | (rw [hy1522]; with_reducible exact H) | (have H2_ := (Option.bind_some _ _).symm.trans H; rw [hy1522]; with_reducible exact H2_) | (have H2_ := (Option.bind_some _ _).symm.trans H; with_reducible exact H2_) | with_reducible exact H | (rw [hy1522]; exact H) | exact H
 have Ny1522 := am hy1522
 clear hy1522
 replace H := ga H; obtain ⟨⟨t1525, t1526, t1527⟩, A7, H⟩ := H
 replace H : (some (t1507, wrap64 (t1513 - 20), t1525)) = some (r1, r2, r3) := H
 simp only [Option.some.injEq, Prod.mk.injEq] at H
 obtain ⟨rfl, rfl, rfl⟩ := H
 go_enter Try.func123, Try.ntmps123
 try go_wp2_with (first | ((with_reducible refine gate_dst (N := 2) rfl ?_); refine bx 2 #[.slice none 0 0] 26 ?_; intro gb1502 hg w8 hbox hb; have BK1502 := am (hbox); have GW1502 := am (gs hg : w.heap.size ≤ gb1502); have GE1502 := GW1502; replace HB := am (below_step bw hb); clear hb hbox hg) | ((with_reducible refine gate_callee (f := 131) rfl ?_); refine gl (some 9) Try.func131 #[.slice A0 l0.length c0] ?_; (with_reducible refine (spec_l1New.calls k _ _ l0 t1503 t1504 t1505 w _ ?side1 ?side2 ?side3 A2.out).mono ?_); (case side1 => exact bw); (case side2 => exact HR0.out); (case side3 => exact HC0.out); rintro e w9 ⟨g1506, rfl, hi, hb, hb2⟩; refine ⟨_, rfl, ?_⟩; replace HB := am (hb); have HI1506 := am (hi); have NB1506_1502 := am (IsS132.ne_blk hi (blk_below (g := gb1502) (o := .cells #[.slice none 0 0] 26 (0, 0)) (bo BK1502.out) hb2) (by decide)); have NB1502_1506 := ns NB1506_1502; replace BK1502 := kb BK1502 hb2; clear hb hb2 hi) | ((with_reducible refine gate_callee (f := 130) rfl ?_); refine gl (some 11) Try.func130 #[.pointer (some ⟨g1506, 0, none⟩)] ?_; (with_reducible refine (spec_l3Bent.calls k g1506 t1503 t1504 t1505 t1507 t1510 t1511 w _ ?side1 ?side2 A3.out).mono ?_); (case side1 => exact iw HI1506.out); (case side2 => exact bv); rintro e w10 ⟨v1508, rfl, ho0, hi, hb, hk⟩; refine ⟨_, rfl, ?_⟩; replace BK1502 := kk hk BK1502 NB1502_1506; have HO1509 := am (Kd.Q_lower ho0 (below_size bv)); replace HB := am (hb); replace HI1506 := am (hi); clear hb hk hi ho0) | ((with_reducible refine gate_dst (N := 6) rfl ?_); refine bx 6 #[.slice none 0 0] 26 ?_; intro gb1512 hg w11 hbox hb; replace HO1509 := am (Kd.Q_below (qo HO1509.out) hb); have BK1512 := am (hbox); have GW1512 := am ((by rw [hg]; exact (below_size bv) : w.heap.size ≤ gb1512)); have GE1512 := GW1512; replace HB := am (below_step bv hb); have NB1502_1512 := nl hg BK1502; have NB1512_1502 := ns NB1502_1512; replace BK1502 := kb BK1502 hb; have NB1506_1512 := am ((by rw [hg]; exact Nat.ne_of_lt (IsS132.lt (show IsS132 w _ g1506 t1503 t1510 t1511 from (iw HI1506.out))) : g1506 ≠ gb1512)); have NB1512_1506 := ns NB1506_1512; replace HI1506 := am (IsS132.below (iw HI1506.out) hb); clear hb hbox hg; obtain ⟨Ao12, co12, eo12, _⟩ := Kd.Q_slice HO1509.out; subst eo12; have hnb13 := NB1512_1502.out; have hnc13 := NB1502_1512.out; have hnb14 := NB1512_1506.out; have hnc14 := NB1506_1512.out; have hcz15_0 := bc BK1512 0 (.slice none 0 0); have hfz15_0 := blk_frozen BK1512.out 0) | ((with_reducible refine gate_callee (f := 156) rfl ?_); refine gl (some 13) Try.func156 #[.pointer (some ⟨g1506, 0, none⟩), .int .i64 60] ?_; (with_reducible refine (spec_l1Below.calls g1506 t1503 t1510 t1511 60 t1513 t1514 t1515 w _ ?side1 ?side2 A4.out).mono ?_); (case side1 => exact iw HI1506.out); (case side2 => exact bv); rintro e w16 ⟨rfl, hi, hb, hk⟩; refine ⟨_, rfl, ?_⟩; replace BK1502 := kk hk BK1502 NB1502_1506; replace HO1509 := am (Kd.Q_mono (Kd.Q_keep (IsS132.apartQ (show IsS132 w _ g1506 t1503 t1510 t1511 from (iw HI1506.out)) (by (with_reducible repeat (first | apply Kd.Q_alloc | apply Kd.Q_drewN | apply Kd.Q_drew)); exact (Kd.Q_mono (Kd.Q_far (p := ⟨gb1512, 0, none⟩) (Kd.Q_types HO1509.out BK1512.out (by decide)) (fun _ hk => hk.2) (.slice Ao12 t1507.length co12)) (fun _ h_ => h_.1))) (by decide)) hk (fun _ h => h.2)) (fun _ h => h.1)); replace BK1512 := am (KeepBut.blk hk (g' := gb1512) (o := .cells #[.slice Ao12 t1507.length co12] 26 (0, 0)) (by (with_reducible repeat (first | refine blk_drewN ?_ _ | refine blk_drew ?_ | refine blk_alloc ?_ _)); refine blk_put (cs := #[.slice none 0 0]) ?_ 0 _ rfl; (with_reducible repeat (first | refine blk_drewN ?_ _ | refine blk_drew ?_ | refine blk_alloc ?_ _)); exact BK1512.out) NB1512_1506.out (by simp)); replace HB := am (hb); replace HI1506 := am (hi); clear hb hk hi))
 replace HO1509 := am (Kd.Q_drew HO1509.out)
 replace BK1502 := am (blk_drew BK1502.out)
 replace BK1512 := am (blk_drew BK1512.out)
 replace HI1506 := am (IsS132.drew HI1506.out)
 replace HB := am (below_drew1 HB.out)
 refine start_ (n := 13) (S := fun w' => w'.cell? ⟨gb1512, 0, none⟩ = some (.slice Ao12 t1507.length co12)) (ds := []) (yz 13 0) (by kernel_rfl) rfl rfl ((blk_cell BK1512.out 0).trans rfl) (fun hHeld => ?_); refine with_tabW spec_DrawIsBelow.tab4 spec_DrawIsBelow.bits4 (fun HT_ HW_ => ?_)
 generalize w16.drew = w17 at HO1509 BK1502 BK1512 HI1506 HB hHeld ⊢
 refine pa 1 (some 16) (yz 13 2) HT_ ?_
 refine pa 2 (some 17) (yz 13 6) HT_ ?_
 refine pa 3 (some 18) (yz 13 14) HT_ ?_
 refine pa 5 (some 20) (yz 13 46) HT_ ?_
 refine take_ (i := 0) (N := some 15) (v := ?_) (a' := ?_) (yz 13 47) rfl rfl (take_ofW HT_.out HW_.out (by kernel_rfl)) (fun _ _ _ h => h) (Or.inl ⟨by rfl, ?_⟩) hHeld ?_ ?_
 rotate_left
 ·intro w' s0
  go_simp
  with_reducible rfl
 rotate_left
 ·simp only [Act.put, qa, qb, qc, i64_w, i32_w]
  rfl
 refine oa 4 (some 19) (yz 13 63) HT_ (fun K hK => ?_)
 refine gm Try.func156 #[.pointer (some ⟨g1506, 0, none⟩), .int .i64 60] ?_
 with_reducible refine (spec_l1Below.calls g1506 t1503 t1514 t1515 60 t1516 t1517 t1518 w _ ?side1 ?side2 A5.out).mono ?_
 (case side1 => exact iw HI1506.out)
 (case side2 => exact bv)
 rintro e w18 ⟨rfl, hi, hb, hk⟩
 refine ⟨_, rfl, ?_⟩
 replace BK1502 := kk hk BK1502 NB1502_1506
 replace HO1509 := am (Kd.Q_mono (Kd.Q_keep (IsS132.apartQ (show IsS132 w _ g1506 t1503 t1514 t1515 from (iw HI1506.out)) (qo HO1509.out) (by decide)) hk (fun _ h => h.2)) (fun _ h => h.1))
 replace BK1512 := kk hk BK1512 NB1512_1506
 replace HB := am (hb)
 replace HI1506 := am (hi)
 clear hb hk hi
 refine hK.out _ _ ((blk_cell BK1512.out 0).trans rfl) (fun hHeld => ?_)
 clear hK K
 refine norm_ (a' := ?_) ?_ ?_
 rotate_left
 ·show Act.put _ (some 19) _ = _
  simp only [Act.put, qa, qb, qc, i64_w, i32_w]
  rfl
 refine oa 6 (some 21) (yz 13 127) HT_ (fun K hK => ?_)
 refine gm Try.func156 #[.pointer (some ⟨g1506, 0, none⟩), .int .i64 60] ?_
 with_reducible refine (spec_l1Below.calls g1506 t1503 t1517 t1518 60 t1519 t1520 t1521 w _ ?side1 ?side2 A6.out).mono ?_
 (case side1 => exact iw HI1506.out)
 (case side2 => exact bv)
 rintro e w19 ⟨rfl, hi, hb, hk⟩
 refine ⟨_, rfl, ?_⟩
 replace BK1502 := kk hk BK1502 NB1502_1506
 replace HO1509 := am (Kd.Q_mono (Kd.Q_keep (IsS132.apartQ (show IsS132 w _ g1506 t1503 t1517 t1518 from (iw HI1506.out)) (qo HO1509.out) (by decide)) hk (fun _ h => h.2)) (fun _ h => h.1))
 replace BK1512 := kk hk BK1512 NB1512_1506
 replace HB := am (hb)
 replace HI1506 := am (hi)
 clear hb hk hi
 refine hK.out _ _ ((blk_cell BK1512.out 0).trans rfl) (fun hHeld => ?_)
 clear hK K
 refine norm_ (a' := ?_) ?_ ?_
 rotate_left
 ·show Act.put _ (some 21) _ = _
  simp only [Act.put, qa, qb, qc, i64_w, i32_w]
  rfl
 refine pa 7 (some 22) (yz 13 255) HT_ ?_
 refine oa 8 (some 23) (yz 13 511) HT_ (fun K hK => ?_)
 refine Kd.R_lit_step (Kd.int .i64) _ 3 ?hg (N := 23) ?hd (xs := ([t1516, wrap64 (t1519 - 10), 1000001] : List Int)) (inner := [.int .i64 t1516, .int .i64 (wrap64 (t1519 - 10)), .int .i64 1000001]) (ok := fun _ => True) (okp := fun _ => True) ?hr ?hp (fun _ hk => hk) trivial (Below.refl _ _) (Nat.le_refl _) (by simp) ?_; (case hd => rfl); (case hg => rfl); (case hr => first | (go_simp; done) | (go_simp; rfl)); (case hp => exact (Reps.one (show Kd.M (Kd.int .i64) _ _ _ t1516 [.int .i64 t1516] from rfl) (Reps.one (show Kd.M (Kd.int .i64) _ _ _ (wrap64 (t1519 - 10)) [.int .i64 (wrap64 (t1519 - 10))] from rfl) (Reps.one (show Kd.M (Kd.int .i64) _ _ _ 1000001 [.int .i64 1000001] from rfl) (Reps.none _ _)))))
 intro v1523 w20 ho21 hb hg_ hnew_
 clear hg_ hnew_
 (first | rw [← Ny1522.out] at ho21 | (simp only [Int.reduceToNat] at ho21; rw [← Ny1522.out] at ho21))
 have HO1524 := am (Kd.R_lower (Kd.R_new' ho21 (Kd.Q_lt (qo HO1509.out))) (below_size bv))
 replace HO1509 := am (Kd.Q_elder' (qo HO1509.out) (Kd.R_base ho21) hb)
 replace BK1502 := kb BK1502 hb
 replace BK1512 := kb BK1512 hb
 replace HB := am (below_step bv hb)
 replace HI1506 := am (IsS132.below (iw HI1506.out) hb)
 clear hb ho21
 obtain ⟨Ao22, co22, eo22⟩ := Kd.R_slice HO1524.out
 (first | subst eo22 | (injection eo22 with f1_ f2_ f3_; have f4_ := f1_.symm; have f5_ := f3_.symm; clear f1_ f2_ f3_; subst f4_; subst f5_))
 refine hK.out _ _ ((blk_cell BK1512.out 0).trans rfl) (fun hHeld => ?_)
 clear hK K
 refine norm_ (a' := ?_) ?_ ?_
 rotate_left
 ·show Act.put _ (some 23) _ = _
  simp only [Act.put, qa, qb, qc, i64_w, i32_w]
  rfl
 refine oa 9 (some 24) (yz 13 1023) HT_ (fun K hK => ?_)
 refine gm Try.func150 #[.pointer (some ⟨g1506, 0, none⟩), .slice Ao22 y1522.length co22] ?_
 with_reducible refine (spec_l1PickInt.calls g1506 t1503 t1520 t1521 _ _ y1522 t1525 t1526 t1527 w _ ?side1 ?side2 ?side3 ?side4 ?side5 A7.out).mono ?_
 (case side1 => exact iw HI1506.out)
 (case side2 => exact bv)
 (case side3 => exact co (Kd.R_reads' HO1524.out).2.2)
 (case side4 => exact (Kd.R_reads' HO1524.out).2.1)
 (case side5 => exact far_slice (IsS132.own_ne HI1506.out HO1524.out (by decide)))
 rintro e w23 ⟨rfl, hi, hb, hk⟩
 refine ⟨_, rfl, ?_⟩
 replace BK1502 := kk hk BK1502 NB1502_1506
 replace HO1509 := am (Kd.Q_mono (Kd.Q_keep (IsS132.apartQ (show IsS132 w _ g1506 t1503 t1520 t1521 from (iw HI1506.out)) (qo HO1509.out) (by decide)) hk (fun _ h => h.2)) (fun _ h => h.1))
 replace BK1512 := kk hk BK1512 NB1512_1506
 replace HO1524 := am (Kd.R_mono (Kd.R_keep (IsS132.apart (show IsS132 w _ g1506 t1503 t1520 t1521 from (iw HI1506.out)) (ro HO1524.out) (by decide)) hk (fun _ h => h.2)) (fun _ h => h.1))
 replace HB := am (hb)
 replace HI1506 := am (hi)
 clear hb hk hi
 refine hK.out _ _ ((blk_cell BK1512.out 0).trans rfl) (fun hHeld => ?_)
 clear hK K
 refine norm_ (a' := ?_) ?_ ?_
 rotate_left
 ·show Act.put _ (some 24) _ = _
  simp only [Act.put, qa, qb, qc, i64_w, i32_w]
  rfl
 refine oa 10 none (yz 13 2047) HT_ (fun K hK => ?_)
 have hs24 := bc BK1502 0 (.slice none 0 0)
 have hfs24 := blk_frozen BK1502.out 0
 have hns24_1 := NB1512_1502.out
 have hms24_1 := NB1502_1512.out
 refine skip_ (w1 := ?_) (by rfl) rfl ?_ ?_
 rotate_left
 ·go_simp
  rfl
 refine hK.out _ _ (((cell_far (p := ⟨gb1502, _, none⟩) NB1512_1502.out _).trans (hHeld))) (fun hHeld => ?_)
 clear hK K
 refine pa 11 (some 3) (yz 13 4095) HT_ ?_
 refine pa 12 (some 4) (yz 13 8191) HT_ ?_
 refine done_ (done_of HT_.out (by kernel_rfl)) ?_
 try go_wp2
 refine bodyPost_ret (results_ctt rfl _ _ gb1502 26 #[.slice Ao12 t1507.length co12] (0, 0) _ rfl (by (with_reducible repeat (first | refine blk_drewN ?_ _ | refine blk_drew ?_ | refine blk_alloc ?_ _)); refine blk_put (cs := #[.slice none 0 0]) ?_ 0 _ rfl; (with_reducible repeat (first | refine blk_drewN ?_ _ | refine blk_drew ?_ | refine blk_alloc ?_ _)); exact BK1502.out) Try.underlying26 rfl (by kernel_rfl)) rfl ?_
 exact ⟨_, re, by (with_reducible repeat (first | apply Kd.Q_alloc | apply Kd.Q_drewN | apply Kd.Q_drew)); exact Kd.Q_mono (Kd.Q_far (p := ⟨gb1502, 0, none⟩) (Kd.Q_types HO1509.out BK1502.out (by decide)) (fun _ hk => hk.2) (.slice Ao12 t1507.length co12)) (fun _ hk => trivial), bv⟩


/-! ### spec_MaximalOf: function 125 -/
def spec_MaximalOf.f (k : Nat) (l0_0 : List Int) (l1 : List Int) : Option (List Int) := (spec_l10Top.f k l0_0 l1 false).bind fun t1548 => (some t1548)
set_option maxHeartbeats 8000000 in
set_option maxRecDepth 100000 in
theorem spec_MaximalOf.calls (k : Nat) (A0_0 : Option Addr) (c0_0 : Nat) (l0_0 : List Int) (A1 : Option Addr) (c1 : Nat) (l1 : List Int) (r : List Int) (w : World) (hr0_0 : Kd.C (Kd.int .i64) w A0_0 l0_0.length l0_0) (hc0_0 : l0_0.length ≤ c0_0) (hr1 : Kd.C (Kd.int .i64) w A1 l1.length l1) (hc1 : l1.length ≤ c1) (h : spec_MaximalOf.f k l0_0 l1 = some r) :
  Calls Try.prog 125 #[.agg #[.slice A0_0 l0_0.length c0_0], .slice A1 l1.length c1] w fun e w' => ∃ v0_ : Value, e = .returned (v0_) ∧ Kd.R (Kd.int .i64) 3 w' w.heap.size (fun _ => True) v0_ r ∧ Below w.heap.size w w' := by
 have hu26 := Try.underlying26
 have HR0_0 := am hr0_0
 have HC0_0 := am hc0_0
 clear hr0_0 hc0_0
 have HR1 := am hr1
 have HC1 := am hc1
 clear hr1 hc1
 have HB := am (Below.refl w.heap.size w)
 have H : ((spec_l10Top.f k l0_0 l1 false).bind fun t1548 => (some t1548)) = some r := h
 clear h
 replace H := ga H; obtain ⟨t1548, A3, H⟩ := H
 obtain rfl := Option.some.inj H
 go_enter Try.func125, Try.ntmps125
 go_wp2_with (first | ((with_reducible refine gate_dst (N := 2) rfl ?_); refine bx 2 #[.slice A0_0 l0_0.length c0_0] 26 ?_; intro gb1547 hg w4 hbox hb; have BK1547 := am (hbox); have GW1547 := am (gs hg : w.heap.size ≤ gb1547); have GE1547 := GW1547; replace HB := am (below_step bw hb); clear hb hbox hg; have hcz5_0 := bc BK1547 0 (.slice A0_0 l0_0.length c0_0); have hfz5_0 := blk_frozen BK1547.out 0) | ((with_reducible refine gate_callee (f := 212) rfl ?_); refine gl (some 7) Try.func212 #[.agg #[.slice A0_0 l0_0.length c0_0], .slice A1 l1.length c1, .bool false] ?_; (with_reducible refine (spec_l10Top.calls k _ _ l0_0 _ _ l1 false t1548 _ ?side1 ?side2 ?side3 ?side4 A3.out).mono ?_); (case side1 => exact co (Kd.C_below HR0_0.out HB.out)); (case side2 => exact HC0_0.out); (case side3 => exact co (Kd.C_below HR1.out HB.out)); (case side4 => exact HC1.out); rintro e w6 ⟨v1549, rfl, ho0, hb⟩; refine ⟨_, rfl, ?_⟩; have HO1550 := am (Kd.R_lower ho0 (below_size bw)); replace BK1547 := kb BK1547 hb; replace HB := am (below_step bw hb); clear hb ho0))
 go_ret
 exact ⟨_, re, ro HO1550.out, bw⟩


/-! ### spec_ExceedingOf: function 124 -/
def spec_ExceedingOf.l0 : Nat → Int → List Int → Int → Option (List Int)
 | 0, _, _, _ => none
 | k + 1, x1, x5, x6 => if x6 < (x5.length : Int) then (if 0 ≤ x6 then (spec_ExceedingOf.l0 k x1 (x5.set (x6 : Int).toNat (wrap64 ((rd x5 x6) - x1))) (wrap64 (x6 + 1))) else (none)) else (some x5)
def spec_ExceedingOf.f (k : Nat) (l0_0 : List Int) (a1 : Int) : Option (List Int) := (spec_AperySet.f k l0_0 a1).bind fun t1575 => ((spec_MaximalOf.f k l0_0 t1575).bind fun t1578 => (spec_ExceedingOf.l0 k a1 t1578 0))
set_option maxHeartbeats 8000000 in
set_option maxRecDepth 100000 in
theorem spec_ExceedingOf.calls (k : Nat) (A0_0 : Option Addr) (c0_0 : Nat) (l0_0 : List Int) (a1 : Int) (r : List Int) (w : World) (hr0_0 : Kd.C (Kd.int .i64) w A0_0 l0_0.length l0_0) (hc0_0 : l0_0.length ≤ c0_0) (h : spec_ExceedingOf.f k l0_0 a1 = some r) :
  Calls Try.prog 124 #[.agg #[.slice A0_0 l0_0.length c0_0], .int .i64 a1] w fun e w' => ∃ v0_ : Value, e = .returned (v0_) ∧ Kd.R (Kd.int .i64) 3 w' w.heap.size (fun _ => True) v0_ r ∧ Below w.heap.size w w' := by
 have hu26 := Try.underlying26
 have HR0_0 := am hr0_0
 have HC0_0 := am hc0_0
 clear hr0_0 hc0_0
 have HB := am (Below.refl w.heap.size w)
 have H : ((spec_AperySet.f k l0_0 a1).bind fun t1575 => ((spec_MaximalOf.f k l0_0 t1575).bind fun t1578 => (spec_ExceedingOf.l0 k a1 t1578 0))) = some r := h
 clear h
 replace H := ga H; obtain ⟨t1575, A3, H⟩ := H
 replace H := ga H; obtain ⟨t1578, A4, H⟩ := H
 have H' := am H
 clear H
 go_enter Try.func124, Try.ntmps124
 try go_wp2_with (first | ((with_reducible refine gate_dst (N := 2) rfl ?_); refine bx 2 #[.slice A0_0 l0_0.length c0_0] 26 ?_; intro gb1574 hg w5 hbox hb; have BK1574 := am (hbox); have GW1574 := am (gs hg : w.heap.size ≤ gb1574); have GE1574 := GW1574; replace HB := am (below_step bw hb); clear hb hbox hg))
 replace BK1574 := am (blk_drew BK1574.out)
 replace HB := am (below_drew1 HB.out)
 refine start_ (n := 6) (S := fun w' => w'.cell? ⟨gb1574, 0, none⟩ = some (.slice A0_0 l0_0.length c0_0)) (ds := []) (yz 6 0) (by kernel_rfl) rfl rfl ((blk_cell BK1574.out 0).trans rfl) (fun hHeld => ?_)
 generalize w5.drew = w6 at BK1574 HB hHeld ⊢
 refine pure_ (i := 2) (N := some 9) (v := ?_) (a' := ?_) (yz 6 4) rfl rfl (by kernel_rfl) (fun _ _ _ h => h) (Or.inl ⟨by rfl, ?_⟩) ?_ ?_
 rotate_left
 ·intro w'
  go_simp
  with_reducible rfl
 rotate_left
 ·simp only [Act.put, qa, qb, qc, i64_w, i32_w]
  rfl
 refine take_ (i := 0) (N := some 7) (v := ?_) (a' := ?_) (yz 6 5) rfl rfl (by kernel_rfl) (fun _ _ _ h => h) (Or.inl ⟨by rfl, ?_⟩) hHeld ?_ ?_
 rotate_left
 ·intro w' s0
  go_simp
  with_reducible rfl
 rotate_left
 ·simp only [Act.put, qa, qb, qc, i64_w, i32_w]
  rfl
 refine take_ (i := 1) (N := some 8) (v := ?_) (a' := ?_) (yz 6 7) rfl rfl (by kernel_rfl) (fun _ _ _ h => h) (Or.inl ⟨by rfl, ?_⟩) hHeld ?_ ?_
 rotate_left
 ·intro w' s0
  go_simp
  with_reducible rfl
 rotate_left
 ·simp only [Act.put, qa, qb, qc, i64_w, i32_w]
  rfl
 refine one_ (i := 3) (N := some 10) (yz 6 15) rfl rfl (by kernel_rfl) (by decide) (fun K hK => ?_)
 refine gm Try.func211 #[.agg #[.slice A0_0 l0_0.length c0_0], .int .i64 a1] ?_
 with_reducible refine (spec_AperySet.calls k _ _ l0_0 a1 t1575 _ ?side1 ?side2 A3.out).mono ?_
 (case side1 => exact co (Kd.C_below HR0_0.out HB.out))
 (case side2 => exact HC0_0.out)
 rintro e w7 ⟨v1576, rfl, ho0, hb⟩
 refine ⟨_, rfl, ?_⟩
 have HO1577 := am (Kd.R_lower ho0 (below_size bw))
 replace BK1574 := kb BK1574 hb
 replace HB := am (below_step bw hb)
 clear hb ho0
 obtain ⟨Ao8, co8, eo8⟩ := Kd.R_slice HO1577.out
 (first | subst eo8 | (injection eo8 with f1_ f2_ f3_; have f4_ := f1_.symm; have f5_ := f3_.symm; clear f1_ f2_ f3_; subst f4_; subst f5_))
 refine hK.out _ _ ((blk_cell BK1574.out 0).trans rfl) (fun hHeld => ?_)
 clear hK K
 refine norm_ (a' := ?_) ?_ ?_
 rotate_left
 ·show Act.put _ (some 10) _ = _
  simp only [Act.put, qa, qb, qc, i64_w, i32_w]
  rfl
 refine one_ (i := 4) (N := some 11) (yz 6 31) rfl rfl (by kernel_rfl) (by decide) (fun K hK => ?_)
 refine gm Try.func125 #[.agg #[.slice A0_0 l0_0.length c0_0], .slice Ao8 t1575.length co8] ?_
 with_reducible refine (spec_MaximalOf.calls k _ _ l0_0 _ _ t1575 t1578 _ ?side1 ?side2 ?side3 ?side4 A4.out).mono ?_
 (case side1 => exact co (Kd.C_below HR0_0.out HB.out))
 (case side2 => exact HC0_0.out)
 (case side3 => exact co (Kd.R_reads' HO1577.out).2.2)
 (case side4 => exact (Kd.R_reads' HO1577.out).2.1)
 rintro e w9 ⟨v1579, rfl, ho0, hb⟩
 refine ⟨_, rfl, ?_⟩
 have HO1580 := am (Kd.R_lower (Kd.R_new' ho0 (Kd.R_lt (ro HO1577.out))) (below_size bw))
 replace HO1577 := am (Kd.R_elder' (ro HO1577.out) (Kd.R_base ho0) hb)
 replace BK1574 := kb BK1574 hb
 replace HB := am (below_step bw hb)
 clear hb ho0
 refine hK.out _ _ ((blk_cell BK1574.out 0).trans rfl) (fun hHeld => ?_)
 clear hK K
 refine norm_ (a' := ?_) ?_ ?_
 rotate_left
 ·show Act.put _ (some 11) _ = _
  simp only [Act.put, qa, qb, qc, i64_w, i32_w]
  rfl
 refine pure_ (i := 5) (N := some 5) (v := ?_) (a' := ?_) (yz 6 63) rfl rfl (by kernel_rfl) (fun _ _ _ h => h) (Or.inl ⟨by rfl, ?_⟩) ?_ ?_
 rotate_left
 ·intro w'
  go_simp
  with_reducible rfl
 rotate_left
 ·simp only [Act.put, qa, qb, qc, i64_w, i32_w]
  rfl
 refine done_ (by kernel_rfl) ?_
 try go_wp2
 go_loopg [6] k (fun kq v6 w' => ∃ (x5_1 : List Int) (x6_1 : Int), v6 = .int .i64 x6_1 ∧ Aside0 (spec_ExceedingOf.l0 kq a1 x5_1 x6_1 = some r) ∧ Aside0 (kq ≤ k) ∧ Aside0 (Kd.R (Kd.int .i64) 3 w' w.heap.size (fun _ => True) v1579 x5_1) ∧ Aside0 (w'.heap[gb1574]? = some (.cells #[(.slice A0_0 l0_0.length c0_0)] 26 (0, 0))) ∧ Aside0 (Below w.heap.size w w'))
 case atStart => exact ⟨(t1578), (0), rr, H', ⟨Nat.le_refl _⟩, ⟨by (with_reducible repeat (first | apply Kd.R_alloc | apply Kd.R_drewN | apply Kd.R_drew)); exact Kd.R_mono HO1580.out (fun _ hk => trivial)⟩, ⟨bo BK1574.out⟩, ⟨bw⟩⟩
 case round =>
  clear H'
  obtain ⟨x5_1, x6_1, rfl, HA, HK1, HO_5, BK1574, HB⟩ := hrel
  cases gk with
  | zero => exact absurd HA.out (by simp [spec_ExceedingOf.l0])
  | succ k1 =>
   have H := HA.out
   clear HA
   simp only [spec_ExceedingOf.l0] at H
   replace H := gi H; obtain ⟨c10b0, H⟩ | ⟨c10b0, H⟩ := H
   ·replace H := gd H; obtain ⟨c11b0, H⟩ := H
    obtain ⟨y1582, hy1582⟩ : ∃ y_ : List Int, y_ = (x5_1.set (x6_1 : Int).toNat (wrap64 ((rd x5_1 x6_1) - a1))) := ⟨_, rfl⟩
    replace H : (spec_ExceedingOf.l0 k1 a1 y1582 (wrap64 (x6_1 + 1))) = some r := by first | (rw [hy1582]; with_reducible exact H) | (have H2_ := (Option.bind_some _ _).symm.trans H; rw [hy1582]; with_reducible exact H2_) | (have H2_ := (Option.bind_some _ _).symm.trans H; with_reducible exact H2_) | with_reducible exact H | (rw [hy1582]; exact H) | exact H
    have Ny1582 := am hy1582
    clear hy1582
    have H' := am H
    clear H
    obtain ⟨Ao13, co13, eo13⟩ := Kd.R_slice HO_5.out
    subst eo13
    obtain ⟨⟨ad1581, e1581, hx1581_0⟩, p1581, q1581⟩ := pq (Kd.at_int (Kd.R_reads' HO_5.out).2.2 x6_1)
    cases e1581
    have p12 : 0 ≤ (x6_1 : Int) := of_decide_eq_true (by first | (with_reducible assumption) | assumption)
    have q12 : (x6_1 : Int) < ((x5_1.length : Int) : Int) := of_decide_eq_true (by first | (with_reducible assumption) | assumption)
    obtain ⟨go12, co12, eo12, gb12, gl12, cl12, HG12⟩ := Kd.R_form HO_5.out (by omega)
    (first | cases eo12 | (injection eo12 with ea_ en_ ec_; (first | subst ea_ | (injection ea_ with ea_; subst ea_)); subst ec_; clear en_))
    have GB12 := am gb12
    have GG12 := am HG12
    clear gb12 gl12 HG12
    (first | simp only [add_plain] at hx1581_0 | skip)
    obtain ⟨hx12_0, hf12_0⟩ := Kd.R_celln 0 HO_5.out (x6_1 : Int) p12 q12
    replace p12 := eq_true p12
    replace q12 := eq_true q12
    have HP14 := Kd.R_putg HO_5.out (x6_1 : Int) (wrap64 ((rd x5_1 x6_1) - a1))
    go_wp2_with (first | ((with_reducible refine gate_store (t := 3) (p := 26) rfl ?_); refine store_event (t := 3) (p := 26) (v := ?vo_w15) (w1 := (wr.setCell ⟨go12, (x6_1 : Int).toNat, none⟩ (.int .i64 (wrap64 ((rd x5_1 x6_1) - a1))))) ?hg ?ho ?hn ?hr ?_; (case ho => rfl); (case hg => rfl); (case hn => rfl); (case hr => first | (go_simp; done) | (go_simp; rfl)); intro w15 hw; have hg : wr.grownBy w15 (some go12) := (by rw [hw]; exact HP14.2); have hp_ : Kd.R (Kd.int .i64) 3 w15 w.heap.size (fun _ => True) (.slice (some ⟨go12, 0, none⟩) x5_1.length co13) y1582 := (by rw [hw, Ny1582.out]; exact HP14.1); clear HP14; replace BK1574 := am (blk_grown (g := gb1574) (o := .cells #[.slice A0_0 l0_0.length c0_0] 26 (0, 0)) (bo BK1574.out) hg (Kd.R_ne HO_5.out BK1574.out (by decide))); replace HO_5 := am (hp_); replace HB := am ((by rw [hw]; exact below_set (HB.out) GB12.out : Below w.heap.size w w15)); clear hg hw hp_))
    go_roundg k1
    case measure => have := HK1.out; omega
    case rel => exact ⟨(y1582), (wrap64 (x6_1 + 1)), rr, H', ⟨by have := HK1.out; omega⟩, ⟨ro HO_5.out⟩, ⟨bo BK1574.out⟩, ⟨bw⟩⟩
   ·obtain rfl := Option.some.inj H
    obtain ⟨Ao16, co16, eo16⟩ := Kd.R_slice HO_5.out
    subst eo16
    go_wp2
    go_ret
    exact ⟨_, re, ro HO_5.out, bw⟩


/-! ### impl_IsBelow: function 127 -/
def impl_IsBelow.f (k : Nat) (l0_0 : List Int) (a1 : Int) (a2 : Int) : Option (Bool) := (impl_allWithin.f k (([a1, a2] : List Int)) (-1000000) 1000000).bind fun t1591 => (if t1591 = true then ((impl_Contains.f k l0_0 (wrap64 (a2 - a1))).bind fun t1592 => (some t1592)) else (some false))
set_option maxHeartbeats 8000000 in
set_option maxRecDepth 100000 in
theorem impl_IsBelow.calls (k : Nat) (A0_0 : Option Addr) (c0_0 : Nat) (l0_0 : List Int) (a1 : Int) (a2 : Int) (r : Bool) (w : World) (hr0_0 : Kd.C (Kd.int .i64) w A0_0 l0_0.length l0_0) (hc0_0 : l0_0.length ≤ c0_0) (h : impl_IsBelow.f k l0_0 a1 a2 = some r) :
  Calls Try.prog 127 #[.agg #[.slice A0_0 l0_0.length c0_0], .int .i64 a1, .int .i64 a2] w fun e w' => e = .returned (.bool r) ∧ Below w.heap.size w w' := by
 have hu26 := Try.underlying26
 have HR0_0 := am hr0_0
 have HC0_0 := am hc0_0
 clear hr0_0 hc0_0
 have HB := am (Below.refl w.heap.size w)
 have H : ((impl_allWithin.f k (([a1, a2] : List Int)) (-1000000) 1000000).bind fun t1591 => (if t1591 = true then ((impl_Contains.f k l0_0 (wrap64 (a2 - a1))).bind fun t1592 => (some t1592)) else (some false))) = some r := h
 clear h
 obtain ⟨y1588, hy1588⟩ : ∃ y_ : List Int, y_ = (([a1, a2] : List Int)) := ⟨_, rfl⟩
 replace H : ((impl_allWithin.f k y1588 (-1000000) 1000000).bind fun t1591 => (if t1591 = true then ((impl_Contains.f k l0_0 (wrap64 (a2 - a1))).bind fun t1592 => (some t1592)) else (some false))) = some r := by first | (rw [hy1588]; with_reducible exact H) | (have H2_ := (Option.bind_some _ _).symm.trans H; rw [hy1588]; with_reducible exact H2_) | (have H2_ := (Option.bind_some _ _).symm.trans H; with_reducible exact H2_) | with_reducible exact H | (rw [hy1588]; exact H) | exact H
 have Ny1588 := am hy1588
 clear hy1588
 replace H := ga H; obtain ⟨t1591, A4, H⟩ := H
 replace H := gb H; obtain ⟨rfl, H⟩ | ⟨rfl, H⟩ := H
 ·replace H := ga H; obtain ⟨t1592, A6, H⟩ := H
  obtain rfl := Option.some.inj H
  go_enter Try.func127, Try.ntmps127
  go_wp2_with (first | ((with_reducible refine gate_dst (N := 3) rfl ?_); refine bx 3 #[.slice A0_0 l0_0.length c0_0] 26 ?_; intro gb1587 hg w7 hbox hb; have BK1587 := am (hbox); have GW1587 := am (gs hg : w.heap.size ≤ gb1587); have GE1587 := GW1587; replace HB := am (below_step bw hb); clear hb hbox hg) | ((with_reducible refine gate_dst (N := 9) rfl ?_); refine Kd.R_lit (Kd.int .i64) _ 3 ?hg (N := 9) ?hd (xs := ([a1, a2] : List Int)) (inner := [.int .i64 a1, .int .i64 a2]) (ok := fun _ => True) (okp := fun _ => True) ?hr ?hp (fun _ hk => hk) trivial (Below.refl _ _) (Nat.le_refl _) (by simp) ?_; (case hd => rfl); (case hg => rfl); (case hr => first | (go_simp; done) | (go_simp; rfl)); (case hp => exact (Reps.one (show Kd.M (Kd.int .i64) _ _ _ a1 [.int .i64 a1] from rfl) (Reps.one (show Kd.M (Kd.int .i64) _ _ _ a2 [.int .i64 a2] from rfl) (Reps.none _ _)))); intro v1589 w8 ho9 hb hg_ hnew_; clear hg_ hnew_; (first | rw [← Ny1588.out] at ho9 | (simp only [Int.reduceToNat] at ho9; rw [← Ny1588.out] at ho9)); have HO1590 := am (Kd.R_lower ho9 (below_size bw)); replace BK1587 := kb BK1587 hb; replace HB := am (below_step bw hb); clear hb ho9; obtain ⟨Ao10, co10, eo10⟩ := Kd.R_slice HO1590.out; subst eo10) | ((with_reducible refine gate_callee (f := 135) rfl ?_); refine gl (some 10) Try.func135 #[.slice Ao10 y1588.length co10, .int .i64 (-1000000), .int .i64 1000000] ?_; (with_reducible refine (impl_allWithin.calls k _ _ y1588 (-1000000) 1000000 true _ ?side1 ?side2 A4.out).mono ?_); (case side1 => exact co (Kd.R_reads' HO1590.out).2.2); (case side2 => exact (Kd.R_reads' HO1590.out).2.1); rintro e w' ⟨rfl, ⟨nd, rfl⟩⟩; refine ⟨_, rfl, ?_⟩; have hcz11_0 := bc BK1587 0 (.slice A0_0 l0_0.length c0_0); have hfz11_0 := blk_frozen BK1587.out 0) | (go_at_call 32; (with_reducible refine (impl_Contains.calls k _ _ l0_0 (wrap64 (a2 - a1)) t1592 _ ?side1 ?side2 A6.out).mono ?_); (case side1 => exact co (Kd.C_below HR0_0.out bw)); (case side2 => exact HC0_0.out); rintro e w12 ⟨rfl, hb⟩; replace HO1590 := am (Kd.R_below (ro HO1590.out) hb); replace BK1587 := kb BK1587 hb; replace HB := am (below_step bw hb); clear hb))
  go_ret
  exact ⟨re, bw⟩
 ·obtain rfl := Option.some.inj H
  go_enter Try.func127, Try.ntmps127
  go_wp2_with (first | ((with_reducible refine gate_dst (N := 3) rfl ?_); refine bx 3 #[.slice A0_0 l0_0.length c0_0] 26 ?_; intro gb1587 hg w13 hbox hb; have BK1587 := am (hbox); have GW1587 := am (gs hg : w.heap.size ≤ gb1587); have GE1587 := GW1587; replace HB := am (below_step bw hb); clear hb hbox hg) | ((with_reducible refine gate_dst (N := 9) rfl ?_); refine Kd.R_lit (Kd.int .i64) _ 3 ?hg (N := 9) ?hd (xs := ([a1, a2] : List Int)) (inner := [.int .i64 a1, .int .i64 a2]) (ok := fun _ => True) (okp := fun _ => True) ?hr ?hp (fun _ hk => hk) trivial (Below.refl _ _) (Nat.le_refl _) (by simp) ?_; (case hd => rfl); (case hg => rfl); (case hr => first | (go_simp; done) | (go_simp; rfl)); (case hp => exact (Reps.one (show Kd.M (Kd.int .i64) _ _ _ a1 [.int .i64 a1] from rfl) (Reps.one (show Kd.M (Kd.int .i64) _ _ _ a2 [.int .i64 a2] from rfl) (Reps.none _ _)))); intro v1589 w14 ho15 hb hg_ hnew_; clear hg_ hnew_; (first | rw [← Ny1588.out] at ho15 | (simp only [Int.reduceToNat] at ho15; rw [← Ny1588.out] at ho15)); have HO1590 := am (Kd.R_lower ho15 (below_size bw)); replace BK1587 := kb BK1587 hb; replace HB := am (below_step bw hb); clear hb ho15; obtain ⟨Ao16, co16, eo16⟩ := Kd.R_slice HO1590.out; subst eo16) | ((with_reducible refine gate_callee (f := 135) rfl ?_); refine gl (some 10) Try.func135 #[.slice Ao16 y1588.length co16, .int .i64 (-1000000), .int .i64 1000000] ?_; (with_reducible refine (impl_allWithin.calls k _ _ y1588 (-1000000) 1000000 false _ ?side1 ?side2 A4.out).mono ?_); (case side1 => exact co (Kd.R_reads' HO1590.out).2.2); (case side2 => exact (Kd.R_reads' HO1590.out).2.1); rintro e w' ⟨rfl, ⟨nd, rfl⟩⟩; refine ⟨_, rfl, ?_⟩))
  go_ret
  exact ⟨re, bw⟩


/-! ### spec_IsBelow: function 128 -/
def spec_IsBelow.f (k : Nat) (l0_0 : List Int) (a1 : Int) (a2 : Int) : Option (Bool) := (spec_IsSemigroup.f k l0_0).bind fun t1594 => (if t1594 = true then ((spec_l2Small.f a1).bind fun t1595 => (if t1595 = true then ((spec_l2Small.f a2).bind fun t1596 => (if t1596 = true then ((spec_l3Has.f k l0_0 (wrap64 (a2 - a1))).bind fun t1597 => (some t1597)) else (some false))) else (some false))) else (some false))
set_option maxHeartbeats 8000000 in
set_option maxRecDepth 100000 in
theorem spec_IsBelow.calls (k : Nat) (A0_0 : Option Addr) (c0_0 : Nat) (l0_0 : List Int) (a1 : Int) (a2 : Int) (r : Bool) (w : World) (hr0_0 : Kd.C (Kd.int .i64) w A0_0 l0_0.length l0_0) (hc0_0 : l0_0.length ≤ c0_0) (h : spec_IsBelow.f k l0_0 a1 a2 = some r) :
  Calls Try.prog 128 #[.agg #[.slice A0_0 l0_0.length c0_0], .int .i64 a1, .int .i64 a2] w fun e w' => e = .returned (.bool r) ∧ Below w.heap.size w w' := by
 have hu26 := Try.underlying26
 have HR0_0 := am hr0_0
 have HC0_0 := am hc0_0
 clear hr0_0 hc0_0
 have HB := am (Below.refl w.heap.size w)
 have H : ((spec_IsSemigroup.f k l0_0).bind fun t1594 => (if t1594 = true then ((spec_l2Small.f a1).bind fun t1595 => (if t1595 = true then ((spec_l2Small.f a2).bind fun t1596 => (if t1596 = true then ((spec_l3Has.f k l0_0 (wrap64 (a2 - a1))).bind fun t1597 => (some t1597)) else (some false))) else (some false))) else (some false))) = some r := h
 clear h
 replace H := ga H; obtain ⟨t1594, A4, H⟩ := H
 replace H := gb H; obtain ⟨rfl, H⟩ | ⟨rfl, H⟩ := H
 ·replace H := ga H; obtain ⟨t1595, A6, H⟩ := H
  replace H := gb H; obtain ⟨rfl, H⟩ | ⟨rfl, H⟩ := H
  ·replace H := ga H; obtain ⟨t1596, A8, H⟩ := H
   replace H := gb H; obtain ⟨rfl, H⟩ | ⟨rfl, H⟩ := H
   ·replace H := ga H; obtain ⟨t1597, A10, H⟩ := H
    obtain rfl := Option.some.inj H
    go_enter Try.func128, Try.ntmps128
    go_wp2_with (first | ((with_reducible refine gate_dst (N := 3) rfl ?_); refine bx 3 #[.slice A0_0 l0_0.length c0_0] 26 ?_; intro gb1593 hg w11 hbox hb; have BK1593 := am (hbox); have GW1593 := am (gs hg : w.heap.size ≤ gb1593); have GE1593 := GW1593; replace HB := am (below_step bw hb); clear hb hbox hg; have hcz12_0 := bc BK1593 0 (.slice A0_0 l0_0.length c0_0); have hfz12_0 := blk_frozen BK1593.out 0) | ((with_reducible refine gate_callee (f := 23) rfl ?_); refine gl (some 8) Try.func23 #[.agg #[.slice A0_0 l0_0.length c0_0]] ?_; (with_reducible refine (spec_IsSemigroup.calls k _ _ l0_0 true _ ?side1 ?side2 A4.out).mono ?_); (case side1 => exact co (Kd.C_below HR0_0.out HB.out)); (case side2 => exact HC0_0.out); rintro e w13 ⟨rfl, hb⟩; refine ⟨_, rfl, ?_⟩; replace BK1593 := kb BK1593 hb; replace HB := am (below_step bw hb); clear hb) | (go_at_call 205; (with_reducible refine (spec_l2Small.calls a1 true _ A6.out).mono ?_); rintro e w' ⟨rfl, ⟨nd, rfl⟩⟩) | (go_at_call 205; (with_reducible refine (spec_l2Small.calls a2 true _ A8.out).mono ?_); rintro e w' ⟨rfl, ⟨nd, rfl⟩⟩; have hcz14_0 := bc BK1593 0 (.slice A0_0 l0_0.length c0_0); have hfz14_0 := blk_frozen BK1593.out 0) | (go_at_call 154; (with_reducible refine (spec_l3Has.calls k _ _ l0_0 (wrap64 (a2 - a1)) t1597 _ ?side1 ?side2 A10.out).mono ?_); (case side1 => exact co (Kd.C_below HR0_0.out bw)); (case side2 => exact HC0_0.out); rintro e w15 ⟨rfl, hb⟩; replace BK1593 := kb BK1593 hb; replace HB := am (below_step bw hb); clear hb))
    go_ret
    exact ⟨re, bw⟩
   ·obtain rfl := Option.some.inj H
    go_enter Try.func128, Try.ntmps128
    go_wp2_with (first | ((with_reducible refine gate_dst (N := 3) rfl ?_); refine bx 3 #[.slice A0_0 l0_0.length c0_0] 26 ?_; intro gb1593 hg w16 hbox hb; have BK1593 := am (hbox); have GW1593 := am (gs hg : w.heap.size ≤ gb1593); have GE1593 := GW1593; replace HB := am (below_step bw hb); clear hb hbox hg; have hcz17_0 := bc BK1593 0 (.slice A0_0 l0_0.length c0_0); have hfz17_0 := blk_frozen BK1593.out 0) | ((with_reducible refine gate_callee (f := 23) rfl ?_); refine gl (some 8) Try.func23 #[.agg #[.slice A0_0 l0_0.length c0_0]] ?_; (with_reducible refine (spec_IsSemigroup.calls k _ _ l0_0 true _ ?side1 ?side2 A4.out).mono ?_); (case side1 => exact co (Kd.C_below HR0_0.out HB.out)); (case side2 => exact HC0_0.out); rintro e w18 ⟨rfl, hb⟩; refine ⟨_, rfl, ?_⟩; replace BK1593 := kb BK1593 hb; replace HB := am (below_step bw hb); clear hb) | (go_at_call 205; (with_reducible refine (spec_l2Small.calls a1 true _ A6.out).mono ?_); rintro e w' ⟨rfl, ⟨nd, rfl⟩⟩) | (go_at_call 205; (with_reducible refine (spec_l2Small.calls a2 false _ A8.out).mono ?_); rintro e w' ⟨rfl, ⟨nd, rfl⟩⟩))
    go_ret
    exact ⟨re, bw⟩
  ·obtain rfl := Option.some.inj H
   go_enter Try.func128, Try.ntmps128
   go_wp2_with (first | ((with_reducible refine gate_dst (N := 3) rfl ?_); refine bx 3 #[.slice A0_0 l0_0.length c0_0] 26 ?_; intro gb1593 hg w19 hbox hb; have BK1593 := am (hbox); have GW1593 := am (gs hg : w.heap.size ≤ gb1593); have GE1593 := GW1593; replace HB := am (below_step bw hb); clear hb hbox hg; have hcz20_0 := bc BK1593 0 (.slice A0_0 l0_0.length c0_0); have hfz20_0 := blk_frozen BK1593.out 0) | ((with_reducible refine gate_callee (f := 23) rfl ?_); refine gl (some 8) Try.func23 #[.agg #[.slice A0_0 l0_0.length c0_0]] ?_; (with_reducible refine (spec_IsSemigroup.calls k _ _ l0_0 true _ ?side1 ?side2 A4.out).mono ?_); (case side1 => exact co (Kd.C_below HR0_0.out HB.out)); (case side2 => exact HC0_0.out); rintro e w21 ⟨rfl, hb⟩; refine ⟨_, rfl, ?_⟩; replace BK1593 := kb BK1593 hb; replace HB := am (below_step bw hb); clear hb) | (go_at_call 205; (with_reducible refine (spec_l2Small.calls a1 false _ A6.out).mono ?_); rintro e w' ⟨rfl, ⟨nd, rfl⟩⟩))
   go_ret
   exact ⟨re, bw⟩
 ·obtain rfl := Option.some.inj H
  go_enter Try.func128, Try.ntmps128
  go_wp2_with (first | ((with_reducible refine gate_dst (N := 3) rfl ?_); refine bx 3 #[.slice A0_0 l0_0.length c0_0] 26 ?_; intro gb1593 hg w22 hbox hb; have BK1593 := am (hbox); have GW1593 := am (gs hg : w.heap.size ≤ gb1593); have GE1593 := GW1593; replace HB := am (below_step bw hb); clear hb hbox hg; have hcz23_0 := bc BK1593 0 (.slice A0_0 l0_0.length c0_0); have hfz23_0 := blk_frozen BK1593.out 0) | ((with_reducible refine gate_callee (f := 23) rfl ?_); refine gl (some 8) Try.func23 #[.agg #[.slice A0_0 l0_0.length c0_0]] ?_; (with_reducible refine (spec_IsSemigroup.calls k _ _ l0_0 false _ ?side1 ?side2 A4.out).mono ?_); (case side1 => exact co (Kd.C_below HR0_0.out HB.out)); (case side2 => exact HC0_0.out); rintro e w24 ⟨rfl, hb⟩; refine ⟨_, rfl, ?_⟩; replace BK1593 := kb BK1593 hb; replace HB := am (below_step bw hb); clear hb))
  go_ret
  exact ⟨re, bw⟩

end Go.Proofs.Ytkfplkdchkmgbaa.C
