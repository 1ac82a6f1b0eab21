/- Contracts of functions of the program: spec_CanonicalGens, spec_Contains, spec_l9Mirror, spec_IsSymmetric. -/
import Derived.Test.YtkfplkdchkmgbaaGreatC0
import Derived.Test.YtkfplkdchkmgbaaGreatC2
import Derived.Test.YtkfplkdchkmgbaaGreatC3
import Derived.Test.YtkfplkdchkmgbaaGreatC10
import Derived.Test.YtkfplkdchkmgbaaGreatC12
namespace Go.Proofs.YtkfplkdchkmgbaaGreat.C
open Go.RowKit Go.Proofs.YtkfplkdchkmgbaaGreatW.PrintWords Go.Proofs.YtkfplkdchkmgbaaGreatW.PrintLast Go.Proofs.YtkfplkdchkmgbaaGreatW.PrintMore
attribute [local go_sem] max2_int min2_int max_two min_two max_three min_three max_four min_four
set_option linter.unusedVariables false
set_option linter.unusedSimpArgs false

/-! ### spec_CanonicalGens: function 20 -/
def spec_CanonicalGens.l0 : Nat → Int → List Int → List Int → Int → Option (List Int)
 | 0, _, _, _, _ => none
 | k + 1, x3, x4, x5, x6 => if x6 < (x4.length : Int) then (if 0 ≤ x6 then (if x5.length < 17592186044416 then (spec_CanonicalGens.l0 k x3 x4 (x5 ++ [wrap64 (x3 - (rd x4 x6))]) (wrap64 (x6 + 1))) else (none)) else (none)) else ((spec_SortList.f k x5).bind fun t868 => (some t868))
def spec_CanonicalGens.f (k : Nat) (l0_0 : List Int) : Option (List Int) := (spec_IsSemigroup.f k l0_0).bind fun t850 => (if t850 = true then ((spec_FrobeniusOf.f k l0_0).bind fun t854 => ((spec_PseudoFrobenius.f k l0_0).bind fun t855 => (if (t855.length : Int) = 0 then (some (([0] : List Int))) else (spec_CanonicalGens.l0 k t854 t855 (([] : List Int)) 0)))) else (some (([] : List Int))))
set_option maxHeartbeats 8000000 in
set_option maxRecDepth 100000 in
theorem spec_CanonicalGens.calls (k : Nat) (A0_0 : Option Addr) (c0_0 : Nat) (l0_0 : List Int) (r : List Int) (w : World) (hr0_0 : Kd.C (Kd.int .i64) w A0_0 l0_0.length l0_0) (hc0_0 : l0_0.length ≤ c0_0) (h : spec_CanonicalGens.f k l0_0 = some r) :
  Calls Tryz.prog 20 #[.agg #[.slice A0_0 l0_0.length c0_0]] w fun e w' => ∃ v0_ : Value, e = .returned (v0_) ∧ Kd.R (Kd.int .i64) 3 w' w.heap.size (fun _ => True) v0_ r ∧ Below w.heap.size w w' := by
 have hu26 := Tryz.underlying26
 have HR0_0 := am hr0_0
 have HC0_0 := am hc0_0
 clear hr0_0 hc0_0
 have HB := am (Below.refl w.heap.size w)
 have H : ((spec_IsSemigroup.f k l0_0).bind fun t850 => (if t850 = true then ((spec_FrobeniusOf.f k l0_0).bind fun t854 => ((spec_PseudoFrobenius.f k l0_0).bind fun t855 => (if (t855.length : Int) = 0 then (some (([0] : List Int))) else (spec_CanonicalGens.l0 k t854 t855 (([] : List Int)) 0)))) else (some (([] : List Int))))) = some r := h
 clear h
 replace H := ga H; obtain ⟨t850, A2, H⟩ := H
 replace H := gb H; obtain ⟨rfl, H⟩ | ⟨rfl, H⟩ := H
 ·replace H := ga H; obtain ⟨t854, A4, H⟩ := H
  replace H := ga H; obtain ⟨t855, A5, H⟩ := H
  by_cases c6 : (t855.length : Int) = 0
  ·rw [if_pos c6] at H
   have c6b0 : ((t855.length : Int) == 0) = true := beq_iff_eq.mpr c6
   have c6b1 : ((t855.length : Int) != 0) = false := bne_eq_false_iff_eq.mpr c6
   clear c6
   obtain ⟨y858, hy858⟩ : ∃ y_ : List Int, y_ = (([0] : List Int)) := ⟨_, rfl⟩
   replace H : (some y858) = some r := by first | (rw [hy858]; with_reducible first | exact H | exact bs H) | (with_reducible first | exact bs H | exact H) | (rw [hy858]; exact H) | exact H
   have Ny858 := am hy858
   clear hy858
   obtain rfl := Option.some.inj H
   go_enter Tryz.func20, Tryz.ntmps20
   go_wp2_with (first | ((with_reducible refine gate_dst (N := 1) rfl ?_); refine bx 1 #[.slice A0_0 l0_0.length c0_0] 26 ?_; intro gb849 hg w7 hbox hb; have BK849 := am (hbox); have GW849 := am (gs hg : w.heap.size ≤ gb849); have GE849 := GW849; replace HB := am (below_step bw hb); clear hb hbox hg; have hcz8_0 := bc BK849 0 (.slice A0_0 l0_0.length c0_0); have hfz8_0 := blk_frozen BK849.out 0) | ((with_reducible refine gate_callee (f := 21) rfl ?_); refine goesL_ (some 8) rfl rfl Tryz.func21 (by kernel_rfl) rfl #[.agg #[.slice A0_0 l0_0.length c0_0]] rfl (by (try simp only [List.map_toArray, List.map_cons, List.map_nil]); first | done | rfl | (simp only [List.length_drop, List.length_take]; rfl)) ?_; (with_reducible refine (spec_IsSemigroup.calls k _ _ l0_0 true _ ?side1 ?side2 A2.out).mono ?_); (case side1 => exact co (Kd.C_below HR0_0.out HB.out)); (case side2 => exact HC0_0.out); rintro e w9 ⟨rfl, hb⟩; refine ⟨_, rfl, ?_⟩; replace BK849 := kb BK849 hb; replace HB := am (below_step bw hb); clear hb; have hcz10_0 := bc BK849 0 (.slice A0_0 l0_0.length c0_0); have hfz10_0 := blk_frozen BK849.out 0) | ((with_reducible refine gate_callee (f := 22) rfl ?_); refine goesL_ (some 12) rfl rfl Tryz.func22 (by kernel_rfl) rfl #[.agg #[.slice A0_0 l0_0.length c0_0]] rfl (by (try simp only [List.map_toArray, List.map_cons, List.map_nil]); first | done | rfl | (simp only [List.length_drop, List.length_take]; rfl)) ?_; (with_reducible refine (spec_FrobeniusOf.calls k _ _ l0_0 t854 _ ?side1 ?side2 A4.out).mono ?_); (case side1 => exact co (Kd.C_below HR0_0.out HB.out)); (case side2 => exact HC0_0.out); rintro e w11 ⟨rfl, hb⟩; refine ⟨_, rfl, ?_⟩; replace BK849 := kb BK849 hb; replace HB := am (below_step bw hb); clear hb; have hcz12_0 := bc BK849 0 (.slice A0_0 l0_0.length c0_0); have hfz12_0 := blk_frozen BK849.out 0) | ((with_reducible refine gate_callee (f := 62) rfl ?_); refine goesL_ (some 14) rfl rfl Tryz.func62 (by kernel_rfl) rfl #[.agg #[.slice A0_0 l0_0.length c0_0]] rfl (by (try simp only [List.map_toArray, List.map_cons, List.map_nil]); first | done | rfl | (simp only [List.length_drop, List.length_take]; rfl)) ?_; (with_reducible refine (spec_PseudoFrobenius.calls k _ _ l0_0 t855 _ ?side1 ?side2 A5.out).mono ?_); (case side1 => exact co (Kd.C_below HR0_0.out HB.out)); (case side2 => exact HC0_0.out); rintro e w13 ⟨v856, rfl, ho0, hb⟩; refine ⟨_, rfl, ?_⟩; have HO857 := am (Kd.R_lower ho0 (below_size bw)); replace BK849 := kb BK849 hb; replace HB := am (below_step bw hb); clear hb ho0; obtain ⟨Ao14, co14, eo14⟩ := Kd.R_slice HO857.out; subst eo14) | ((with_reducible refine gate_dst (N := 18) rfl ?_); refine Kd.R_lit (Kd.int .i64) _ 3 ?hg (N := 18) ?hd (xs := ([0] : List Int)) (inner := [.int .i64 0]) (ok := fun _ => True) (okp := fun _ => True) ?hr ?hp (fun _ hk => hk) trivial (Below.refl _ _) (Nat.le_refl _) (by simp) ?_; (case hd => rfl); (case hg => rfl); (case hr => first | (go_simp; done) | (go_simp; rfl)); (case hp => exact (Reps.one (show Kd.M (Kd.int .i64) _ _ _ 0 [.int .i64 0] from rfl) (Reps.none _ _))); intro v859 w15 ho16 hb hg_ hnew_; clear hg_ hnew_; (first | rw [← Ny858.out] at ho16 | (simp only [Int.reduceToNat] at ho16; rw [← Ny858.out] at ho16)); have HO860 := am (Kd.R_lower (Kd.R_new' ho16 (Kd.R_lt (ro HO857.out))) (below_size bw)); replace HO857 := am (Kd.R_elder' (ro HO857.out) (Kd.R_base ho16) hb); replace BK849 := kb BK849 hb; replace HB := am (below_step bw hb); clear hb ho16))
   go_ret
   exact ⟨_, re, by (with_reducible repeat (first | apply Kd.R_alloc | apply Kd.R_drewN | apply Kd.R_drew)); exact Kd.R_mono HO860.out (fun _ hk => trivial), bw⟩
  rw [if_neg c6] at H
  have c6b0 : ((t855.length : Int) == 0) = false := beq_eq_false_iff_ne.mpr c6
  have c6b1 : ((t855.length : Int) != 0) = true := bne_iff_ne.mpr c6
  have c6b2 : ¬ (t855 = []) := fun h_ => c6 (by rw [h_]; rfl)
  obtain ⟨y861, hy861⟩ : ∃ y_ : List Int, y_ = (([] : List Int)) := ⟨_, rfl⟩
  replace H : (spec_CanonicalGens.l0 k t854 t855 y861 0) = some r := by first | (rw [hy861]; with_reducible first | exact H | exact bs H) | (with_reducible first | exact bs H | exact H) | (rw [hy861]; exact H) | exact H
  have Ny861 := am hy861
  clear hy861
  have H' := am H
  clear H
  go_enter Tryz.func20, Tryz.ntmps20
  go_wp2_with (first | ((with_reducible refine gate_dst (N := 1) rfl ?_); refine bx 1 #[.slice A0_0 l0_0.length c0_0] 26 ?_; intro gb849 hg w17 hbox hb; have BK849 := am (hbox); have GW849 := am (gs hg : w.heap.size ≤ gb849); have GE849 := GW849; replace HB := am (below_step bw hb); clear hb hbox hg; have hcz18_0 := bc BK849 0 (.slice A0_0 l0_0.length c0_0); have hfz18_0 := blk_frozen BK849.out 0) | ((with_reducible refine gate_callee (f := 21) rfl ?_); refine goesL_ (some 8) rfl rfl Tryz.func21 (by kernel_rfl) rfl #[.agg #[.slice A0_0 l0_0.length c0_0]] rfl (by (try simp only [List.map_toArray, List.map_cons, List.map_nil]); first | done | rfl | (simp only [List.length_drop, List.length_take]; rfl)) ?_; (with_reducible refine (spec_IsSemigroup.calls k _ _ l0_0 true _ ?side1 ?side2 A2.out).mono ?_); (case side1 => exact co (Kd.C_below HR0_0.out HB.out)); (case side2 => exact HC0_0.out); rintro e w19 ⟨rfl, hb⟩; refine ⟨_, rfl, ?_⟩; replace BK849 := kb BK849 hb; replace HB := am (below_step bw hb); clear hb; have hcz20_0 := bc BK849 0 (.slice A0_0 l0_0.length c0_0); have hfz20_0 := blk_frozen BK849.out 0) | ((with_reducible refine gate_callee (f := 22) rfl ?_); refine goesL_ (some 12) rfl rfl Tryz.func22 (by kernel_rfl) rfl #[.agg #[.slice A0_0 l0_0.length c0_0]] rfl (by (try simp only [List.map_toArray, List.map_cons, List.map_nil]); first | done | rfl | (simp only [List.length_drop, List.length_take]; rfl)) ?_; (with_reducible refine (spec_FrobeniusOf.calls k _ _ l0_0 t854 _ ?side1 ?side2 A4.out).mono ?_); (case side1 => exact co (Kd.C_below HR0_0.out HB.out)); (case side2 => exact HC0_0.out); rintro e w21 ⟨rfl, hb⟩; refine ⟨_, rfl, ?_⟩; replace BK849 := kb BK849 hb; replace HB := am (below_step bw hb); clear hb; have hcz22_0 := bc BK849 0 (.slice A0_0 l0_0.length c0_0); have hfz22_0 := blk_frozen BK849.out 0) | ((with_reducible refine gate_callee (f := 62) rfl ?_); refine goesL_ (some 14) rfl rfl Tryz.func62 (by kernel_rfl) rfl #[.agg #[.slice A0_0 l0_0.length c0_0]] rfl (by (try simp only [List.map_toArray, List.map_cons, List.map_nil]); first | done | rfl | (simp only [List.length_drop, List.length_take]; rfl)) ?_; (with_reducible refine (spec_PseudoFrobenius.calls k _ _ l0_0 t855 _ ?side1 ?side2 A5.out).mono ?_); (case side1 => exact co (Kd.C_below HR0_0.out HB.out)); (case side2 => exact HC0_0.out); rintro e w23 ⟨v856, rfl, ho0, hb⟩; refine ⟨_, rfl, ?_⟩; have HO857 := am (Kd.R_lower ho0 (below_size bw)); replace BK849 := kb BK849 hb; replace HB := am (below_step bw hb); clear hb ho0; obtain ⟨Ao24, co24, eo24⟩ := Kd.R_slice HO857.out; subst eo24) | ((with_reducible refine gate_dst (N := 19) rfl ?_); refine Kd.R_lit (Kd.int .i64) _ 3 ?hg (N := 19) ?hd (xs := ([] : List Int)) (inner := []) (ok := fun _ => True) (okp := fun _ => True) ?hr ?hp (fun _ hk => hk) trivial (Below.refl _ _) (Nat.le_refl _) (by simp) ?_; (case hd => rfl); (case hg => rfl); (case hr => first | (go_simp; done) | (go_simp; rfl)); (case hp => exact (Reps.none _ _)); intro v862 w25 ho26 hb hg_ hnew_; clear hg_ hnew_; (first | rw [← Ny861.out] at ho26 | (simp only [Int.reduceToNat] at ho26; rw [← Ny861.out] at ho26)); have HO863 := am (Kd.R_lower (Kd.R_new' ho26 (Kd.R_lt (ro HO857.out))) (below_size bw)); replace HO857 := am (Kd.R_elder' (ro HO857.out) (Kd.R_base ho26) hb); replace BK849 := kb BK849 hb; replace HB := am (below_step bw hb); clear hb ho26))
  go_loopg [5, 6] k (fun kq v5 v6 w' => ∃ (x5_1 : List Int) (x6_1 : Int), v6 = .int .i64 x6_1 ∧ Aside0 (spec_CanonicalGens.l0 kq t854 t855 x5_1 x6_1 = some r) ∧ Aside0 (kq ≤ k) ∧ Aside0 (Kd.R (Kd.int .i64) 3 w' w.heap.size (fun k_ => some k_ ≠ (v5 : Value).ownBlock) (.slice Ao24 t855.length co24) t855) ∧ Aside0 (Kd.R (Kd.int .i64) 3 w' w.heap.size (fun k_ => nb k_ Ao24 t855 co24) v5 x5_1) ∧ Aside0 (w'.heap[gb849]? = some (.cells #[(.slice A0_0 l0_0.length c0_0)] 26 (0, 0))) ∧ Aside0 (Below w.heap.size w w'))
  case atStart => exact ⟨(y861), (0), rr, H', ⟨Nat.le_refl _⟩, ⟨by (with_reducible repeat (first | apply Kd.R_alloc | apply Kd.R_drewN | apply Kd.R_drew)); exact Kd.R_mono HO857.out (fun _ hk => hk.2)⟩, ⟨by (with_reducible repeat (first | apply Kd.R_alloc | apply Kd.R_drewN | apply Kd.R_drew)); exact Kd.R_mono HO863.out (fun _ hk => hk.2)⟩, ⟨bo BK849.out⟩, ⟨bw⟩⟩
  case round =>
   clear H'
   try clear c6; try clear c6b0; try clear c6b1; try clear c6b2; try clear hcz10_0; try clear hcz12_0; try clear hcz18_0; try clear hcz20_0; try clear hcz22_0; try clear hcz8_0; try clear hfz10_0; try clear hfz12_0; try clear hfz18_0; try clear hfz20_0; try clear hfz22_0; try clear hfz8_0
   obtain ⟨x5_1, x6_1, rfl, HA, HK1, HO_4, HO_5, BK849, HB⟩ := hrel
   cases gk with
   | zero => exact absurd HA.out (by simp [spec_CanonicalGens.l0])
   | succ k1 =>
    have H := HA.out
    clear HA
    simp only [spec_CanonicalGens.l0] at H
    replace H := gi H; obtain ⟨c27b0, H⟩ | ⟨c27b0, H⟩ := H
    ·replace H := gd H; obtain ⟨c28b0, H⟩ := H
     by_cases c29 : x5_1.length < 17592186044416
     rotate_left
     ·rw [if_neg c29] at H
      exact absurd H (by simp)
     rw [if_pos c29] at H
     have LMc29 := am c29
     clear c29
     obtain ⟨y865, hy865⟩ : ∃ y_ : List Int, y_ = (x5_1 ++ [wrap64 (t854 - (rd t855 x6_1))]) := ⟨_, rfl⟩
     replace H : (spec_CanonicalGens.l0 k1 t854 t855 y865 (wrap64 (x6_1 + 1))) = some r := by first | (rw [hy865]; with_reducible first | exact H | exact bs H) | (with_reducible first | exact bs H | exact H) | (rw [hy865]; exact H) | exact H
     have Ny865 := am hy865
     clear hy865
     have H' := am H
     clear H
     obtain ⟨⟨ad864, e864, hx864_0⟩, p864, q864⟩ := pq (Kd.at_int (Kd.R_reads' HO_4.out).2.2 x6_1)
     cases e864
     go_wp2_with (first | ((with_reducible refine gate_builtin (b := .append) (xs := #[.tmp 26, .tmp 33]) rfl ?_); at_builtin; refine Kd.R_append (Kd.int .i64) (w0 := w) w.heap.size rfl (.tmp 26) (.tmp 33) 24 3 (.int .i64 0) 8 rfl Tryz.underlying24 info3 rfl (by decide) (by omega) u5 x5_1 (wrap64 (t854 - (rd t855 x6_1))) [.int .i64 (wrap64 (t854 - (rd t855 x6_1)))] (fun k_ => some k_ ≠ (.slice (some ad864) t855.length co24 : Value).ownBlock) (fun _ => False) rfl rfl ?aP (fun _ hk => hk.elim) ?aF ?aO ?aB ?aS ?aL ?_; (case aP => exact rfl); (case aB => exact bw); (case aF => exact (fun k_ hk => Kd.fresh' (Kd.R_lt (ro HO_4.out)) k_ hk)); (case aO => exact (ro HO_5.out)); (case aS => exact (below_size bw)); (case aL => have := LMc29.out; omega); intro v866 w30 ho hb hg hat; rw [← Ny865.out] at ho; replace HO_4 := am (Kd.R_after (ok := (fun _ => True)) (by (with_reducible repeat (first | apply Kd.R_alloc | apply Kd.R_drewN | apply Kd.R_drew)); exact Kd.R_mono HO_4.out (fun _ hk => ⟨trivial, by first | exact hk | exact (by intro a n m c x h; cases a <;> exact h : ∀ (a : Option Addr) (n m c x : Nat), some x ≠ (Value.slice a n c).ownBlock → some x ≠ (Value.slice a m c).ownBlock) _ _ _ _ _ hk⟩)) hg hat); replace BK849 := am (blk_grown (g := gb849) (o := .cells #[.slice A0_0 l0_0.length c0_0] 26 (0, 0)) (bo BK849.out) hg (Kd.R_ne HO_5.out BK849.out (by decide))); replace HB := am (hb); have HO867 := am (ho); clear HO_5 ho hb hg hat))
     go_roundg k1
     case measure => have := HK1.out; omega
     case rel => exact ⟨(y865), (wrap64 (x6_1 + 1)), rr, H', ⟨by have := HK1.out; omega⟩, ⟨by (with_reducible repeat (first | apply Kd.R_alloc | apply Kd.R_drewN | apply Kd.R_drew)); exact Kd.R_mono HO_4.out (fun _ hk => hk.2)⟩, ⟨ro HO867.out⟩, ⟨bo BK849.out⟩, ⟨bw⟩⟩
    replace H := ga H; obtain ⟨t868, A31, H⟩ := H
    obtain rfl := Option.some.inj H
    obtain ⟨Ao32, co32, eo32⟩ := Kd.R_slice HO_5.out
    subst eo32
    go_wp2_with (first | ((with_reducible refine gate_callee (f := 59) rfl ?_); refine goesL_ (some 36) rfl rfl Tryz.func59 (by kernel_rfl) rfl #[.slice Ao32 x5_1.length co32] rfl (by (try simp only [List.map_toArray, List.map_cons, List.map_nil]); first | done | rfl | (simp only [List.length_drop, List.length_take]; rfl)) ?_; (with_reducible refine (spec_SortList.calls k1 _ _ x5_1 t868 _ ?side1 ?side2 A31.out).mono ?_); (case side1 => exact co (Kd.R_reads' HO_5.out).2.2); (case side2 => exact (Kd.R_reads' HO_5.out).2.1); rintro e w33 ⟨v869, rfl, ho0, hb⟩; refine ⟨_, rfl, ?_⟩; have HO870 := am (Kd.R_lower (Kd.R_new' (Kd.R_new' ho0 (Kd.R_lt (ro HO_4.out))) (Kd.R_lt (ro HO_5.out))) (below_size bw)); replace HO_4 := am (Kd.R_elder' (ro HO_4.out) (Kd.R_base ho0) hb); replace HO_5 := am (Kd.R_elder' (ro HO_5.out) (Kd.R_base ho0) hb); replace BK849 := kb BK849 hb; replace HB := am (below_step bw hb); clear hb ho0))
    go_ret
    exact ⟨_, re, by (with_reducible repeat (first | apply Kd.R_alloc | apply Kd.R_drewN | apply Kd.R_drew)); exact Kd.R_mono HO870.out (fun _ hk => trivial), bw⟩
 obtain ⟨y851, hy851⟩ : ∃ y_ : List Int, y_ = (([] : List Int)) := ⟨_, rfl⟩
 replace H : (some y851) = some r := by first | (rw [hy851]; with_reducible first | exact H | exact bs H) | (with_reducible first | exact bs H | exact H) | (rw [hy851]; exact H) | exact H
 have Ny851 := am hy851
 clear hy851
 obtain rfl := Option.some.inj H
 go_enter Tryz.func20, Tryz.ntmps20
 go_wp2_with (first | ((with_reducible refine gate_dst (N := 1) rfl ?_); refine bx 1 #[.slice A0_0 l0_0.length c0_0] 26 ?_; intro gb849 hg w34 hbox hb; have BK849 := am (hbox); have GW849 := am (gs hg : w.heap.size ≤ gb849); have GE849 := GW849; replace HB := am (below_step bw hb); clear hb hbox hg; have hcz35_0 := bc BK849 0 (.slice A0_0 l0_0.length c0_0); have hfz35_0 := blk_frozen BK849.out 0) | ((with_reducible refine gate_callee (f := 21) rfl ?_); refine goesL_ (some 8) rfl rfl Tryz.func21 (by kernel_rfl) rfl #[.agg #[.slice A0_0 l0_0.length c0_0]] rfl (by (try simp only [List.map_toArray, List.map_cons, List.map_nil]); first | done | rfl | (simp only [List.length_drop, List.length_take]; rfl)) ?_; (with_reducible refine (spec_IsSemigroup.calls k _ _ l0_0 false _ ?side1 ?side2 A2.out).mono ?_); (case side1 => exact co (Kd.C_below HR0_0.out HB.out)); (case side2 => exact HC0_0.out); rintro e w36 ⟨rfl, hb⟩; refine ⟨_, rfl, ?_⟩; replace BK849 := kb BK849 hb; replace HB := am (below_step bw hb); clear hb) | ((with_reducible refine gate_dst (N := 10) rfl ?_); refine Kd.R_lit (Kd.int .i64) _ 3 ?hg (N := 10) ?hd (xs := ([] : List Int)) (inner := []) (ok := fun _ => True) (okp := fun _ => True) ?hr ?hp (fun _ hk => hk) trivial (Below.refl _ _) (Nat.le_refl _) (by simp) ?_; (case hd => rfl); (case hg => rfl); (case hr => first | (go_simp; done) | (go_simp; rfl)); (case hp => exact (Reps.none _ _)); intro v852 w37 ho38 hb hg_ hnew_; clear hg_ hnew_; (first | rw [← Ny851.out] at ho38 | (simp only [Int.reduceToNat] at ho38; rw [← Ny851.out] at ho38)); have HO853 := am (Kd.R_lower ho38 (below_size bw)); replace BK849 := kb BK849 hb; replace HB := am (below_step bw hb); clear hb ho38))
 go_ret
 exact ⟨_, re, ro HO853.out, bw⟩


/-! ### spec_Contains: function 23 -/
def spec_Contains.f (k : Nat) (l0_0 : List Int) (a1 : Int) : Option (Bool) := (spec_IsSemigroup.f k l0_0).bind fun t872 => (if t872 = true then ((spec_l3Has.f k l0_0 a1).bind fun t873 => (some t873)) else (some false))
set_option maxHeartbeats 8000000 in
set_option maxRecDepth 100000 in
theorem spec_Contains.calls (k : Nat) (A0_0 : Option Addr) (c0_0 : Nat) (l0_0 : List Int) (a1 : Int) (r : Bool) (w : World) (hr0_0 : Kd.C (Kd.int .i64) w A0_0 l0_0.length l0_0) (hc0_0 : l0_0.length ≤ c0_0) (h : spec_Contains.f k l0_0 a1 = some r) :
  Calls Tryz.prog 23 #[.agg #[.slice A0_0 l0_0.length c0_0], .int .i64 a1] w fun e w' => e = .returned (.bool r) ∧ Below w.heap.size w w' := by
 have hu26 := Tryz.underlying26
 have HR0_0 := am hr0_0
 have HC0_0 := am hc0_0
 clear hr0_0 hc0_0
 have HB := am (Below.refl w.heap.size w)
 have H : ((spec_IsSemigroup.f k l0_0).bind fun t872 => (if t872 = true then ((spec_l3Has.f k l0_0 a1).bind fun t873 => (some t873)) else (some false))) = some r := h
 clear h
 replace H := ga H; obtain ⟨t872, A3, H⟩ := H
 replace H := gb H; obtain ⟨rfl, H⟩ | ⟨rfl, H⟩ := H
 ·replace H := ga H; obtain ⟨t873, A5, H⟩ := H
  obtain rfl := Option.some.inj H
  go_enter Tryz.func23, Tryz.ntmps23
  go_wp2_with (first | ((with_reducible refine gate_dst (N := 2) rfl ?_); refine bx 2 #[.slice A0_0 l0_0.length c0_0] 26 ?_; intro gb871 hg w6 hbox hb; have BK871 := am (hbox); have GW871 := am (gs hg : w.heap.size ≤ gb871); have GE871 := GW871; replace HB := am (below_step bw hb); clear hb hbox hg; have hcz7_0 := bc BK871 0 (.slice A0_0 l0_0.length c0_0); have hfz7_0 := blk_frozen BK871.out 0) | ((with_reducible refine gate_callee (f := 21) rfl ?_); refine goesL_ (some 6) rfl rfl Tryz.func21 (by kernel_rfl) rfl #[.agg #[.slice A0_0 l0_0.length c0_0]] rfl (by (try simp only [List.map_toArray, List.map_cons, List.map_nil]); first | done | rfl | (simp only [List.length_drop, List.length_take]; rfl)) ?_; (with_reducible refine (spec_IsSemigroup.calls k _ _ l0_0 true _ ?side1 ?side2 A3.out).mono ?_); (case side1 => exact co (Kd.C_below HR0_0.out HB.out)); (case side2 => exact HC0_0.out); rintro e w8 ⟨rfl, hb⟩; refine ⟨_, rfl, ?_⟩; replace BK871 := kb BK871 hb; replace HB := am (below_step bw hb); clear hb; have hcz9_0 := bc BK871 0 (.slice A0_0 l0_0.length c0_0); have hfz9_0 := blk_frozen BK871.out 0) | (go_at_call 70; (with_reducible refine (spec_l3Has.calls k _ _ l0_0 a1 t873 _ ?side1 ?side2 A5.out).mono ?_); (case side1 => exact co (Kd.C_below HR0_0.out HB.out)); (case side2 => exact HC0_0.out); rintro e w10 ⟨rfl, hb⟩; replace BK871 := kb BK871 hb; replace HB := am (below_step bw hb); clear hb))
  go_ret
  exact ⟨re, bw⟩
 obtain rfl := Option.some.inj H
 go_enter Tryz.func23, Tryz.ntmps23
 go_wp2_with (first | ((with_reducible refine gate_dst (N := 2) rfl ?_); refine bx 2 #[.slice A0_0 l0_0.length c0_0] 26 ?_; intro gb871 hg w11 hbox hb; have BK871 := am (hbox); have GW871 := am (gs hg : w.heap.size ≤ gb871); have GE871 := GW871; replace HB := am (below_step bw hb); clear hb hbox hg; have hcz12_0 := bc BK871 0 (.slice A0_0 l0_0.length c0_0); have hfz12_0 := blk_frozen BK871.out 0) | ((with_reducible refine gate_callee (f := 21) rfl ?_); refine goesL_ (some 6) rfl rfl Tryz.func21 (by kernel_rfl) rfl #[.agg #[.slice A0_0 l0_0.length c0_0]] rfl (by (try simp only [List.map_toArray, List.map_cons, List.map_nil]); first | done | rfl | (simp only [List.length_drop, List.length_take]; rfl)) ?_; (with_reducible refine (spec_IsSemigroup.calls k _ _ l0_0 false _ ?side1 ?side2 A3.out).mono ?_); (case side1 => exact co (Kd.C_below HR0_0.out HB.out)); (case side2 => exact HC0_0.out); rintro e w13 ⟨rfl, hb⟩; refine ⟨_, rfl, ?_⟩; replace BK871 := kb BK871 hb; replace HB := am (below_step bw hb); clear hb))
 go_ret
 exact ⟨re, bw⟩


/-! ### spec_l9Mirror: function 71 -/
mutual
def spec_l9Mirror.l0 : Nat → Bool → Int → Int → List Int → Option (Bool)
 | 0, _, _, _, _ => none
 | k + 1, x1, x5, x6, x875000 => if x6 ≤ x5 then (if x1 = true then (spec_l9Mirror.j1 k x1 x5 x6 ((wrap64 (2 * x6)) == x5) x875000) else (spec_l9Mirror.j1 k x1 x5 x6 false x875000)) else (some true)
def spec_l9Mirror.j1 : Nat → Bool → Int → Int → Bool → List Int → Option (Bool)
 | 0, _, _, _, _, _ => none
 | k + 1, x1, x5, x6, x20, x875000 => if x20 = true then (spec_l9Mirror.l0 k x1 x5 (wrap64 (x6 + 1)) x875000) else ((spec_l3Has.f k x875000 x6).bind fun t876 => ((spec_l3Has.f k x875000 (wrap64 (x5 - x6))).bind fun t877 => (if (t876 == t877) = true then (some false) else (spec_l9Mirror.l0 k x1 x5 (wrap64 (x6 + 1)) x875000))))
end
def spec_l9Mirror.f (k : Nat) (l0_0 : List Int) (a1 : Bool) : Option (Bool) := (spec_FrobeniusOf.f k l0_0).bind fun t875 => (spec_l9Mirror.l0 k a1 t875 0 l0_0)
def spec_l9Mirror.T6 : Bool × List (List Nat × List Nat) := (true, [([], []), ([], []), ([0, 1], [0, 1]), ([], []), ([], []), ([], []), ([4, 5], [4, 5]), ([3, 6, 2], [3, 6]), ([2, 7], [2, 7])])
def spec_l9Mirror.B6 : List Nat := [0, 0, 3, 0, 0, 0, 48, 127, 255]
theorem spec_l9Mirror.tab6 : rtab .any (opsOf Tryz.f71 6) = spec_l9Mirror.T6 := by kernel_rfl
theorem spec_l9Mirror.bits6 : waitsOk spec_l9Mirror.T6.2 spec_l9Mirror.B6 = true := by kernel_rfl
set_option maxHeartbeats 8000000 in
set_option maxRecDepth 100000 in
theorem spec_l9Mirror.calls (k : Nat) (A0_0 : Option Addr) (c0_0 : Nat) (l0_0 : List Int) (a1 : Bool) (r : Bool) (w : World) (hr0_0 : Kd.C (Kd.int .i64) w A0_0 l0_0.length l0_0) (hc0_0 : l0_0.length ≤ c0_0) (h : spec_l9Mirror.f k l0_0 a1 = some r) :
  Calls Tryz.prog 71 #[.agg #[.slice A0_0 l0_0.length c0_0], .bool a1] w fun e w' => e = .returned (.bool r) ∧ Below w.heap.size w w' := by
 have hu26 := Tryz.underlying26
 have HR0_0 := am hr0_0
 have HC0_0 := am hc0_0
 clear hr0_0 hc0_0
 have HB := am (Below.refl w.heap.size w)
 have H : ((spec_FrobeniusOf.f k l0_0).bind fun t875 => (spec_l9Mirror.l0 k a1 t875 0 l0_0)) = some r := h
 clear h
 replace H := ga H; obtain ⟨t875, A3, H⟩ := H
 have H' := am H
 clear H
 go_enter Tryz.func71, Tryz.ntmps71
 go_wp2_with (first | ((with_reducible refine gate_dst (N := 2) rfl ?_); refine bx 2 #[.slice A0_0 l0_0.length c0_0] 26 ?_; intro gb874 hg w4 hbox hb; have BK874 := am (hbox); have GW874 := am (gs hg : w.heap.size ≤ gb874); have GE874 := GW874; replace HB := am (below_step bw hb); clear hb hbox hg; have hcz5_0 := bc BK874 0 (.slice A0_0 l0_0.length c0_0); have hfz5_0 := blk_frozen BK874.out 0) | ((with_reducible refine gate_callee (f := 22) rfl ?_); refine goesL_ (some 8) rfl rfl Tryz.func22 (by kernel_rfl) rfl #[.agg #[.slice A0_0 l0_0.length c0_0]] rfl (by (try simp only [List.map_toArray, List.map_cons, List.map_nil]); first | done | rfl | (simp only [List.length_drop, List.length_take]; rfl)) ?_; (with_reducible refine (spec_FrobeniusOf.calls k _ _ l0_0 t875 _ ?side1 ?side2 A3.out).mono ?_); (case side1 => exact co (Kd.C_below HR0_0.out HB.out)); (case side2 => exact HC0_0.out); rintro e w6 ⟨rfl, hb⟩; refine ⟨_, rfl, ?_⟩; replace BK874 := kb BK874 hb; replace HB := am (below_step bw hb); clear hb))
 go_loopg [6] k (fun kq v6 w' => ∃ (x6_1 : Int), v6 = .int .i64 x6_1 ∧ Aside0 (spec_l9Mirror.l0 kq a1 t875 x6_1 l0_0 = some r) ∧ Aside0 (kq ≤ k) ∧ Aside0 (w'.heap[gb874]? = some (.cells #[(.slice A0_0 l0_0.length c0_0)] 26 (0, 0))) ∧ Aside0 (Below w.heap.size w w'))
 case atStart => exact ⟨(0), rr, H', ⟨Nat.le_refl _⟩, ⟨bo BK874.out⟩, ⟨bw⟩⟩
 case round =>
  clear H'
  try clear hcz5_0; try clear hfz5_0
  obtain ⟨x6_1, rfl, HA, HK1, BK874, HB⟩ := hrel
  cases gk with
  | zero => exact absurd HA.out (by simp [spec_l9Mirror.l0])
  | succ k1 =>
   have H := HA.out
   clear HA
   simp only [spec_l9Mirror.l0] at H
   replace H := gi H; obtain ⟨c7b0, H⟩ | ⟨c7b0, H⟩ := H
   ·have HC8 := am H
    clear H
    go_upto_region 5 with (fail)
    go_cut [20] (fun v20 wc => ∃ (kq : Nat) (x20_7 : Bool), v20 = .bool x20_7 ∧ Aside0 (spec_l9Mirror.j1 kq a1 t875 x6_1 x20_7 l0_0 = some r) ∧ Aside0 (kq ≤ k1) ∧ Aside0 (wc.heap[gb874]? = some (.cells #[(.slice A0_0 l0_0.length c0_0)] 26 (0, 0))) ∧ Aside0 (Below w.heap.size w wc))
    case first =>
     have H := HC8.out
     clear HC8
     replace H := gb H; obtain ⟨rfl, H⟩ | ⟨rfl, H⟩ := H
     ·have H' := am H
      clear H
      go_wp2
      go_meet
      case rel => exact ⟨_, (((wrap64 (2 * x6_1)) == t875)), rr, H', ⟨by have := HK1.out; first | omega | exact Nat.le_refl _⟩, ⟨bo BK874.out⟩, ⟨bw⟩⟩
     have H' := am H
     clear H
     go_wp2
     go_meet
     case rel => exact ⟨_, (false), rr, H', ⟨by have := HK1.out; first | omega | exact Nat.le_refl _⟩, ⟨bo BK874.out⟩, ⟨bw⟩⟩
    case rest =>
     clear HC8
     try clear c7b0; try clear hcz5_0; try clear hfz5_0
     obtain ⟨kq, x20_7, rfl, HA, HJ7, BK874, HB⟩ := hcut
     cases kq with
     | zero => exact absurd HA.out (by simp [spec_l9Mirror.j1])
     | succ kj7 =>
      have H := HA.out
      clear HA
      simp only [spec_l9Mirror.j1] at H
      replace H := gb H; obtain ⟨rfl, H⟩ | ⟨rfl, H⟩ := H
      ·have H' := am H
       clear H
       go_wp2
       go_roundg kj7
       case measure => have := HK1.out; have := HJ7.out; omega
       case rel => exact ⟨(wrap64 (x6_1 + 1)), rr, H', ⟨by have := HK1.out; have := HJ7.out; omega⟩, ⟨bo BK874.out⟩, ⟨bw⟩⟩
      replace H := ga H; obtain ⟨t876, A11, H⟩ := H
      replace H := ga H; obtain ⟨t877, A12, H⟩ := H
      by_cases c13 : (t876 == t877) = true
      ·rw [if_pos c13] at H
       have c13b0 : (t876 == t877) = true := c13
       (try (have c13b1 : decide (t876 = t877) = true := by simpa using c13))
       (try (have c13b2 : (t876 == t877) = true := by simpa using c13))
       clear c13
       obtain rfl := Option.some.inj H
       try go_wp2
       replace BK874 := bd BK874
       replace HB := am (below_drew1 HB.out)
       refine start_ (n := 9) (S := fun w' => w'.cell? ⟨gb874, 0, none⟩ = some (.slice A0_0 l0_0.length c0_0)) (ds := []) (yz 9 0) (by kernel_rfl) rfl rfl (bc BK874 0 _) (fun hHeld => ?_); refine with_tabW spec_l9Mirror.tab6 spec_l9Mirror.bits6 (fun HT_ HW_ => ?_)
       generalize wc.drew = w14 at BK874 HB hHeld ⊢
       refine pa 1 (some 22) (yz 9 2) HT_ ?_
       refine pa 4 (some 25) (yz 9 18) HT_ ?_
       refine pa 5 (some 26) (yz 9 50) HT_ ?_
       refine pa 6 (some 27) (yz 9 114) HT_ ?_
       refine tK 0 (some 21) (yz 9 115) HT_ HW_ hHeld ?_
       refine tK 3 (some 24) (yz 9 123) HT_ HW_ hHeld ?_
       refine oa 2 (some 23) (yz 9 127) HT_ (fun K hK => ?_)
       refine goes_ Tryz.func70 (by kernel_rfl) rfl #[.agg #[.slice A0_0 l0_0.length c0_0], .int .i64 x6_1] (by rfl) rfl rfl (by (try simp only [List.map_toArray, List.map_cons, List.map_nil]); first | done | rfl | (simp only [List.length_drop, List.length_take]; rfl)) ?_
       with_reducible refine (spec_l3Has.calls kj7 _ _ l0_0 x6_1 t876 _ ?side1 ?side2 A11.out).mono ?_
       (case side1 => exact co (Kd.C_below HR0_0.out HB.out))
       (case side2 => exact HC0_0.out)
       rintro e w15 ⟨rfl, hb⟩
       refine ⟨_, rfl, ?_⟩
       replace BK874 := kb BK874 hb
       replace HB := am (below_step bw hb)
       clear hb
       refine hK.out _ _ (bc BK874 0 _) (fun hHeld => ?_)
       clear hK K
       refine nm (some 23) ?_
       refine oa 7 (some 28) (yz 9 255) HT_ (fun K hK => ?_)
       refine goes_ Tryz.func70 (by kernel_rfl) rfl #[.agg #[.slice A0_0 l0_0.length c0_0], .int .i64 (wrap64 (t875 - x6_1))] (by rfl) rfl rfl (by (try simp only [List.map_toArray, List.map_cons, List.map_nil]); first | done | rfl | (simp only [List.length_drop, List.length_take]; rfl)) ?_
       with_reducible refine (spec_l3Has.calls kj7 _ _ l0_0 (wrap64 (t875 - x6_1)) t877 _ ?side1 ?side2 A12.out).mono ?_
       (case side1 => exact co (Kd.C_below HR0_0.out HB.out))
       (case side2 => exact HC0_0.out)
       rintro e w16 ⟨rfl, hb⟩
       refine ⟨_, rfl, ?_⟩
       replace BK874 := kb BK874 hb
       replace HB := am (below_step bw hb)
       clear hb
       refine hK.out _ _ (bc BK874 0 _) (fun hHeld => ?_)
       clear hK K
       refine nm (some 28) ?_
       refine pa 8 (some 29) (yz 9 511) HT_ ?_
       refine done_ (done_of HT_.out (by kernel_rfl)) ?_
       try go_wp2
       go_ret
       exact ⟨re, bw⟩
      rw [if_neg c13] at H
      have c13b0 : (t876 == t877) = false := by simpa using c13
      (try (have c13b1 : decide (t876 = t877) = false := by simpa using c13))
      (try (have c13b2 : (t876 == t877) = false := by simpa using c13))
      (try (have c13b3 : ¬ (t876 = t877) := by simpa using c13))
      clear c13
      have H' := am H
      clear H
      try go_wp2
      replace BK874 := bd BK874
      replace HB := am (below_drew1 HB.out)
      refine start_ (n := 9) (S := fun w' => w'.cell? ⟨gb874, 0, none⟩ = some (.slice A0_0 l0_0.length c0_0)) (ds := []) (yz 9 0) (by kernel_rfl) rfl rfl (bc BK874 0 _) (fun hHeld => ?_); refine with_tabW spec_l9Mirror.tab6 spec_l9Mirror.bits6 (fun HT_ HW_ => ?_)
      generalize wc.drew = w17 at BK874 HB hHeld ⊢
      refine pa 1 (some 22) (yz 9 2) HT_ ?_
      refine pa 4 (some 25) (yz 9 18) HT_ ?_
      refine pa 5 (some 26) (yz 9 50) HT_ ?_
      refine pa 6 (some 27) (yz 9 114) HT_ ?_
      refine tK 0 (some 21) (yz 9 115) HT_ HW_ hHeld ?_
      refine tK 3 (some 24) (yz 9 123) HT_ HW_ hHeld ?_
      refine oa 2 (some 23) (yz 9 127) HT_ (fun K hK => ?_)
      refine goes_ Tryz.func70 (by kernel_rfl) rfl #[.agg #[.slice A0_0 l0_0.length c0_0], .int .i64 x6_1] (by rfl) rfl rfl (by (try simp only [List.map_toArray, List.map_cons, List.map_nil]); first | done | rfl | (simp only [List.length_drop, List.length_take]; rfl)) ?_
      with_reducible refine (spec_l3Has.calls kj7 _ _ l0_0 x6_1 t876 _ ?side1 ?side2 A11.out).mono ?_
      (case side1 => exact co (Kd.C_below HR0_0.out HB.out))
      (case side2 => exact HC0_0.out)
      rintro e w18 ⟨rfl, hb⟩
      refine ⟨_, rfl, ?_⟩
      replace BK874 := kb BK874 hb
      replace HB := am (below_step bw hb)
      clear hb
      refine hK.out _ _ (bc BK874 0 _) (fun hHeld => ?_)
      clear hK K
      refine nm (some 23) ?_
      refine oa 7 (some 28) (yz 9 255) HT_ (fun K hK => ?_)
      refine goes_ Tryz.func70 (by kernel_rfl) rfl #[.agg #[.slice A0_0 l0_0.length c0_0], .int .i64 (wrap64 (t875 - x6_1))] (by rfl) rfl rfl (by (try simp only [List.map_toArray, List.map_cons, List.map_nil]); first | done | rfl | (simp only [List.length_drop, List.length_take]; rfl)) ?_
      with_reducible refine (spec_l3Has.calls kj7 _ _ l0_0 (wrap64 (t875 - x6_1)) t877 _ ?side1 ?side2 A12.out).mono ?_
      (case side1 => exact co (Kd.C_below HR0_0.out HB.out))
      (case side2 => exact HC0_0.out)
      rintro e w19 ⟨rfl, hb⟩
      refine ⟨_, rfl, ?_⟩
      replace BK874 := kb BK874 hb
      replace HB := am (below_step bw hb)
      clear hb
      refine hK.out _ _ (bc BK874 0 _) (fun hHeld => ?_)
      clear hK K
      refine nm (some 28) ?_
      refine pa 8 (some 29) (yz 9 511) HT_ ?_
      refine done_ (done_of HT_.out (by kernel_rfl)) ?_
      try go_wp2
      go_roundg kj7
      case measure => have := HK1.out; have := HJ7.out; omega
      case rel => exact ⟨(wrap64 (x6_1 + 1)), rr, H', ⟨by have := HK1.out; have := HJ7.out; omega⟩, ⟨bo BK874.out⟩, ⟨bw⟩⟩
   obtain rfl := Option.some.inj H
   go_wp2
   go_ret
   exact ⟨re, bw⟩


/-! ### spec_IsSymmetric: function 24 -/
def spec_IsSymmetric.f (k : Nat) (l0_0 : List Int) : Option (Bool) := (spec_IsSemigroup.f k l0_0).bind fun t879 => (if t879 = true then ((spec_l9Mirror.f k l0_0 false).bind fun t880 => (some t880)) else (some false))
set_option maxHeartbeats 8000000 in
set_option maxRecDepth 100000 in
theorem spec_IsSymmetric.calls (k : Nat) (A0_0 : Option Addr) (c0_0 : Nat) (l0_0 : List Int) (r : Bool) (w : World) (hr0_0 : Kd.C (Kd.int .i64) w A0_0 l0_0.length l0_0) (hc0_0 : l0_0.length ≤ c0_0) (h : spec_IsSymmetric.f k l0_0 = some r) :
  Calls Tryz.prog 24 #[.agg #[.slice A0_0 l0_0.length c0_0]] w fun e w' => e = .returned (.bool r) ∧ Below w.heap.size w w' := by
 have hu26 := Tryz.underlying26
 have HR0_0 := am hr0_0
 have HC0_0 := am hc0_0
 clear hr0_0 hc0_0
 have HB := am (Below.refl w.heap.size w)
 have H : ((spec_IsSemigroup.f k l0_0).bind fun t879 => (if t879 = true then ((spec_l9Mirror.f k l0_0 false).bind fun t880 => (some t880)) else (some false))) = some r := h
 clear h
 replace H := ga H; obtain ⟨t879, A2, H⟩ := H
 replace H := gb H; obtain ⟨rfl, H⟩ | ⟨rfl, H⟩ := H
 ·replace H := ga H; obtain ⟨t880, A4, H⟩ := H
  obtain rfl := Option.some.inj H
  go_enter Tryz.func24, Tryz.ntmps24
  go_wp2_with (first | ((with_reducible refine gate_dst (N := 1) rfl ?_); refine bx 1 #[.slice A0_0 l0_0.length c0_0] 26 ?_; intro gb878 hg w5 hbox hb; have BK878 := am (hbox); have GW878 := am (gs hg : w.heap.size ≤ gb878); have GE878 := GW878; replace HB := am (below_step bw hb); clear hb hbox hg; have hcz6_0 := bc BK878 0 (.slice A0_0 l0_0.length c0_0); have hfz6_0 := blk_frozen BK878.out 0) | ((with_reducible refine gate_callee (f := 21) rfl ?_); refine goesL_ (some 4) rfl rfl Tryz.func21 (by kernel_rfl) rfl #[.agg #[.slice A0_0 l0_0.length c0_0]] rfl (by (try simp only [List.map_toArray, List.map_cons, List.map_nil]); first | done | rfl | (simp only [List.length_drop, List.length_take]; rfl)) ?_; (with_reducible refine (spec_IsSemigroup.calls k _ _ l0_0 true _ ?side1 ?side2 A2.out).mono ?_); (case side1 => exact co (Kd.C_below HR0_0.out HB.out)); (case side2 => exact HC0_0.out); rintro e w7 ⟨rfl, hb⟩; refine ⟨_, rfl, ?_⟩; replace BK878 := kb BK878 hb; replace HB := am (below_step bw hb); clear hb; have hcz8_0 := bc BK878 0 (.slice A0_0 l0_0.length c0_0); have hfz8_0 := blk_frozen BK878.out 0) | (go_at_call 71; (with_reducible refine (spec_l9Mirror.calls k _ _ l0_0 false t880 _ ?side1 ?side2 A4.out).mono ?_); (case side1 => exact co (Kd.C_below HR0_0.out HB.out)); (case side2 => exact HC0_0.out); rintro e w9 ⟨rfl, hb⟩; replace BK878 := kb BK878 hb; replace HB := am (below_step bw hb); clear hb))
  go_ret
  exact ⟨re, bw⟩
 obtain rfl := Option.some.inj H
 go_enter Tryz.func24, Tryz.ntmps24
 go_wp2_with (first | ((with_reducible refine gate_dst (N := 1) rfl ?_); refine bx 1 #[.slice A0_0 l0_0.length c0_0] 26 ?_; intro gb878 hg w10 hbox hb; have BK878 := am (hbox); have GW878 := am (gs hg : w.heap.size ≤ gb878); have GE878 := GW878; replace HB := am (below_step bw hb); clear hb hbox hg; have hcz11_0 := bc BK878 0 (.slice A0_0 l0_0.length c0_0); have hfz11_0 := blk_frozen BK878.out 0) | ((with_reducible refine gate_callee (f := 21) rfl ?_); refine goesL_ (some 4) rfl rfl Tryz.func21 (by kernel_rfl) rfl #[.agg #[.slice A0_0 l0_0.length c0_0]] rfl (by (try simp only [List.map_toArray, List.map_cons, List.map_nil]); first | done | rfl | (simp only [List.length_drop, List.length_take]; rfl)) ?_; (with_reducible refine (spec_IsSemigroup.calls k _ _ l0_0 false _ ?side1 ?side2 A2.out).mono ?_); (case side1 => exact co (Kd.C_below HR0_0.out HB.out)); (case side2 => exact HC0_0.out); rintro e w12 ⟨rfl, hb⟩; refine ⟨_, rfl, ?_⟩; replace BK878 := kb BK878 hb; replace HB := am (below_step bw hb); clear hb))
 go_ret
 exact ⟨re, bw⟩

end Go.Proofs.YtkfplkdchkmgbaaGreat.C
