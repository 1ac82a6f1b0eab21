/- Contracts of functions of the program: spec_IdealSum, spec_l4Gaps, spec_Gaps, spec_FrobeniusOf, spec_ConductorOf, spec_l16Dual, spec_DualGens, spec_HasNumber, spec_PseudoFrobenius. -/
import Derived.Test.YtkfplkdchkmgbaaGreatC0
import Derived.Test.YtkfplkdchkmgbaaGreatC2
import Derived.Test.YtkfplkdchkmgbaaGreatC3
import Derived.Test.YtkfplkdchkmgbaaGreatC10
import Derived.Test.YtkfplkdchkmgbaaGreatC11
namespace Go.Proofs.YtkfplkdchkmgbaaGreat.C
open Go.RowKit Go.Proofs.YtkfplkdchkmgbaaGreatW.PrintWords Go.Proofs.YtkfplkdchkmgbaaGreatW.PrintLast Go.Proofs.YtkfplkdchkmgbaaGreatW.PrintMore
attribute [local go_sem] max2_int min2_int max_two min_two max_three min_three max_four min_four
set_option linter.unusedVariables false
set_option linter.unusedSimpArgs false

/-! ### spec_IdealSum: function 18 -/
def spec_IdealSum.j0 : Nat → List Int → List Int → Bool → List Int → Option (List Int)
 | 0, _, _, _, _ => none
 | k + 1, x1, x2, x14, x772000 => if x14 = true then (some (([] : List Int))) else ((spec_SumsOf.f k x1 x2).bind fun t777 => ((spec_MinimalIn.f k x772000 t777).bind fun t780 => (some t780)))
def spec_IdealSum.f (k : Nat) (l0_0 : List Int) (l1 : List Int) (l2 : List Int) : Option (List Int) := (spec_l16Valid.f k l1).bind fun t772 => (if t772 = true then ((spec_l16Valid.f k l2).bind fun t773 => (spec_IdealSum.j0 k l1 l2 (!t773) l0_0)) else (spec_IdealSum.j0 k l1 l2 true l0_0))
set_option maxHeartbeats 8000000 in
set_option maxRecDepth 100000 in
theorem spec_IdealSum.calls (k : Nat) (A0_0 : Option Addr) (c0_0 : Nat) (l0_0 : List Int) (A1 : Option Addr) (c1 : Nat) (l1 : List Int) (A2 : Option Addr) (c2 : Nat) (l2 : List Int) (r : List Int) (w : World) (hr0_0 : Kd.C (Kd.int .i64) w A0_0 l0_0.length l0_0) (hc0_0 : l0_0.length ≤ c0_0) (hr1 : Kd.C (Kd.int .i64) w A1 l1.length l1) (hc1 : l1.length ≤ c1) (hr2 : Kd.C (Kd.int .i64) w A2 l2.length l2) (hc2 : l2.length ≤ c2) (h : spec_IdealSum.f k l0_0 l1 l2 = some r) :
  Calls Tryz.prog 18 #[.agg #[.slice A0_0 l0_0.length c0_0], .slice A1 l1.length c1, .slice A2 l2.length c2] w fun e w' => ∃ v0_ : Value, e = .returned (v0_) ∧ Kd.R (Kd.int .i64) 3 w' w.heap.size (fun _ => True) v0_ r ∧ Below w.heap.size w w' := by
 have hu26 := Tryz.underlying26
 have HR0_0 := am hr0_0
 have HC0_0 := am hc0_0
 clear hr0_0 hc0_0
 have HR1 := am hr1
 have HC1 := am hc1
 clear hr1 hc1
 have HR2 := am hr2
 have HC2 := am hc2
 clear hr2 hc2
 have HB := am (Below.refl w.heap.size w)
 have H : ((spec_l16Valid.f k l1).bind fun t772 => (if t772 = true then ((spec_l16Valid.f k l2).bind fun t773 => (spec_IdealSum.j0 k l1 l2 (!t773) l0_0)) else (spec_IdealSum.j0 k l1 l2 true l0_0))) = some r := h
 clear h
 have HC4 := am H
 clear H
 go_enter Tryz.func18, Tryz.ntmps18
 go_upto_region 1 with (first | ((with_reducible refine gate_dst (N := 3) rfl ?_); refine bx 3 #[.slice A0_0 l0_0.length c0_0] 26 ?_; intro gb771 hg w5 hbox hb; have BK771 := am (hbox); have GW771 := am (gs hg : w.heap.size ≤ gb771); have GE771 := GW771; replace HB := am (below_step bw hb); clear hb hbox hg))
 (try simp only [Act.put, List.setIfInBounds_toArray, List.set_cons_zero, List.set_cons_succ])
 go_cut [14] (fun v14 wc => ∃ (kq : Nat) (x14_3 : Bool), v14 = .bool x14_3 ∧ Aside0 (spec_IdealSum.j0 kq l1 l2 x14_3 l0_0 = some r) ∧ Aside0 (kq ≤ k) ∧ Aside0 (wc.heap[gb771]? = some (.cells #[(.slice A0_0 l0_0.length c0_0)] 26 (0, 0))) ∧ Aside0 (Below w.heap.size w wc))
 case first =>
  have H := HC4.out
  clear HC4
  replace H := ga H; obtain ⟨t772, A6, H⟩ := H
  replace H := gb H; obtain ⟨rfl, H⟩ | ⟨rfl, H⟩ := H
  ·replace H := ga H; obtain ⟨t773, A8, H⟩ := H
   have H' := am H
   clear H
   go_wp2_with (first | ((with_reducible refine gate_callee (f := 53) rfl ?_); refine goesL_ (some 8) rfl rfl Tryz.func53 (by kernel_rfl) rfl #[.slice A1 l1.length c1] rfl (by (try simp only [List.map_toArray, List.map_cons, List.map_nil]); first | done | rfl | (simp only [List.length_drop, List.length_take]; rfl)) ?_; (with_reducible refine (spec_l16Valid.calls k _ _ l1 true _ ?side1 ?side2 A6.out).mono ?_); (case side1 => exact co (Kd.C_below HR1.out HB.out)); (case side2 => exact HC1.out); rintro e w' ⟨rfl, ⟨nd, rfl⟩⟩; refine ⟨_, rfl, ?_⟩) | (go_at_call 53; (with_reducible refine (spec_l16Valid.calls k _ _ l2 t773 _ ?side1 ?side2 A8.out).mono ?_); (case side1 => exact co (Kd.C_below HR2.out bw)); (case side2 => exact HC2.out); rintro e w' ⟨rfl, ⟨nd, rfl⟩⟩))
   go_meet
   case rel => exact ⟨_, (!t773), rr, H', ⟨om⟩, ⟨bo BK771.out⟩, ⟨bw⟩⟩
  have H' := am H
  clear H
  go_wp2_with (first | ((with_reducible refine gate_callee (f := 53) rfl ?_); refine goesL_ (some 8) rfl rfl Tryz.func53 (by kernel_rfl) rfl #[.slice A1 l1.length c1] rfl (by (try simp only [List.map_toArray, List.map_cons, List.map_nil]); first | done | rfl | (simp only [List.length_drop, List.length_take]; rfl)) ?_; (with_reducible refine (spec_l16Valid.calls k _ _ l1 false _ ?side1 ?side2 A6.out).mono ?_); (case side1 => exact co (Kd.C_below HR1.out HB.out)); (case side2 => exact HC1.out); rintro e w' ⟨rfl, ⟨nd, rfl⟩⟩; refine ⟨_, rfl, ?_⟩))
  go_meet
  case rel => exact ⟨_, (true), rr, H', ⟨om⟩, ⟨bo BK771.out⟩, ⟨bw⟩⟩
 case rest =>
  clear HC4
  try clear c1; try clear c2
  obtain ⟨kq, x14_3, rfl, HA, HJ3, BK771, HB⟩ := hcut
  cases kq with
  | zero => exact absurd HA.out (by simp [spec_IdealSum.j0])
  | succ kj3 =>
   have H := HA.out
   clear HA
   simp only [spec_IdealSum.j0] at H
   replace H := gb H; obtain ⟨rfl, H⟩ | ⟨rfl, H⟩ := H
   ·obtain ⟨y774, hy774⟩ : ∃ y_ : List Int, y_ = (([] : List Int)) := ⟨_, rfl⟩
    replace H : (some y774) = some r := by first | (rw [hy774]; with_reducible first | exact H | exact bs H) | (with_reducible first | exact bs H | exact H) | (rw [hy774]; exact H) | exact H
    have Ny774 := am hy774
    clear hy774
    obtain rfl := Option.some.inj H
    go_wp2_with (first | ((with_reducible refine gate_dst (N := 15) rfl ?_); refine Kd.R_lit (Kd.int .i64) _ 3 ?hg (N := 15) ?hd (xs := ([] : List Int)) (inner := []) (ok := fun _ => True) (okp := fun _ => True) ?hr ?hp (fun _ hk => hk) trivial (Below.refl _ _) (Nat.le_refl _) (by simp) ?_; (case hd => rfl); (case hg => rfl); (case hr => first | (go_simp; done) | (go_simp; rfl)); (case hp => exact (Reps.none _ _)); intro v775 w10 ho11 hb hg_ hnew_; clear hg_ hnew_; (first | rw [← Ny774.out] at ho11 | (simp only [Int.reduceToNat] at ho11; rw [← Ny774.out] at ho11)); have HO776 := am (Kd.R_lower ho11 (below_size bw)); replace BK771 := kb BK771 hb; replace HB := am (below_step bw hb); clear hb ho11))
    go_ret
    exact ⟨_, re, ro HO776.out, bw⟩
   replace H := ga H; obtain ⟨t777, A12, H⟩ := H
   replace H := ga H; obtain ⟨t780, A13, H⟩ := H
   obtain rfl := Option.some.inj H
   try go_wp2
   replace BK771 := bd BK771
   replace HB := am (below_drew1 HB.out)
   refine start_ (n := 6) (S := fun w' => w'.cell? ⟨gb771, 0, none⟩ = some (.slice A0_0 l0_0.length c0_0)) (ds := []) (yz 6 0) (by kernel_rfl) rfl rfl (bc BK771 0 _) (fun hHeld => ?_)
   generalize wc.drew = w14 at BK771 HB hHeld ⊢
   refine pure_ (i := 1) (N := some 17) (v := ?_) (a' := ?_) (yz 6 2) rfl rfl (by kernel_rfl) (fun _ _ _ h => h) (Or.inl ⟨by rfl, ?_⟩) ?_ ?_
   rotate_left
   ·intro w'
    go_simp
    with_reducible rfl
   rotate_left
   ·simp only [Act.put, qa, qb, qc, i64_w, i32_w]
    rfl
   refine pure_ (i := 2) (N := some 18) (v := ?_) (a' := ?_) (yz 6 6) rfl rfl (by kernel_rfl) (fun _ _ _ h => h) (Or.inl ⟨by rfl, ?_⟩) ?_ ?_
   rotate_left
   ·intro w'
    go_simp
    with_reducible rfl
   rotate_left
   ·simp only [Act.put, qa, qb, qc, i64_w, i32_w]
    rfl
   refine tQ 0 (some 16) (yz 6 7) hHeld ?_
   refine one_ (i := 3) (N := some 19) (yz 6 15) rfl rfl (by kernel_rfl) (by decide) (fun K hK => ?_)
   refine goes_ Tryz.func58 (by kernel_rfl) rfl #[.slice A1 l1.length c1, .slice A2 l2.length c2] (by rfl) rfl rfl (by (try simp only [List.map_toArray, List.map_cons, List.map_nil]); first | done | rfl | (simp only [List.length_drop, List.length_take]; rfl)) ?_
   with_reducible refine (spec_SumsOf.calls kj3 _ _ l1 _ _ l2 t777 _ ?side1 ?side2 ?side3 ?side4 A12.out).mono ?_
   (case side1 => exact co (Kd.C_below HR1.out HB.out))
   (case side2 => exact HC1.out)
   (case side3 => exact co (Kd.C_below HR2.out HB.out))
   (case side4 => exact HC2.out)
   rintro e w15 ⟨v778, rfl, ho0, hb⟩
   refine ⟨_, rfl, ?_⟩
   have HO779 := am (Kd.R_lower ho0 (below_size bw))
   replace BK771 := kb BK771 hb
   replace HB := am (below_step bw hb)
   clear hb ho0
   obtain ⟨Ao16, co16, eo16⟩ := Kd.R_slice HO779.out
   (first | subst eo16 | (injection eo16 with f1_ f2_ f3_; have f4_ := f1_.symm; have f5_ := f3_.symm; clear f1_ f2_ f3_; subst f4_; subst f5_))
   refine hK.out _ _ (bc BK771 0 _) (fun hHeld => ?_)
   clear hK K
   refine nm (some 19) ?_
   refine one_ (i := 4) (N := some 20) (yz 6 31) rfl rfl (by kernel_rfl) (by decide) (fun K hK => ?_)
   refine goes_ Tryz.func56 (by kernel_rfl) rfl #[.agg #[.slice A0_0 l0_0.length c0_0], .slice Ao16 t777.length co16] (by rfl) rfl rfl (by (try simp only [List.map_toArray, List.map_cons, List.map_nil]); first | done | rfl | (simp only [List.length_drop, List.length_take]; rfl)) ?_
   with_reducible refine (spec_MinimalIn.calls kj3 _ _ l0_0 _ _ t777 t780 _ ?side1 ?side2 ?side3 ?side4 A13.out).mono ?_
   (case side1 => exact co (Kd.C_below HR0_0.out HB.out))
   (case side2 => exact HC0_0.out)
   (case side3 => exact co (Kd.R_reads' HO779.out).2.2)
   (case side4 => exact (Kd.R_reads' HO779.out).2.1)
   rintro e w17 ⟨v781, rfl, ho0, hb⟩
   refine ⟨_, rfl, ?_⟩
   have HO782 := am (Kd.R_lower (Kd.R_new' ho0 (Kd.R_lt (ro HO779.out))) (below_size bw))
   replace HO779 := am (Kd.R_elder' (ro HO779.out) (Kd.R_base ho0) hb)
   replace BK771 := kb BK771 hb
   replace HB := am (below_step bw hb)
   clear hb ho0
   refine hK.out _ _ (bc BK771 0 _) (fun hHeld => ?_)
   clear hK K
   refine nm (some 20) ?_
   refine pure_ (i := 5) (N := some 6) (v := ?_) (a' := ?_) (yz 6 63) rfl rfl (by kernel_rfl) (fun _ _ _ h => h) (Or.inl ⟨by rfl, ?_⟩) ?_ ?_
   rotate_left
   ·intro w'
    go_simp
    with_reducible rfl
   rotate_left
   ·simp only [Act.put, qa, qb, qc, i64_w, i32_w]
    rfl
   refine done_ (by kernel_rfl) ?_
   try go_wp2
   go_ret
   exact ⟨_, re, by (with_reducible repeat (first | apply Kd.R_alloc | apply Kd.R_drewN | apply Kd.R_drew)); exact Kd.R_mono HO782.out (fun _ hk => trivial), bw⟩


/-! ### spec_l4Gaps: function 78 -/
def spec_l4Gaps.l0 : Nat → List Int → List Bool → Int → Option (List Int)
 | 0, _, _, _ => none
 | k + 1, x3, x4, x5 => if x5 < 200 then (if 0 ≤ x5 then (if x5 < (x4.length : Int) then (if rdOf false x4 x5 = true then (spec_l4Gaps.l0 k x3 x4 (wrap64 (x5 + 1))) else (if x3.length < 17592186044416 then (spec_l4Gaps.l0 k (x3 ++ [x5]) x4 (wrap64 (x5 + 1))) else (none))) else (none)) else (none)) else (some x3)
def spec_l4Gaps.f (k : Nat) (l0_0 : List Int) : Option (List Int) := (spec_l3Table.f k l0_0 200).bind fun t787 => (spec_l4Gaps.l0 k (([] : List Int)) t787 1)
set_option maxHeartbeats 8000000 in
set_option maxRecDepth 100000 in
theorem spec_l4Gaps.calls (k : Nat) (A0_0 : Option Addr) (c0_0 : Nat) (l0_0 : List Int) (r : List Int) (w : World) (hr0_0 : Kd.C (Kd.int .i64) w A0_0 l0_0.length l0_0) (hc0_0 : l0_0.length ≤ c0_0) (h : spec_l4Gaps.f k l0_0 = some r) :
  Calls Tryz.prog 78 #[.agg #[.slice A0_0 l0_0.length c0_0]] w fun e w' => ∃ v0_ : Value, e = .returned (v0_) ∧ Kd.R (Kd.int .i64) 3 w' w.heap.size (fun _ => True) v0_ r ∧ Below w.heap.size w w' := by
 have hu26 := Tryz.underlying26
 have HR0_0 := am hr0_0
 have HC0_0 := am hc0_0
 clear hr0_0 hc0_0
 have HB := am (Below.refl w.heap.size w)
 have H : ((spec_l3Table.f k l0_0 200).bind fun t787 => (spec_l4Gaps.l0 k (([] : List Int)) t787 1)) = some r := h
 clear h
 obtain ⟨y784, hy784⟩ : ∃ y_ : List Int, y_ = (([] : List Int)) := ⟨_, rfl⟩
 replace H : ((spec_l3Table.f k l0_0 200).bind fun t787 => (spec_l4Gaps.l0 k y784 t787 1)) = some r := by first | (rw [hy784]; with_reducible first | exact H | exact bs H) | (with_reducible first | exact bs H | exact H) | (rw [hy784]; exact H) | exact H
 have Ny784 := am hy784
 clear hy784
 replace H := ga H; obtain ⟨t787, A2, H⟩ := H
 have H' := am H
 clear H
 go_enter Tryz.func78, Tryz.ntmps78
 go_wp2_with (first | ((with_reducible refine gate_dst (N := 1) rfl ?_); refine bx 1 #[.slice A0_0 l0_0.length c0_0] 26 ?_; intro gb783 hg w3 hbox hb; have BK783 := am (hbox); have GW783 := am (gs hg : w.heap.size ≤ gb783); have GE783 := GW783; replace HB := am (below_step bw hb); clear hb hbox hg) | ((with_reducible refine gate_dst (N := 6) rfl ?_); refine Kd.R_lit (Kd.int .i64) _ 3 ?hg (N := 6) ?hd (xs := ([] : List Int)) (inner := []) (ok := fun _ => True) (okp := fun _ => True) ?hr ?hp (fun _ hk => hk) trivial (Below.refl _ _) (Nat.le_refl _) (by simp) ?_; (case hd => rfl); (case hg => rfl); (case hr => first | (go_simp; done) | (go_simp; rfl)); (case hp => exact (Reps.none _ _)); intro v785 w4 ho5 hb hg_ hnew_; clear hg_ hnew_; (first | rw [← Ny784.out] at ho5 | (simp only [Int.reduceToNat] at ho5; rw [← Ny784.out] at ho5)); have HO786 := am (Kd.R_lower ho5 (below_size bw)); replace BK783 := kb BK783 hb; replace HB := am (below_step bw hb); clear hb ho5; have hcz6_0 := bc BK783 0 (.slice A0_0 l0_0.length c0_0); have hfz6_0 := blk_frozen BK783.out 0) | ((with_reducible refine gate_callee (f := 108) rfl ?_); refine goesL_ (some 9) rfl rfl Tryz.func108 (by kernel_rfl) rfl #[.slice A0_0 l0_0.length c0_0, .int .i64 200] rfl (by (try simp only [List.map_toArray, List.map_cons, List.map_nil]); first | done | rfl | (simp only [List.length_drop, List.length_take]; rfl)) ?_; (with_reducible refine (spec_l3Table.calls k _ _ l0_0 200 t787 _ ?side1 ?side2 A2.out).mono ?_); (case side1 => exact co (Kd.C_below HR0_0.out HB.out)); (case side2 => exact HC0_0.out); rintro e w7 ⟨v788, rfl, ho0, hb⟩; refine ⟨_, rfl, ?_⟩; replace HO786 := rK HO786 hb; have HO789 := am (Kd.R_lower ho0 (below_size bw)); replace BK783 := kb BK783 hb; replace HB := am (below_step bw hb); clear hb ho0))
 go_loopg [3, 5] k (fun kq v3 v5 w' => ∃ (x3_1 : List Int) (x5_1 : Int), v5 = .int .i64 x5_1 ∧ Aside0 (spec_l4Gaps.l0 kq x3_1 t787 x5_1 = some r) ∧ Aside0 (kq ≤ k) ∧ Aside0 (Kd.R (Kd.int .i64) 3 w' w.heap.size (fun _ => True) v3 x3_1) ∧ Aside0 (Kd.R Kd.bool 4 w' w.heap.size (fun _ => True) v788 t787) ∧ Aside0 (w'.heap[gb783]? = some (.cells #[(.slice A0_0 l0_0.length c0_0)] 26 (0, 0))) ∧ Aside0 (Below w.heap.size w w'))
 case atStart => exact ⟨(y784), (1), rr, H', ⟨Nat.le_refl _⟩, ⟨ro HO786.out⟩, ⟨ro HO789.out⟩, ⟨bo BK783.out⟩, ⟨bw⟩⟩
 case round =>
  clear H'
  try clear hcz6_0; try clear hfz6_0
  obtain ⟨x3_1, x5_1, rfl, HA, HK1, HO_3, HO_4, BK783, HB⟩ := hrel
  cases gk with
  | zero => exact absurd HA.out (by simp [spec_l4Gaps.l0])
  | succ k1 =>
   have H := HA.out
   clear HA
   simp only [spec_l4Gaps.l0] at H
   replace H := gi H; obtain ⟨c8b0, H⟩ | ⟨c8b0, H⟩ := H
   ·replace H := gd H; obtain ⟨c9b0, H⟩ := H
    replace H := gd H; obtain ⟨c10b0, H⟩ := H
    obtain ⟨bq11, hbq11⟩ : ∃ b_ : Bool, b_ = (rdOf false t787 x5_1) := ⟨_, rfl⟩
    replace H : (if bq11 = true then (spec_l4Gaps.l0 k1 x3_1 t787 (wrap64 (x5_1 + 1))) else (if x3_1.length < 17592186044416 then (spec_l4Gaps.l0 k1 (x3_1 ++ [x5_1]) t787 (wrap64 (x5_1 + 1))) else (none))) = some r := by rw [← hbq11] at H; exact H
    have Nbq11 := am hbq11
    clear hbq11
    replace H := gb H; obtain ⟨rfl, H⟩ | ⟨rfl, H⟩ := H
    ·have H' := am H
     clear H
     obtain ⟨Ao13, co13, eo13⟩ := Kd.R_slice HO_4.out
     subst eo13
     obtain ⟨⟨ad790, e790, hx790_0⟩, p790, q790⟩ := pq (Kd.at_bool (Kd.R_reads' HO_4.out).2.2 x5_1)
     (try rw [← Nbq11.out] at hx790_0)
     cases e790
     go_wp2
     go_roundg k1
     case measure => have := HK1.out; omega
     case rel => exact ⟨(x3_1), (wrap64 (x5_1 + 1)), rr, H', ⟨by have := HK1.out; omega⟩, ⟨ro HO_3.out⟩, ⟨ro HO_4.out⟩, ⟨bo BK783.out⟩, ⟨bw⟩⟩
    by_cases c14 : x3_1.length < 17592186044416
    rotate_left
    ·rw [if_neg c14] at H
     exact absurd H (by simp)
    rw [if_pos c14] at H
    have LMc14 := am c14
    clear c14
    obtain ⟨y791, hy791⟩ : ∃ y_ : List Int, y_ = (x3_1 ++ [x5_1]) := ⟨_, rfl⟩
    replace H : (spec_l4Gaps.l0 k1 y791 t787 (wrap64 (x5_1 + 1))) = some r := by first | (rw [hy791]; with_reducible first | exact H | exact bs H) | (with_reducible first | exact bs H | exact H) | (rw [hy791]; exact H) | exact H
    have Ny791 := am hy791
    clear hy791
    have H' := am H
    clear H
    obtain ⟨Ao15, co15, eo15⟩ := Kd.R_slice HO_4.out
    subst eo15
    obtain ⟨⟨ad790, e790, hx790_0⟩, p790, q790⟩ := pq (Kd.at_bool (Kd.R_reads' HO_4.out).2.2 x5_1)
    (try rw [← Nbq11.out] at hx790_0)
    cases e790
    go_wp2_with (first | ((with_reducible refine gate_builtin (b := .append) (xs := #[.tmp 19, .tmp 21]) rfl ?_); at_builtin; refine Kd.R_append (Kd.int .i64) (w0 := w) w.heap.size rfl (.tmp 19) (.tmp 21) 24 3 (.int .i64 0) 8 rfl Tryz.underlying24 info3 rfl (by decide) (by omega) u3 x3_1 x5_1 [.int .i64 x5_1] (fun _ => True) (fun _ => False) rfl rfl ?aP (fun _ hk => hk.elim) ?aF ?aO ?aB ?aS ?aL ?_; (case aP => exact rfl); (case aB => exact bw); (case aF => exact (fun _ _ => trivial)); (case aO => exact (ro HO_3.out)); (case aS => exact (below_size bw)); (case aL => have := LMc14.out; omega); intro v792 w16 ho hb hg hat; rw [← Ny791.out] at ho; replace HO_4 := am (Kd.R_over' (ro HO_4.out) (Kd.R_typed (ro HO_3.out)) (by decide) hg); replace BK783 := am (blk_grown (g := gb783) (o := .cells #[.slice A0_0 l0_0.length c0_0] 26 (0, 0)) (bo BK783.out) hg (Kd.R_ne HO_3.out BK783.out (by decide))); replace HB := am (hb); have HO793 := am (ho); clear HO_3 ho hb hg hat))
    go_roundg k1
    case measure => have := HK1.out; omega
    case rel => exact ⟨(y791), (wrap64 (x5_1 + 1)), rr, H', ⟨by have := HK1.out; omega⟩, ⟨ro HO793.out⟩, ⟨ro HO_4.out⟩, ⟨bo BK783.out⟩, ⟨bw⟩⟩
   obtain rfl := Option.some.inj H
   go_wp2
   go_ret
   exact ⟨_, re, ro HO_3.out, bw⟩


/-! ### spec_Gaps: function 69 -/
def spec_Gaps.f (k : Nat) (l0_0 : List Int) : Option (List Int) := (spec_IsSemigroup.f k l0_0).bind fun t795 => (if t795 = true then ((spec_l4Gaps.f k l0_0).bind fun t796 => (some t796)) else (some (([] : List Int))))
set_option maxHeartbeats 8000000 in
set_option maxRecDepth 100000 in
theorem spec_Gaps.calls (k : Nat) (A0_0 : Option Addr) (c0_0 : Nat) (l0_0 : List Int) (r : List Int) (w : World) (hr0_0 : Kd.C (Kd.int .i64) w A0_0 l0_0.length l0_0) (hc0_0 : l0_0.length ≤ c0_0) (h : spec_Gaps.f k l0_0 = some r) :
  Calls Tryz.prog 69 #[.agg #[.slice A0_0 l0_0.length c0_0]] w fun e w' => ∃ v0_ : Value, e = .returned (v0_) ∧ Kd.R (Kd.int .i64) 3 w' w.heap.size (fun _ => True) v0_ r ∧ Below w.heap.size w w' := by
 have hu26 := Tryz.underlying26
 have HR0_0 := am hr0_0
 have HC0_0 := am hc0_0
 clear hr0_0 hc0_0
 have HB := am (Below.refl w.heap.size w)
 have H : ((spec_IsSemigroup.f k l0_0).bind fun t795 => (if t795 = true then ((spec_l4Gaps.f k l0_0).bind fun t796 => (some t796)) else (some (([] : List Int))))) = some r := h
 clear h
 replace H := ga H; obtain ⟨t795, A2, H⟩ := H
 replace H := gb H; obtain ⟨rfl, H⟩ | ⟨rfl, H⟩ := H
 ·replace H := ga H; obtain ⟨t796, A4, H⟩ := H
  obtain rfl := Option.some.inj H
  go_enter Tryz.func69, Tryz.ntmps69
  go_wp2_with (first | ((with_reducible refine gate_dst (N := 1) rfl ?_); refine bx 1 #[.slice A0_0 l0_0.length c0_0] 26 ?_; intro gb794 hg w5 hbox hb; have BK794 := am (hbox); have GW794 := am (gs hg : w.heap.size ≤ gb794); have GE794 := GW794; replace HB := am (below_step bw hb); clear hb hbox hg; have hcz6_0 := bc BK794 0 (.slice A0_0 l0_0.length c0_0); have hfz6_0 := blk_frozen BK794.out 0) | ((with_reducible refine gate_callee (f := 21) rfl ?_); refine goesL_ (some 4) rfl rfl Tryz.func21 (by kernel_rfl) rfl #[.agg #[.slice A0_0 l0_0.length c0_0]] rfl (by (try simp only [List.map_toArray, List.map_cons, List.map_nil]); first | done | rfl | (simp only [List.length_drop, List.length_take]; rfl)) ?_; (with_reducible refine (spec_IsSemigroup.calls k _ _ l0_0 true _ ?side1 ?side2 A2.out).mono ?_); (case side1 => exact co (Kd.C_below HR0_0.out HB.out)); (case side2 => exact HC0_0.out); rintro e w7 ⟨rfl, hb⟩; refine ⟨_, rfl, ?_⟩; replace BK794 := kb BK794 hb; replace HB := am (below_step bw hb); clear hb; have hcz8_0 := bc BK794 0 (.slice A0_0 l0_0.length c0_0); have hfz8_0 := blk_frozen BK794.out 0) | ((with_reducible refine gate_callee (f := 78) rfl ?_); refine goesL_ (some 8) rfl rfl Tryz.func78 (by kernel_rfl) rfl #[.agg #[.slice A0_0 l0_0.length c0_0]] rfl (by (try simp only [List.map_toArray, List.map_cons, List.map_nil]); first | done | rfl | (simp only [List.length_drop, List.length_take]; rfl)) ?_; (with_reducible refine (spec_l4Gaps.calls k _ _ l0_0 t796 _ ?side1 ?side2 A4.out).mono ?_); (case side1 => exact co (Kd.C_below HR0_0.out HB.out)); (case side2 => exact HC0_0.out); rintro e w9 ⟨v797, rfl, ho0, hb⟩; refine ⟨_, rfl, ?_⟩; have HO798 := am (Kd.R_lower ho0 (below_size bw)); replace BK794 := kb BK794 hb; replace HB := am (below_step bw hb); clear hb ho0))
  go_ret
  exact ⟨_, re, ro HO798.out, bw⟩
 obtain ⟨y799, hy799⟩ : ∃ y_ : List Int, y_ = (([] : List Int)) := ⟨_, rfl⟩
 replace H : (some y799) = some r := by first | (rw [hy799]; with_reducible first | exact H | exact bs H) | (with_reducible first | exact bs H | exact H) | (rw [hy799]; exact H) | exact H
 have Ny799 := am hy799
 clear hy799
 obtain rfl := Option.some.inj H
 go_enter Tryz.func69, Tryz.ntmps69
 go_wp2_with (first | ((with_reducible refine gate_dst (N := 1) rfl ?_); refine bx 1 #[.slice A0_0 l0_0.length c0_0] 26 ?_; intro gb794 hg w10 hbox hb; have BK794 := am (hbox); have GW794 := am (gs hg : w.heap.size ≤ gb794); have GE794 := GW794; replace HB := am (below_step bw hb); clear hb hbox hg; have hcz11_0 := bc BK794 0 (.slice A0_0 l0_0.length c0_0); have hfz11_0 := blk_frozen BK794.out 0) | ((with_reducible refine gate_callee (f := 21) rfl ?_); refine goesL_ (some 4) rfl rfl Tryz.func21 (by kernel_rfl) rfl #[.agg #[.slice A0_0 l0_0.length c0_0]] rfl (by (try simp only [List.map_toArray, List.map_cons, List.map_nil]); first | done | rfl | (simp only [List.length_drop, List.length_take]; rfl)) ?_; (with_reducible refine (spec_IsSemigroup.calls k _ _ l0_0 false _ ?side1 ?side2 A2.out).mono ?_); (case side1 => exact co (Kd.C_below HR0_0.out HB.out)); (case side2 => exact HC0_0.out); rintro e w12 ⟨rfl, hb⟩; refine ⟨_, rfl, ?_⟩; replace BK794 := kb BK794 hb; replace HB := am (below_step bw hb); clear hb) | ((with_reducible refine gate_dst (N := 6) rfl ?_); refine Kd.R_lit (Kd.int .i64) _ 3 ?hg (N := 6) ?hd (xs := ([] : List Int)) (inner := []) (ok := fun _ => True) (okp := fun _ => True) ?hr ?hp (fun _ hk => hk) trivial (Below.refl _ _) (Nat.le_refl _) (by simp) ?_; (case hd => rfl); (case hg => rfl); (case hr => first | (go_simp; done) | (go_simp; rfl)); (case hp => exact (Reps.none _ _)); intro v800 w13 ho14 hb hg_ hnew_; clear hg_ hnew_; (first | rw [← Ny799.out] at ho14 | (simp only [Int.reduceToNat] at ho14; rw [← Ny799.out] at ho14)); have HO801 := am (Kd.R_lower ho14 (below_size bw)); replace BK794 := kb BK794 hb; replace HB := am (below_step bw hb); clear hb ho14))
 go_ret
 exact ⟨_, re, ro HO801.out, bw⟩


/-! ### spec_FrobeniusOf: function 22 -/
def spec_FrobeniusOf.f (k : Nat) (l0_0 : List Int) : Option (Int) := (spec_Gaps.f k l0_0).bind fun t803 => (if (t803.length : Int) = 0 then (some (-1)) else (if 0 ≤ (wrap64 ((t803.length : Int) - 1)) then (if (wrap64 ((t803.length : Int) - 1)) < (t803.length : Int) then (some (rd t803 (wrap64 ((t803.length : Int) - 1)))) else (none)) else (none)))
set_option maxHeartbeats 8000000 in
set_option maxRecDepth 100000 in
theorem spec_FrobeniusOf.calls (k : Nat) (A0_0 : Option Addr) (c0_0 : Nat) (l0_0 : List Int) (r : Int) (w : World) (hr0_0 : Kd.C (Kd.int .i64) w A0_0 l0_0.length l0_0) (hc0_0 : l0_0.length ≤ c0_0) (h : spec_FrobeniusOf.f k l0_0 = some r) :
  Calls Tryz.prog 22 #[.agg #[.slice A0_0 l0_0.length c0_0]] w fun e w' => e = .returned (.int .i64 r) ∧ Below w.heap.size w w' := by
 have hu26 := Tryz.underlying26
 have HR0_0 := am hr0_0
 have HC0_0 := am hc0_0
 clear hr0_0 hc0_0
 have HB := am (Below.refl w.heap.size w)
 have H : ((spec_Gaps.f k l0_0).bind fun t803 => (if (t803.length : Int) = 0 then (some (-1)) else (if 0 ≤ (wrap64 ((t803.length : Int) - 1)) then (if (wrap64 ((t803.length : Int) - 1)) < (t803.length : Int) then (some (rd t803 (wrap64 ((t803.length : Int) - 1)))) else (none)) else (none)))) = some r := h
 clear h
 replace H := ga H; obtain ⟨t803, A2, H⟩ := H
 by_cases c3 : (t803.length : Int) = 0
 ·rw [if_pos c3] at H
  have c3b0 : ((t803.length : Int) == 0) = true := beq_iff_eq.mpr c3
  have c3b1 : ((t803.length : Int) != 0) = false := bne_eq_false_iff_eq.mpr c3
  clear c3
  obtain rfl := Option.some.inj H
  go_enter Tryz.func22, Tryz.ntmps22
  go_wp2_with (first | ((with_reducible refine gate_dst (N := 1) rfl ?_); refine bx 1 #[.slice A0_0 l0_0.length c0_0] 26 ?_; intro gb802 hg w4 hbox hb; have BK802 := am (hbox); have GW802 := am (gs hg : w.heap.size ≤ gb802); have GE802 := GW802; replace HB := am (below_step bw hb); clear hb hbox hg; have hcz5_0 := bc BK802 0 (.slice A0_0 l0_0.length c0_0); have hfz5_0 := blk_frozen BK802.out 0) | ((with_reducible refine gate_callee (f := 69) rfl ?_); refine goesL_ (some 5) rfl rfl Tryz.func69 (by kernel_rfl) rfl #[.agg #[.slice A0_0 l0_0.length c0_0]] rfl (by (try simp only [List.map_toArray, List.map_cons, List.map_nil]); first | done | rfl | (simp only [List.length_drop, List.length_take]; rfl)) ?_; (with_reducible refine (spec_Gaps.calls k _ _ l0_0 t803 _ ?side1 ?side2 A2.out).mono ?_); (case side1 => exact co (Kd.C_below HR0_0.out HB.out)); (case side2 => exact HC0_0.out); rintro e w6 ⟨v804, rfl, ho0, hb⟩; refine ⟨_, rfl, ?_⟩; have HO805 := am (Kd.R_lower ho0 (below_size bw)); replace BK802 := kb BK802 hb; replace HB := am (below_step bw hb); clear hb ho0; obtain ⟨Ao7, co7, eo7⟩ := Kd.R_slice HO805.out; subst eo7))
  go_ret
  exact ⟨re, bw⟩
 rw [if_neg c3] at H
 have c3b0 : ((t803.length : Int) == 0) = false := beq_eq_false_iff_ne.mpr c3
 have c3b1 : ((t803.length : Int) != 0) = true := bne_iff_ne.mpr c3
 have c3b2 : ¬ (t803 = []) := fun h_ => c3 (by rw [h_]; rfl)
 obtain ⟨ji8, hji8⟩ : ∃ j_ : Int, (wrap64 ((t803.length : Int) - 1)) = j_ := ⟨_, rfl⟩
 replace H : (if 0 ≤ (ji8) then (if (ji8) < (t803.length : Int) then (some (rd t803 (ji8))) else (none)) else (none)) = some r := by first | (rw [hji8] at H; exact H) | (simp only [hji8] at H ⊢; exact H)
 (try rw [hji8] at A2)
 have hji8w : (IntKind.i64.wrap ((t803.length : Int) - 1)) = ji8 := (i64_w _).trans hji8
 replace H := gd H; obtain ⟨c9b0, H⟩ := H
 replace H := gd H; obtain ⟨c10b0, H⟩ := H
 obtain rfl := Option.some.inj H
 go_enter Tryz.func22, Tryz.ntmps22
 go_wp2_with (first | ((with_reducible refine gate_dst (N := 1) rfl ?_); refine bx 1 #[.slice A0_0 l0_0.length c0_0] 26 ?_; intro gb802 hg w11 hbox hb; have BK802 := am (hbox); have GW802 := am (gs hg : w.heap.size ≤ gb802); have GE802 := GW802; replace HB := am (below_step bw hb); clear hb hbox hg; have hcz12_0 := bc BK802 0 (.slice A0_0 l0_0.length c0_0); have hfz12_0 := blk_frozen BK802.out 0) | ((with_reducible refine gate_callee (f := 69) rfl ?_); refine goesL_ (some 5) rfl rfl Tryz.func69 (by kernel_rfl) rfl #[.agg #[.slice A0_0 l0_0.length c0_0]] rfl (by (try simp only [List.map_toArray, List.map_cons, List.map_nil]); first | done | rfl | (simp only [List.length_drop, List.length_take]; rfl)) ?_; (with_reducible refine (spec_Gaps.calls k _ _ l0_0 t803 _ ?side1 ?side2 A2.out).mono ?_); (case side1 => exact co (Kd.C_below HR0_0.out HB.out)); (case side2 => exact HC0_0.out); rintro e w13 ⟨v804, rfl, ho0, hb⟩; refine ⟨_, rfl, ?_⟩; have HO805 := am (Kd.R_lower ho0 (below_size bw)); replace BK802 := kb BK802 hb; replace HB := am (below_step bw hb); clear hb ho0; obtain ⟨Ao14, co14, eo14⟩ := Kd.R_slice HO805.out; subst eo14; have p806 : 0 ≤ ((ji8) : Int) := of_decide_eq_true (by first | (with_reducible assumption) | assumption); have q806 : (ji8) < (t803.length : Int) := of_decide_eq_true (by first | (with_reducible assumption) | assumption); obtain ⟨ad806, e806, hx806_0⟩ := Kd.at_int (Kd.R_reads' HO805.out).2.2 (ji8) p806 q806; cases e806; replace p806 := eq_true p806; replace q806 := eq_true q806))
 go_ret
 exact ⟨by first | rfl | (simp [errW_none, errW_some] <;> rfl) | (simp only [← hji8]; first | rfl | (simp [errW_none, errW_some] <;> rfl)) | (simp [*, errW_none, errW_some] <;> rfl), bw⟩


/-! ### spec_ConductorOf: function 60 -/
def spec_ConductorOf.f (k : Nat) (l0_0 : List Int) : Option (Int) := (spec_FrobeniusOf.f k l0_0).bind fun t808 => (some (wrap64 (t808 + 1)))
set_option maxHeartbeats 8000000 in
set_option maxRecDepth 100000 in
theorem spec_ConductorOf.calls (k : Nat) (A0_0 : Option Addr) (c0_0 : Nat) (l0_0 : List Int) (r : Int) (w : World) (hr0_0 : Kd.C (Kd.int .i64) w A0_0 l0_0.length l0_0) (hc0_0 : l0_0.length ≤ c0_0) (h : spec_ConductorOf.f k l0_0 = some r) :
  Calls Tryz.prog 60 #[.agg #[.slice A0_0 l0_0.length c0_0]] w fun e w' => e = .returned (.int .i64 r) ∧ Below w.heap.size w w' := by
 have hu26 := Tryz.underlying26
 have HR0_0 := am hr0_0
 have HC0_0 := am hc0_0
 clear hr0_0 hc0_0
 have HB := am (Below.refl w.heap.size w)
 have H : ((spec_FrobeniusOf.f k l0_0).bind fun t808 => (some (wrap64 (t808 + 1)))) = some r := h
 clear h
 replace H := ga H; obtain ⟨t808, A2, H⟩ := H
 obtain rfl := Option.some.inj H
 go_enter Tryz.func60, Tryz.ntmps60
 go_wp2_with (first | ((with_reducible refine gate_dst (N := 1) rfl ?_); refine bx 1 #[.slice A0_0 l0_0.length c0_0] 26 ?_; intro gb807 hg w3 hbox hb; have BK807 := am (hbox); have GW807 := am (gs hg : w.heap.size ≤ gb807); have GE807 := GW807; replace HB := am (below_step bw hb); clear hb hbox hg; have hcz4_0 := bc BK807 0 (.slice A0_0 l0_0.length c0_0); have hfz4_0 := blk_frozen BK807.out 0) | ((with_reducible refine gate_callee (f := 22) rfl ?_); refine goesL_ (some 4) rfl rfl Tryz.func22 (by kernel_rfl) rfl #[.agg #[.slice A0_0 l0_0.length c0_0]] rfl (by (try simp only [List.map_toArray, List.map_cons, List.map_nil]); first | done | rfl | (simp only [List.length_drop, List.length_take]; rfl)) ?_; (with_reducible refine (spec_FrobeniusOf.calls k _ _ l0_0 t808 _ ?side1 ?side2 A2.out).mono ?_); (case side1 => exact co (Kd.C_below HR0_0.out HB.out)); (case side2 => exact HC0_0.out); rintro e w5 ⟨rfl, hb⟩; refine ⟨_, rfl, ?_⟩; replace BK807 := kb BK807 hb; replace HB := am (below_step bw hb); clear hb))
 go_ret
 exact ⟨re, bw⟩


/-! ### spec_l16Dual: function 61 -/
def spec_l16Dual.l0 : Nat → List Int → Int → Int → List Int → Option (Bool)
 | 0, _, _, _, _ => none
 | k + 1, x1, x2, x7, x810000 => if x7 < (x1.length : Int) then (if 0 ≤ x7 then ((spec_l15Has.f k x810000 (wrap64 (x2 + (rd x1 x7)))).bind fun t811 => (if t811 = true then (spec_l16Dual.l0 k x1 x2 (wrap64 (x7 + 1)) x810000) else (some false))) else (none)) else (some true)
def spec_l16Dual.f (k : Nat) (l0_0 : List Int) (l1 : List Int) (a2 : Int) : Option (Bool) := spec_l16Dual.l0 k l1 a2 0 l0_0
def spec_l16Dual.T4 : Bool × List (List Nat × List Nat) := (true, [([], []), ([], []), ([], []), ([], []), ([2, 3], [2, 3]), ([4], [4]), ([1, 5], [1, 5]), ([0, 6], [0, 6]), ([7], [7])])
def spec_l16Dual.B4 : List Nat := [0, 0, 0, 0, 12, 28, 62, 127, 255]
theorem spec_l16Dual.tab4 : rtab .any (opsOf Tryz.f61 4) = spec_l16Dual.T4 := by kernel_rfl
theorem spec_l16Dual.bits4 : waitsOk spec_l16Dual.T4.2 spec_l16Dual.B4 = true := by kernel_rfl
set_option maxHeartbeats 8000000 in
set_option maxRecDepth 100000 in
theorem spec_l16Dual.calls (k : Nat) (A0_0 : Option Addr) (c0_0 : Nat) (l0_0 : List Int) (A1 : Option Addr) (c1 : Nat) (l1 : List Int) (a2 : Int) (r : Bool) (w : World) (hr0_0 : Kd.C (Kd.int .i64) w A0_0 l0_0.length l0_0) (hc0_0 : l0_0.length ≤ c0_0) (hr1 : Kd.C (Kd.int .i64) w A1 l1.length l1) (hc1 : l1.length ≤ c1) (h : spec_l16Dual.f k l0_0 l1 a2 = some r) :
  Calls Tryz.prog 61 #[.agg #[.slice A0_0 l0_0.length c0_0], .slice A1 l1.length c1, .int .i64 a2] w fun e w' => e = .returned (.bool r) ∧ Below w.heap.size w w' := by
 have hu26 := Tryz.underlying26
 have HR0_0 := am hr0_0
 have HC0_0 := am hc0_0
 clear hr0_0 hc0_0
 have HR1 := am hr1
 have HC1 := am hc1
 clear hr1 hc1
 have HB := am (Below.refl w.heap.size w)
 have H : (spec_l16Dual.l0 k l1 a2 0 l0_0) = some r := h
 clear h
 have H' := am H
 clear H
 go_enter Tryz.func61, Tryz.ntmps61
 go_wp2_with (first | ((with_reducible refine gate_dst (N := 3) rfl ?_); refine bx 3 #[.slice A0_0 l0_0.length c0_0] 26 ?_; intro gb809 hg w4 hbox hb; have BK809 := am (hbox); have GW809 := am (gs hg : w.heap.size ≤ gb809); have GE809 := GW809; replace HB := am (below_step bw hb); clear hb hbox hg))
 go_loopg [7] k (fun kq v7 w' => ∃ (x7_1 : Int), v7 = .int .i64 x7_1 ∧ Aside0 (spec_l16Dual.l0 kq l1 a2 x7_1 l0_0 = some r) ∧ Aside0 (kq ≤ k) ∧ Aside0 (w'.heap[gb809]? = some (.cells #[(.slice A0_0 l0_0.length c0_0)] 26 (0, 0))) ∧ Aside0 (Below w.heap.size w w'))
 case atStart => exact ⟨(0), rr, H', ⟨Nat.le_refl _⟩, ⟨bo BK809.out⟩, ⟨bw⟩⟩
 case round =>
  clear H'
  try clear c1
  obtain ⟨x7_1, rfl, HA, HK1, BK809, HB⟩ := hrel
  cases gk with
  | zero => exact absurd HA.out (by simp [spec_l16Dual.l0])
  | succ k1 =>
   have H := HA.out
   clear HA
   simp only [spec_l16Dual.l0] at H
   replace H := gi H; obtain ⟨c5b0, H⟩ | ⟨c5b0, H⟩ := H
   ·replace H := gd H; obtain ⟨c6b0, H⟩ := H
    replace H := ga H; obtain ⟨t811, A7, H⟩ := H
    replace H := gb H; obtain ⟨rfl, H⟩ | ⟨rfl, H⟩ := H
    ·have H' := am H
     clear H
     try go_wp2
     replace BK809 := bd BK809
     replace HB := am (below_drew1 HB.out)
     obtain ⟨⟨ad810, e810, hx810_0⟩, p810, q810⟩ := pq (Kd.at_int HR1.out x7_1)
     have hw810_0 := hx810_0
     cases e810
     replace hx810_0 := hw HB hx810_0
     refine start_ (n := 9) (S := fun w' => w'.cell? ⟨gb809, 0, none⟩ = some (.slice A0_0 l0_0.length c0_0) ∧ w'.cell? (ad810.add (x7_1).toNat) = some (.int .i64 (rd l1 x7_1))) (ds := []) (yz 9 0) (by kernel_rfl) rfl rfl ⟨bc BK809 0 _, ((HB.out.cell (World.block_lt_of_cell? w _ hw810_0)).trans hw810_0)⟩ (fun hHeld => ?_); refine with_tabW spec_l16Dual.tab4 spec_l16Dual.bits4 (fun HT_ HW_ => ?_)
     generalize wr.drew = w9 at BK809 HB hx810_0 hHeld ⊢
     refine pa 1 (some 15) (yz 9 2) HT_ ?_
     refine pa 2 (some 16) (yz 9 6) HT_ ?_
     refine pa 3 (some 17) (yz 9 14) HT_ ?_
     refine pa 4 (some 18) (yz 9 30) HT_ ?_
     refine tk 0 (some 14) (yz 9 31) HT_ HW_ hHeld ?_
     refine tk 5 (some 19) (yz 9 63) HT_ HW_ hHeld ?_
     refine pa 6 (some 20) (yz 9 127) HT_ ?_
     refine oa 7 (some 21) (yz 9 255) HT_ (fun K hK => ?_)
     refine goes_ Tryz.func104 (by kernel_rfl) rfl #[.agg #[.slice A0_0 l0_0.length c0_0], .int .i64 (wrap64 (a2 + (rd l1 x7_1)))] (by rfl) rfl rfl (by (try simp only [List.map_toArray, List.map_cons, List.map_nil]); first | done | rfl | (simp only [List.length_drop, List.length_take]; rfl)) ?_
     with_reducible refine (spec_l15Has.calls k1 _ _ l0_0 (wrap64 (a2 + (rd l1 x7_1))) true _ ?side1 ?side2 A7.out).mono ?_
     (case side1 => exact co (Kd.C_below HR0_0.out HB.out))
     (case side2 => exact HC0_0.out)
     rintro e w10 ⟨rfl, hb⟩
     refine ⟨_, rfl, ?_⟩
     replace BK809 := kb BK809 hb
     replace HB := am (below_step bw hb)
     clear hb
     refine hK.out _ _ ⟨bc BK809 0 _, ((HB.out.cell (World.block_lt_of_cell? w _ hw810_0)).trans hw810_0)⟩ (fun hHeld => ?_)
     clear hK K
     refine nm (some 21) ?_
     refine pa 8 (some 22) (yz 9 511) HT_ ?_
     refine done_ (done_of HT_.out (by kernel_rfl)) ?_
     try go_wp2
     go_roundg k1
     case measure => have := HK1.out; omega
     case rel => exact ⟨(wrap64 (x7_1 + 1)), rr, H', ⟨by have := HK1.out; omega⟩, ⟨bo BK809.out⟩, ⟨bw⟩⟩
    obtain rfl := Option.some.inj H
    try go_wp2
    replace BK809 := bd BK809
    replace HB := am (below_drew1 HB.out)
    obtain ⟨⟨ad810, e810, hx810_0⟩, p810, q810⟩ := pq (Kd.at_int HR1.out x7_1)
    have hw810_0 := hx810_0
    cases e810
    replace hx810_0 := hw HB hx810_0
    refine start_ (n := 9) (S := fun w' => w'.cell? ⟨gb809, 0, none⟩ = some (.slice A0_0 l0_0.length c0_0) ∧ w'.cell? (ad810.add (x7_1).toNat) = some (.int .i64 (rd l1 x7_1))) (ds := []) (yz 9 0) (by kernel_rfl) rfl rfl ⟨bc BK809 0 _, ((HB.out.cell (World.block_lt_of_cell? w _ hw810_0)).trans hw810_0)⟩ (fun hHeld => ?_); refine with_tabW spec_l16Dual.tab4 spec_l16Dual.bits4 (fun HT_ HW_ => ?_)
    generalize wr.drew = w11 at BK809 HB hx810_0 hHeld ⊢
    refine pa 1 (some 15) (yz 9 2) HT_ ?_
    refine pa 2 (some 16) (yz 9 6) HT_ ?_
    refine pa 3 (some 17) (yz 9 14) HT_ ?_
    refine pa 4 (some 18) (yz 9 30) HT_ ?_
    refine tk 0 (some 14) (yz 9 31) HT_ HW_ hHeld ?_
    refine tk 5 (some 19) (yz 9 63) HT_ HW_ hHeld ?_
    refine pa 6 (some 20) (yz 9 127) HT_ ?_
    refine oa 7 (some 21) (yz 9 255) HT_ (fun K hK => ?_)
    refine goes_ Tryz.func104 (by kernel_rfl) rfl #[.agg #[.slice A0_0 l0_0.length c0_0], .int .i64 (wrap64 (a2 + (rd l1 x7_1)))] (by rfl) rfl rfl (by (try simp only [List.map_toArray, List.map_cons, List.map_nil]); first | done | rfl | (simp only [List.length_drop, List.length_take]; rfl)) ?_
    with_reducible refine (spec_l15Has.calls k1 _ _ l0_0 (wrap64 (a2 + (rd l1 x7_1))) false _ ?side1 ?side2 A7.out).mono ?_
    (case side1 => exact co (Kd.C_below HR0_0.out HB.out))
    (case side2 => exact HC0_0.out)
    rintro e w12 ⟨rfl, hb⟩
    refine ⟨_, rfl, ?_⟩
    replace BK809 := kb BK809 hb
    replace HB := am (below_step bw hb)
    clear hb
    refine hK.out _ _ ⟨bc BK809 0 _, ((HB.out.cell (World.block_lt_of_cell? w _ hw810_0)).trans hw810_0)⟩ (fun hHeld => ?_)
    clear hK K
    refine nm (some 21) ?_
    refine pa 8 (some 22) (yz 9 511) HT_ ?_
    refine done_ (done_of HT_.out (by kernel_rfl)) ?_
    try go_wp2
    go_ret
    exact ⟨re, bw⟩
   obtain rfl := Option.some.inj H
   go_wp2
   go_ret
   exact ⟨re, bw⟩


/-! ### spec_DualGens: function 19 -/
mutual
def spec_DualGens.j0 : Nat → List Int → Bool → List Int → Option (List Int)
 | 0, _, _, _ => none
 | k + 1, x1, x15, x813000 => if x15 = true then (some (([] : List Int))) else ((spec_SortList.f k x1).bind fun t818 => (if 0 < (t818.length : Int) then (spec_DualGens.l0 k x1 (rd t818 0) (([] : List Int)) (wrap64 (-(rd t818 0))) x813000) else (none)))
def spec_DualGens.l0 : Nat → List Int → Int → List Int → Int → List Int → Option (List Int)
 | 0, _, _, _, _, _ => none
 | k + 1, x1, x5, x6, x7, x813000 => (spec_ConductorOf.f k x813000).bind fun t825 => (if 0 < (x813000.length : Int) then (if x7 < (wrap64 ((wrap64 (t825 - x5)) + (rd x813000 0))) then ((spec_l16Dual.f k x813000 x1 x7).bind fun t827 => (if t827 = true then (if x6.length < 17592186044416 then (spec_DualGens.l0 k x1 x5 (x6 ++ [x7]) (wrap64 (x7 + 1)) x813000) else (none)) else (spec_DualGens.l0 k x1 x5 x6 (wrap64 (x7 + 1)) x813000))) else ((spec_MinimalIn.f k x813000 x6).bind fun t831 => (some t831))) else (none))
end
def spec_DualGens.f (k : Nat) (l0_0 : List Int) (l1 : List Int) : Option (List Int) := (spec_IsSemigroup.f k l0_0).bind fun t813 => (if t813 = true then ((spec_l16Valid.f k l1).bind fun t814 => (spec_DualGens.j0 k l1 (!t814) l0_0)) else (spec_DualGens.j0 k l1 true l0_0))
def spec_DualGens.T6 : Bool × List (List Nat × List Nat) := (true, [([], []), ([], []), ([1], [1]), ([], []), ([2, 3], [2, 3]), ([], []), ([5], [5]), ([6], [6]), ([7], [7]), ([4, 8], [4, 8]), ([0, 9], [0, 9])])
def spec_DualGens.B6 : List Nat := [0, 0, 2, 0, 14, 0, 32, 96, 224, 510, 1023]
theorem spec_DualGens.tab6 : rtab .any (opsOf Tryz.f19 6) = spec_DualGens.T6 := by kernel_rfl
theorem spec_DualGens.bits6 : waitsOk spec_DualGens.T6.2 spec_DualGens.B6 = true := by kernel_rfl
set_option maxHeartbeats 8000000 in
set_option maxRecDepth 100000 in
theorem spec_DualGens.calls (k : Nat) (A0_0 : Option Addr) (c0_0 : Nat) (l0_0 : List Int) (A1 : Option Addr) (c1 : Nat) (l1 : List Int) (r : List Int) (w : World) (hr0_0 : Kd.C (Kd.int .i64) w A0_0 l0_0.length l0_0) (hc0_0 : l0_0.length ≤ c0_0) (hr1 : Kd.C (Kd.int .i64) w A1 l1.length l1) (hc1 : l1.length ≤ c1) (h : spec_DualGens.f k l0_0 l1 = some r) :
  Calls Tryz.prog 19 #[.agg #[.slice A0_0 l0_0.length c0_0], .slice A1 l1.length c1] w fun e w' => ∃ v0_ : Value, e = .returned (v0_) ∧ Kd.R (Kd.int .i64) 3 w' w.heap.size (fun _ => True) v0_ r ∧ Below w.heap.size w w' := by
 have hu26 := Tryz.underlying26
 have HR0_0 := am hr0_0
 have HC0_0 := am hc0_0
 clear hr0_0 hc0_0
 have HR1 := am hr1
 have HC1 := am hc1
 clear hr1 hc1
 have HB := am (Below.refl w.heap.size w)
 have H : ((spec_IsSemigroup.f k l0_0).bind fun t813 => (if t813 = true then ((spec_l16Valid.f k l1).bind fun t814 => (spec_DualGens.j0 k l1 (!t814) l0_0)) else (spec_DualGens.j0 k l1 true l0_0))) = some r := h
 clear h
 have HC3 := am H
 clear H
 go_enter Tryz.func19, Tryz.ntmps19
 go_upto_region 1 with (first | ((with_reducible refine gate_dst (N := 2) rfl ?_); refine bx 2 #[.slice A0_0 l0_0.length c0_0] 26 ?_; intro gb812 hg w4 hbox hb; have BK812 := am (hbox); have GW812 := am (gs hg : w.heap.size ≤ gb812); have GE812 := GW812; replace HB := am (below_step bw hb); clear hb hbox hg))
 (try simp only [Act.put, List.setIfInBounds_toArray, List.set_cons_zero, List.set_cons_succ])
 go_cut [15] (fun v15 wc => ∃ (kq : Nat) (x15_2 : Bool), v15 = .bool x15_2 ∧ Aside0 (spec_DualGens.j0 kq l1 x15_2 l0_0 = some r) ∧ Aside0 (kq ≤ k) ∧ Aside0 (wc.heap[gb812]? = some (.cells #[(.slice A0_0 l0_0.length c0_0)] 26 (0, 0))) ∧ Aside0 (Below w.heap.size w wc))
 case first =>
  have H := HC3.out
  clear HC3
  replace H := ga H; obtain ⟨t813, A5, H⟩ := H
  replace H := gb H; obtain ⟨rfl, H⟩ | ⟨rfl, H⟩ := H
  ·replace H := ga H; obtain ⟨t814, A7, H⟩ := H
   have H' := am H
   clear H
   have hcz8_0 := bc BK812 0 (.slice A0_0 l0_0.length c0_0)
   have hfz8_0 := blk_frozen BK812.out 0
   go_wp2_with (first | ((with_reducible refine gate_callee (f := 21) rfl ?_); refine goesL_ (some 9) rfl rfl Tryz.func21 (by kernel_rfl) rfl #[.agg #[.slice A0_0 l0_0.length c0_0]] rfl (by (try simp only [List.map_toArray, List.map_cons, List.map_nil]); first | done | rfl | (simp only [List.length_drop, List.length_take]; rfl)) ?_; (with_reducible refine (spec_IsSemigroup.calls k _ _ l0_0 true _ ?side1 ?side2 A5.out).mono ?_); (case side1 => exact co (Kd.C_below HR0_0.out HB.out)); (case side2 => exact HC0_0.out); rintro e w9 ⟨rfl, hb⟩; refine ⟨_, rfl, ?_⟩; replace BK812 := kb BK812 hb; replace HB := am (below_step bw hb); clear hb) | (go_at_call 53; (with_reducible refine (spec_l16Valid.calls k _ _ l1 t814 _ ?side1 ?side2 A7.out).mono ?_); (case side1 => exact co (Kd.C_below HR1.out HB.out)); (case side2 => exact HC1.out); rintro e w' ⟨rfl, ⟨nd, rfl⟩⟩))
   go_meet
   case rel => exact ⟨_, (!t814), rr, H', ⟨om⟩, ⟨bo BK812.out⟩, ⟨bw⟩⟩
  have H' := am H
  clear H
  have hcz10_0 := bc BK812 0 (.slice A0_0 l0_0.length c0_0)
  have hfz10_0 := blk_frozen BK812.out 0
  go_wp2_with (first | ((with_reducible refine gate_callee (f := 21) rfl ?_); refine goesL_ (some 9) rfl rfl Tryz.func21 (by kernel_rfl) rfl #[.agg #[.slice A0_0 l0_0.length c0_0]] rfl (by (try simp only [List.map_toArray, List.map_cons, List.map_nil]); first | done | rfl | (simp only [List.length_drop, List.length_take]; rfl)) ?_; (with_reducible refine (spec_IsSemigroup.calls k _ _ l0_0 false _ ?side1 ?side2 A5.out).mono ?_); (case side1 => exact co (Kd.C_below HR0_0.out HB.out)); (case side2 => exact HC0_0.out); rintro e w11 ⟨rfl, hb⟩; refine ⟨_, rfl, ?_⟩; replace BK812 := kb BK812 hb; replace HB := am (below_step bw hb); clear hb))
  go_meet
  case rel => exact ⟨_, (true), rr, H', ⟨om⟩, ⟨bo BK812.out⟩, ⟨bw⟩⟩
 case rest =>
  clear HC3
  try clear c1; try clear hcz10_0; try clear hcz8_0; try clear hfz10_0; try clear hfz8_0
  obtain ⟨kq, x15_2, rfl, HA, HJ2, BK812, HB⟩ := hcut
  cases kq with
  | zero => exact absurd HA.out (by simp [spec_DualGens.j0])
  | succ kj2 =>
   have H := HA.out
   clear HA
   simp only [spec_DualGens.j0] at H
   replace H := gb H; obtain ⟨rfl, H⟩ | ⟨rfl, H⟩ := H
   ·obtain ⟨y815, hy815⟩ : ∃ y_ : List Int, y_ = (([] : List Int)) := ⟨_, rfl⟩
    replace H : (some y815) = some r := by first | (rw [hy815]; with_reducible first | exact H | exact bs H) | (with_reducible first | exact bs H | exact H) | (rw [hy815]; exact H) | exact H
    have Ny815 := am hy815
    clear hy815
    obtain rfl := Option.some.inj H
    go_wp2_with (first | ((with_reducible refine gate_dst (N := 16) rfl ?_); refine Kd.R_lit (Kd.int .i64) _ 3 ?hg (N := 16) ?hd (xs := ([] : List Int)) (inner := []) (ok := fun _ => True) (okp := fun _ => True) ?hr ?hp (fun _ hk => hk) trivial (Below.refl _ _) (Nat.le_refl _) (by simp) ?_; (case hd => rfl); (case hg => rfl); (case hr => first | (go_simp; done) | (go_simp; rfl)); (case hp => exact (Reps.none _ _)); intro v816 w13 ho14 hb hg_ hnew_; clear hg_ hnew_; (first | rw [← Ny815.out] at ho14 | (simp only [Int.reduceToNat] at ho14; rw [← Ny815.out] at ho14)); have HO817 := am (Kd.R_lower ho14 (below_size bw)); replace BK812 := kb BK812 hb; replace HB := am (below_step bw hb); clear hb ho14))
    go_ret
    exact ⟨_, re, ro HO817.out, bw⟩
   replace H := ga H; obtain ⟨t818, A15, H⟩ := H
   replace H := gp H; obtain ⟨c16, H⟩ := H
   have c16b0 : decide (0 < (t818.length : Int)) = true := decide_eq_true c16
   have c16b1 : decide (0 < t818.length) = true := decide_eq_true (by omega)
   clear c16
   obtain ⟨y822, hy822⟩ : ∃ y_ : List Int, y_ = (([] : List Int)) := ⟨_, rfl⟩
   replace H : (spec_DualGens.l0 kj2 l1 (rd t818 0) y822 (wrap64 (-(rd t818 0))) l0_0) = some r := by first | (rw [hy822]; with_reducible first | exact H | exact bs H) | (with_reducible first | exact bs H | exact H) | (rw [hy822]; exact H) | exact H
   have Ny822 := am hy822
   clear hy822
   have H' := am H
   clear H
   go_wp2_with (first | ((with_reducible refine gate_callee (f := 59) rfl ?_); refine goesL_ (some 18) rfl rfl Tryz.func59 (by kernel_rfl) rfl #[.slice A1 l1.length c1] rfl (by (try simp only [List.map_toArray, List.map_cons, List.map_nil]); first | done | rfl | (simp only [List.length_drop, List.length_take]; rfl)) ?_; (with_reducible refine (spec_SortList.calls kj2 _ _ l1 t818 _ ?side1 ?side2 A15.out).mono ?_); (case side1 => exact co (Kd.C_below HR1.out HB.out)); (case side2 => exact HC1.out); rintro e w17 ⟨v819, rfl, ho0, hb⟩; refine ⟨_, rfl, ?_⟩; have HO820 := am (Kd.R_lower ho0 (below_size bw)); replace BK812 := kb BK812 hb; replace HB := am (below_step bw hb); clear hb ho0; obtain ⟨Ao18, co18, eo18⟩ := Kd.R_slice HO820.out; subst eo18; have p821 : 0 ≤ (0 : Int) := (by omega); have q821 : 0 < (t818.length : Int) := of_decide_eq_true (by first | (with_reducible assumption) | assumption); obtain ⟨ad821, e821, hx821_0⟩ := Kd.at_int (Kd.R_reads' HO820.out).2.2 0 p821 q821; cases e821; have qi821 : (0 < t818.length) = True := eq_true (by omega); (try rw [show ((0 : Int)).toNat = 0 from rfl] at hx821_0); (try rw [Addr.add_zero'] at hx821_0); replace p821 := eq_true p821; replace q821 := eq_true q821) | ((with_reducible refine gate_dst (N := 21) rfl ?_); refine Kd.R_lit (Kd.int .i64) _ 3 ?hg (N := 21) ?hd (xs := ([] : List Int)) (inner := []) (ok := fun _ => True) (okp := fun _ => True) ?hr ?hp (fun _ hk => hk) trivial (Below.refl _ _) (Nat.le_refl _) (by simp) ?_; (case hd => rfl); (case hg => rfl); (case hr => first | (go_simp; done) | (go_simp; rfl)); (case hp => exact (Reps.none _ _)); intro v823 w19 ho20 hb hg_ hnew_; clear hg_ hnew_; (first | rw [← Ny822.out] at ho20 | (simp only [Int.reduceToNat] at ho20; rw [← Ny822.out] at ho20)); have HO824 := am (Kd.R_lower (Kd.R_new' ho20 (Kd.R_lt (ro HO820.out))) (below_size bw)); replace HO820 := am (Kd.R_elder' (ro HO820.out) (Kd.R_base ho20) hb); replace BK812 := kb BK812 hb; replace HB := am (below_step bw hb); clear hb ho20))
   go_loopg [6, 7] kj2 (fun kq v6 v7 w' => ∃ (x6_2 : List Int) (x7_2 : Int), v7 = .int .i64 x7_2 ∧ Aside0 (spec_DualGens.l0 kq l1 (rd t818 0) x6_2 x7_2 l0_0 = some r) ∧ Aside0 (kq ≤ kj2) ∧ Aside0 (Kd.R (Kd.int .i64) 3 w' w.heap.size (fun _ => True) v6 x6_2) ∧ Aside0 (w'.heap[gb812]? = some (.cells #[(.slice A0_0 l0_0.length c0_0)] 26 (0, 0))) ∧ Aside0 (Below w.heap.size w w'))
   case atStart => exact ⟨(y822), (wrap64 (-(rd t818 0))), rr, H', ⟨Nat.le_refl _⟩, ⟨by (with_reducible repeat (first | apply Kd.R_alloc | apply Kd.R_drewN | apply Kd.R_drew)); exact Kd.R_mono HO824.out (fun _ hk => trivial)⟩, ⟨bo BK812.out⟩, ⟨bw⟩⟩
   case round =>
    clear H'
    try clear c1; try clear c16; try clear c16b0; try clear c16b1; try clear hcz10_0; try clear hcz8_0; try clear hfz10_0; try clear hfz8_0; try clear hx821_0; try clear p821; try clear q821
    obtain ⟨x6_2, x7_2, rfl, HA, HK2, HO_6, BK812, HB⟩ := hrel
    cases gk with
    | zero => exact absurd HA.out (by simp [spec_DualGens.l0])
    | succ k2 =>
     have H := HA.out
     clear HA
     simp only [spec_DualGens.l0] at H
     replace H := ga H; obtain ⟨t825, A21, H⟩ := H
     replace H := gp H; obtain ⟨c22, H⟩ := H
     have c22b0 : decide (0 < (l0_0.length : Int)) = true := decide_eq_true c22
     have c22b1 : decide (0 < l0_0.length) = true := decide_eq_true (by omega)
     clear c22
     replace H := gi H; obtain ⟨c23b0, H⟩ | ⟨c23b0, H⟩ := H
     ·replace H := ga H; obtain ⟨t827, A24, H⟩ := H
      replace H := gb H; obtain ⟨rfl, H⟩ | ⟨rfl, H⟩ := H
      ·by_cases c26 : x6_2.length < 17592186044416
       rotate_left
       ·rw [if_neg c26] at H
        exact absurd H (by simp)
       rw [if_pos c26] at H
       have LMc26 := am c26
       clear c26
       obtain ⟨y828, hy828⟩ : ∃ y_ : List Int, y_ = (x6_2 ++ [x7_2]) := ⟨_, rfl⟩
       replace H : (spec_DualGens.l0 k2 l1 (rd t818 0) y828 (wrap64 (x7_2 + 1)) l0_0) = some r := by first | (rw [hy828]; with_reducible first | exact H | exact bs H) | (with_reducible first | exact bs H | exact H) | (rw [hy828]; exact H) | exact H
       have Ny828 := am hy828
       clear hy828
       have H' := am H
       clear H
       try go_wp2
       replace HO_6 := am (Kd.R_drew HO_6.out)
       replace BK812 := bd BK812
       replace HB := am (below_drew1 HB.out)
       have p826 : 0 ≤ (0 : Int) := (by omega)
       have q826 : 0 < (l0_0.length : Int) := of_decide_eq_true (by first | (with_reducible assumption) | assumption)
       obtain ⟨ad826, e826, hx826_0⟩ := Kd.at_int HR0_0.out 0 p826 q826
       have hw826_0 := hx826_0
       (try rw [show ((0 : Int)).toNat = 0 from rfl] at hw826_0)
       (try rw [show 0 * 1 = 0 from rfl] at hw826_0)
       (try rw [Addr.add_zero'] at hw826_0)
       cases e826
       have qi826 : (0 < l0_0.length) = True := eq_true (by omega)
       (try rw [show ((0 : Int)).toNat = 0 from rfl] at hx826_0)
       (try rw [Addr.add_zero'] at hx826_0)
       replace hx826_0 := hw HB hx826_0
       replace p826 := eq_true p826
       replace q826 := eq_true q826
       refine start_ (n := 11) (S := fun w' => w'.cell? ⟨gb812, 0, none⟩ = some (.slice (some ad826) l0_0.length c0_0) ∧ w'.cell? ad826 = some (.int .i64 (rd l0_0 0))) (ds := []) (yz 11 0) (by kernel_rfl) rfl rfl ⟨bc BK812 0 _, ((HB.out.cell (World.block_lt_of_cell? w _ hw826_0)).trans hw826_0)⟩ (fun hHeld => ?_); refine with_tabW spec_DualGens.tab6 spec_DualGens.bits6 (fun HT_ HW_ => ?_)
       generalize wr.drew = w27 at HO_6 BK812 HB hx826_0 hHeld ⊢
       refine pa 0 (some 24) (yz 11 1) HT_ ?_
       refine pa 3 (some 27) (yz 11 9) HT_ ?_
       refine pa 5 (some 29) (yz 11 41) HT_ ?_
       refine tk 1 (some 25) (yz 11 43) HT_ HW_ hHeld ?_
       refine tk 6 (some 30) (yz 11 107) HT_ HW_ hHeld ?_
       refine pa 7 (some 31) (yz 11 235) HT_ ?_
       refine tk 8 (some 32) (yz 11 491) HT_ HW_ hHeld ?_
       refine oa 2 (some 26) (yz 11 495) HT_ (fun K hK => ?_)
       refine goes_ Tryz.func60 (by kernel_rfl) rfl #[.agg #[.slice (some ad826) l0_0.length c0_0]] (by rfl) rfl rfl (by (try simp only [List.map_toArray, List.map_cons, List.map_nil]); first | done | rfl | (simp only [List.length_drop, List.length_take]; rfl)) ?_
       with_reducible refine (spec_ConductorOf.calls k2 _ _ l0_0 t825 _ ?side1 ?side2 A21.out).mono ?_
       (case side1 => exact co (Kd.C_below HR0_0.out HB.out))
       (case side2 => exact HC0_0.out)
       rintro e w28 ⟨rfl, hb⟩
       refine ⟨_, rfl, ?_⟩
       replace HO_6 := rK HO_6 hb
       replace BK812 := kb BK812 hb
       replace HB := am (below_step bw hb)
       clear hb
       refine hK.out _ _ ⟨bc BK812 0 _, ((HB.out.cell (World.block_lt_of_cell? w _ hw826_0)).trans hw826_0)⟩ (fun hHeld => ?_)
       clear hK K
       refine nm (some 26) ?_
       refine pa 4 (some 28) (yz 11 511) HT_ ?_
       refine pa 9 (some 33) (yz 11 1023) HT_ ?_
       refine pa 10 (some 34) (yz 11 2047) HT_ ?_
       refine done_ (done_of HT_.out (by kernel_rfl)) ?_
       have hcz29_0 := bc BK812 0 (.slice (some ad826) l0_0.length c0_0)
       have hfz29_0 := blk_frozen BK812.out 0
       try go_wp2_with (first | ((with_reducible refine gate_callee (f := 61) rfl ?_); refine goesL_ (some 40) rfl rfl Tryz.func61 (by kernel_rfl) rfl #[.agg #[.slice (some ad826) l0_0.length c0_0], .slice A1 l1.length c1, .int .i64 x7_2] rfl (by (try simp only [List.map_toArray, List.map_cons, List.map_nil]); first | done | rfl | (simp only [List.length_drop, List.length_take]; rfl)) ?_; (with_reducible refine (spec_l16Dual.calls k2 _ _ l0_0 _ _ l1 x7_2 true _ ?side1 ?side2 ?side3 ?side4 A24.out).mono ?_); (case side1 => exact co (Kd.C_below HR0_0.out HB.out)); (case side2 => exact HC0_0.out); (case side3 => exact co (Kd.C_below HR1.out HB.out)); (case side4 => exact HC1.out); rintro e w30 ⟨rfl, hb⟩; refine ⟨_, rfl, ?_⟩; replace HO_6 := rK HO_6 hb; replace BK812 := kb BK812 hb; replace HB := am (below_step bw hb); clear hb) | ((with_reducible refine gate_builtin (b := .append) (xs := #[.tmp 41, .tmp 43]) rfl ?_); at_builtin; refine Kd.R_append (Kd.int .i64) (w0 := w) w.heap.size rfl (.tmp 41) (.tmp 43) 24 3 (.int .i64 0) 8 rfl Tryz.underlying24 info3 rfl (by decide) (by omega) u6 x6_2 x7_2 [.int .i64 x7_2] (fun _ => True) (fun _ => False) rfl rfl ?aP (fun _ hk => hk.elim) ?aF ?aO ?aB ?aS ?aL ?_; (case aP => exact rfl); (case aB => exact bw); (case aF => exact (fun _ _ => trivial)); (case aO => exact (ro HO_6.out)); (case aS => exact (below_size bw)); (case aL => have := LMc26.out; omega); intro v829 w31 ho hb hg hat; rw [← Ny828.out] at ho; replace BK812 := am (blk_grown (g := gb812) (o := .cells #[.slice (some ad826) l0_0.length c0_0] 26 (0, 0)) (bo BK812.out) hg (Kd.R_ne HO_6.out BK812.out (by decide))); replace HB := am (hb); have HO830 := am (ho); clear HO_6 ho hb hg hat))
       go_roundg k2
       case measure => have := HJ2.out; have := HK2.out; omega
       case rel => exact ⟨(y828), (wrap64 (x7_2 + 1)), rr, H', ⟨by have := HJ2.out; have := HK2.out; omega⟩, ⟨ro HO830.out⟩, ⟨bo BK812.out⟩, ⟨bw⟩⟩
      have H' := am H
      clear H
      try go_wp2
      replace HO_6 := am (Kd.R_drew HO_6.out)
      replace BK812 := bd BK812
      replace HB := am (below_drew1 HB.out)
      have p826 : 0 ≤ (0 : Int) := (by omega)
      have q826 : 0 < (l0_0.length : Int) := of_decide_eq_true (by first | (with_reducible assumption) | assumption)
      obtain ⟨ad826, e826, hx826_0⟩ := Kd.at_int HR0_0.out 0 p826 q826
      have hw826_0 := hx826_0
      (try rw [show ((0 : Int)).toNat = 0 from rfl] at hw826_0)
      (try rw [show 0 * 1 = 0 from rfl] at hw826_0)
      (try rw [Addr.add_zero'] at hw826_0)
      cases e826
      have qi826 : (0 < l0_0.length) = True := eq_true (by omega)
      (try rw [show ((0 : Int)).toNat = 0 from rfl] at hx826_0)
      (try rw [Addr.add_zero'] at hx826_0)
      replace hx826_0 := hw HB hx826_0
      replace p826 := eq_true p826
      replace q826 := eq_true q826
      refine start_ (n := 11) (S := fun w' => w'.cell? ⟨gb812, 0, none⟩ = some (.slice (some ad826) l0_0.length c0_0) ∧ w'.cell? ad826 = some (.int .i64 (rd l0_0 0))) (ds := []) (yz 11 0) (by kernel_rfl) rfl rfl ⟨bc BK812 0 _, ((HB.out.cell (World.block_lt_of_cell? w _ hw826_0)).trans hw826_0)⟩ (fun hHeld => ?_); refine with_tabW spec_DualGens.tab6 spec_DualGens.bits6 (fun HT_ HW_ => ?_)
      generalize wr.drew = w32 at HO_6 BK812 HB hx826_0 hHeld ⊢
      refine pa 0 (some 24) (yz 11 1) HT_ ?_
      refine pa 3 (some 27) (yz 11 9) HT_ ?_
      refine pa 5 (some 29) (yz 11 41) HT_ ?_
      refine tk 1 (some 25) (yz 11 43) HT_ HW_ hHeld ?_
      refine tk 6 (some 30) (yz 11 107) HT_ HW_ hHeld ?_
      refine pa 7 (some 31) (yz 11 235) HT_ ?_
      refine tk 8 (some 32) (yz 11 491) HT_ HW_ hHeld ?_
      refine oa 2 (some 26) (yz 11 495) HT_ (fun K hK => ?_)
      refine goes_ Tryz.func60 (by kernel_rfl) rfl #[.agg #[.slice (some ad826) l0_0.length c0_0]] (by rfl) rfl rfl (by (try simp only [List.map_toArray, List.map_cons, List.map_nil]); first | done | rfl | (simp only [List.length_drop, List.length_take]; rfl)) ?_
      with_reducible refine (spec_ConductorOf.calls k2 _ _ l0_0 t825 _ ?side1 ?side2 A21.out).mono ?_
      (case side1 => exact co (Kd.C_below HR0_0.out HB.out))
      (case side2 => exact HC0_0.out)
      rintro e w33 ⟨rfl, hb⟩
      refine ⟨_, rfl, ?_⟩
      replace HO_6 := rK HO_6 hb
      replace BK812 := kb BK812 hb
      replace HB := am (below_step bw hb)
      clear hb
      refine hK.out _ _ ⟨bc BK812 0 _, ((HB.out.cell (World.block_lt_of_cell? w _ hw826_0)).trans hw826_0)⟩ (fun hHeld => ?_)
      clear hK K
      refine nm (some 26) ?_
      refine pa 4 (some 28) (yz 11 511) HT_ ?_
      refine pa 9 (some 33) (yz 11 1023) HT_ ?_
      refine pa 10 (some 34) (yz 11 2047) HT_ ?_
      refine done_ (done_of HT_.out (by kernel_rfl)) ?_
      have hcz34_0 := bc BK812 0 (.slice (some ad826) l0_0.length c0_0)
      have hfz34_0 := blk_frozen BK812.out 0
      try go_wp2_with (first | ((with_reducible refine gate_callee (f := 61) rfl ?_); refine goesL_ (some 40) rfl rfl Tryz.func61 (by kernel_rfl) rfl #[.agg #[.slice (some ad826) l0_0.length c0_0], .slice A1 l1.length c1, .int .i64 x7_2] rfl (by (try simp only [List.map_toArray, List.map_cons, List.map_nil]); first | done | rfl | (simp only [List.length_drop, List.length_take]; rfl)) ?_; (with_reducible refine (spec_l16Dual.calls k2 _ _ l0_0 _ _ l1 x7_2 false _ ?side1 ?side2 ?side3 ?side4 A24.out).mono ?_); (case side1 => exact co (Kd.C_below HR0_0.out HB.out)); (case side2 => exact HC0_0.out); (case side3 => exact co (Kd.C_below HR1.out HB.out)); (case side4 => exact HC1.out); rintro e w35 ⟨rfl, hb⟩; refine ⟨_, rfl, ?_⟩; replace HO_6 := rK HO_6 hb; replace BK812 := kb BK812 hb; replace HB := am (below_step bw hb); clear hb))
      go_roundg k2
      case measure => have := HJ2.out; have := HK2.out; omega
      case rel => exact ⟨(x6_2), (wrap64 (x7_2 + 1)), rr, H', ⟨by have := HJ2.out; have := HK2.out; omega⟩, ⟨ro HO_6.out⟩, ⟨bo BK812.out⟩, ⟨bw⟩⟩
     replace H := ga H; obtain ⟨t831, A36, H⟩ := H
     obtain rfl := Option.some.inj H
     try go_wp2
     replace HO_6 := am (Kd.R_drew HO_6.out)
     replace BK812 := bd BK812
     replace HB := am (below_drew1 HB.out)
     have p826 : 0 ≤ (0 : Int) := (by omega)
     have q826 : 0 < (l0_0.length : Int) := of_decide_eq_true (by first | (with_reducible assumption) | assumption)
     obtain ⟨ad826, e826, hx826_0⟩ := Kd.at_int HR0_0.out 0 p826 q826
     have hw826_0 := hx826_0
     (try rw [show ((0 : Int)).toNat = 0 from rfl] at hw826_0)
     (try rw [show 0 * 1 = 0 from rfl] at hw826_0)
     (try rw [Addr.add_zero'] at hw826_0)
     cases e826
     have qi826 : (0 < l0_0.length) = True := eq_true (by omega)
     (try rw [show ((0 : Int)).toNat = 0 from rfl] at hx826_0)
     (try rw [Addr.add_zero'] at hx826_0)
     replace hx826_0 := hw HB hx826_0
     replace p826 := eq_true p826
     replace q826 := eq_true q826
     refine start_ (n := 11) (S := fun w' => w'.cell? ⟨gb812, 0, none⟩ = some (.slice (some ad826) l0_0.length c0_0) ∧ w'.cell? ad826 = some (.int .i64 (rd l0_0 0))) (ds := []) (yz 11 0) (by kernel_rfl) rfl rfl ⟨bc BK812 0 _, ((HB.out.cell (World.block_lt_of_cell? w _ hw826_0)).trans hw826_0)⟩ (fun hHeld => ?_); refine with_tabW spec_DualGens.tab6 spec_DualGens.bits6 (fun HT_ HW_ => ?_)
     generalize wr.drew = w37 at HO_6 BK812 HB hx826_0 hHeld ⊢
     refine pa 0 (some 24) (yz 11 1) HT_ ?_
     refine pa 3 (some 27) (yz 11 9) HT_ ?_
     refine pa 5 (some 29) (yz 11 41) HT_ ?_
     refine tk 1 (some 25) (yz 11 43) HT_ HW_ hHeld ?_
     refine tk 6 (some 30) (yz 11 107) HT_ HW_ hHeld ?_
     refine pa 7 (some 31) (yz 11 235) HT_ ?_
     refine tk 8 (some 32) (yz 11 491) HT_ HW_ hHeld ?_
     refine oa 2 (some 26) (yz 11 495) HT_ (fun K hK => ?_)
     refine goes_ Tryz.func60 (by kernel_rfl) rfl #[.agg #[.slice (some ad826) l0_0.length c0_0]] (by rfl) rfl rfl (by (try simp only [List.map_toArray, List.map_cons, List.map_nil]); first | done | rfl | (simp only [List.length_drop, List.length_take]; rfl)) ?_
     with_reducible refine (spec_ConductorOf.calls k2 _ _ l0_0 t825 _ ?side1 ?side2 A21.out).mono ?_
     (case side1 => exact co (Kd.C_below HR0_0.out HB.out))
     (case side2 => exact HC0_0.out)
     rintro e w38 ⟨rfl, hb⟩
     refine ⟨_, rfl, ?_⟩
     replace HO_6 := rK HO_6 hb
     replace BK812 := kb BK812 hb
     replace HB := am (below_step bw hb)
     clear hb
     refine hK.out _ _ ⟨bc BK812 0 _, ((HB.out.cell (World.block_lt_of_cell? w _ hw826_0)).trans hw826_0)⟩ (fun hHeld => ?_)
     clear hK K
     refine nm (some 26) ?_
     refine pa 4 (some 28) (yz 11 511) HT_ ?_
     refine pa 9 (some 33) (yz 11 1023) HT_ ?_
     refine pa 10 (some 34) (yz 11 2047) HT_ ?_
     refine done_ (done_of HT_.out (by kernel_rfl)) ?_
     have hcz39_0 := bc BK812 0 (.slice (some ad826) l0_0.length c0_0)
     have hfz39_0 := blk_frozen BK812.out 0
     obtain ⟨Ao40, co40, eo40⟩ := Kd.R_slice HO_6.out
     subst eo40
     try go_wp2_with (first | ((with_reducible refine gate_callee (f := 56) rfl ?_); refine goesL_ (some 47) rfl rfl Tryz.func56 (by kernel_rfl) rfl #[.agg #[.slice (some ad826) l0_0.length c0_0], .slice Ao40 x6_2.length co40] rfl (by (try simp only [List.map_toArray, List.map_cons, List.map_nil]); first | done | rfl | (simp only [List.length_drop, List.length_take]; rfl)) ?_; (with_reducible refine (spec_MinimalIn.calls k2 _ _ l0_0 _ _ x6_2 t831 _ ?side1 ?side2 ?side3 ?side4 A36.out).mono ?_); (case side1 => exact co (Kd.C_below HR0_0.out HB.out)); (case side2 => exact HC0_0.out); (case side3 => exact co (Kd.R_reads' HO_6.out).2.2); (case side4 => exact (Kd.R_reads' HO_6.out).2.1); rintro e w41 ⟨v832, rfl, ho0, hb⟩; refine ⟨_, rfl, ?_⟩; have HO833 := am (Kd.R_lower (Kd.R_new' ho0 (Kd.R_lt (ro HO_6.out))) (below_size bw)); replace HO_6 := am (Kd.R_elder' (ro HO_6.out) (Kd.R_base ho0) hb); replace BK812 := kb BK812 hb; replace HB := am (below_step bw hb); clear hb ho0))
     go_ret
     exact ⟨_, re, by (with_reducible repeat (first | apply Kd.R_alloc | apply Kd.R_drewN | apply Kd.R_drew)); exact Kd.R_mono HO833.out (fun _ hk => trivial), bw⟩


/-! ### spec_HasNumber: function 76 -/
def spec_HasNumber.l0 : Nat → List Int → Int → Int → Option (Bool)
 | 0, _, _, _ => none
 | k + 1, x0, x1, x5 => if x5 < (x0.length : Int) then (if 0 ≤ x5 then (if (rd x0 x5) = x1 then (some true) else (spec_HasNumber.l0 k x0 x1 (wrap64 (x5 + 1)))) else (none)) else (some false)
def spec_HasNumber.f (k : Nat) (l0 : List Int) (a1 : Int) : Option (Bool) := spec_HasNumber.l0 k l0 a1 0
set_option maxHeartbeats 8000000 in
set_option maxRecDepth 100000 in
theorem spec_HasNumber.calls (k : Nat) (A0 : Option Addr) (c0 : Nat) (l0 : List Int) (a1 : Int) (r : Bool) (w : World) (hr0 : Kd.C (Kd.int .i64) w A0 l0.length l0) (hc0 : l0.length ≤ c0) (h : spec_HasNumber.f k l0 a1 = some r) :
  Calls Tryz.prog 76 #[.slice A0 l0.length c0, .int .i64 a1] w fun e w' => e = .returned (.bool r) ∧ Drawn0 w w' := by
 have HR0 := am hr0
 have HC0 := am hc0
 clear hr0 hc0
 have H : (spec_HasNumber.l0 k l0 a1 0) = some r := h
 clear h
 have H' := am H
 clear H
 go_enter Tryz.func76, Tryz.ntmps76
 go_wp2
 go_loopg [5] k (fun kq v5 w' => ∃ (x5_1 : Int), v5 = .int .i64 x5_1 ∧ Aside0 (spec_HasNumber.l0 kq l0 a1 x5_1 = some r) ∧ Aside0 (kq ≤ k) ∧ Drawn0 w w')
 case atStart => exact ⟨(0), rr, H', ⟨Nat.le_refl _⟩, dw⟩
 case round =>
  clear H'
  obtain ⟨x5_1, rfl, HA, HK1, ⟨m1, rfl⟩⟩ := hrel
  cases gk with
  | zero => exact absurd HA.out (by simp [spec_HasNumber.l0])
  | succ k1 =>
   have H := HA.out
   clear HA
   simp only [spec_HasNumber.l0] at H
   replace H := gi H; obtain ⟨c3b0, H⟩ | ⟨c3b0, H⟩ := H
   ·replace H := gd H; obtain ⟨c4b0, H⟩ := H
    by_cases c5 : (rd l0 x5_1) = a1
    ·rw [if_pos c5] at H
     have c5b0 : ((rd l0 x5_1) == a1) = true := beq_iff_eq.mpr c5
     have c5b1 : ((rd l0 x5_1) != a1) = false := bne_eq_false_iff_eq.mpr c5
     clear c5
     obtain rfl := Option.some.inj H
     obtain ⟨⟨ad834, e834, hx834_0⟩, p834, q834⟩ := pq (Kd.at_int HR0.out x5_1)
     cases e834
     go_wp2
     go_ret
     exact ⟨rr, dw⟩
    rw [if_neg c5] at H
    have c5b0 : ((rd l0 x5_1) == a1) = false := beq_eq_false_iff_ne.mpr c5
    have c5b1 : ((rd l0 x5_1) != a1) = true := bne_iff_ne.mpr c5
    have H' := am H
    clear H
    obtain ⟨⟨ad834, e834, hx834_0⟩, p834, q834⟩ := pq (Kd.at_int HR0.out x5_1)
    cases e834
    go_wp2
    go_roundg k1
    case measure => have := HK1.out; omega
    case rel => exact ⟨(wrap64 (x5_1 + 1)), rr, H', ⟨by have := HK1.out; omega⟩, dw⟩
   obtain rfl := Option.some.inj H
   go_wp2
   go_ret
   exact ⟨rr, dw⟩


/-! ### spec_PseudoFrobenius: function 62 -/
mutual
def spec_PseudoFrobenius.l0 : Nat → List Int → List Int → Int → List Int → Option (List Int)
 | 0, _, _, _, _ => none
 | k + 1, x3, x4, x5, x836000 => if x5 < (x4.length : Int) then (spec_PseudoFrobenius.l1 k x3 x4 x5 true 0 x836000) else (some x3)
def spec_PseudoFrobenius.l1 : Nat → List Int → List Int → Int → Bool → Int → List Int → Option (List Int)
 | 0, _, _, _, _, _, _ => none
 | k + 1, x3, x4, x5, x6, x7, x836000 => if x7 < (x836000.length : Int) then (if x6 = true then (if 0 ≤ x5 then (if x5 < (x4.length : Int) then (if 0 ≤ x7 then ((spec_HasNumber.f k x4 (wrap64 ((rd x4 x5) + (rd x836000 x7)))).bind fun t844 => (spec_PseudoFrobenius.l1 k x3 x4 x5 (!t844) (wrap64 (x7 + 1)) x836000)) else (none)) else (none)) else (none)) else (spec_PseudoFrobenius.l1 k x3 x4 x5 false (wrap64 (x7 + 1)) x836000)) else (if x6 = true then (if 0 ≤ x5 then (if x5 < (x4.length : Int) then (if x3.length < 17592186044416 then (spec_PseudoFrobenius.l0 k (x3 ++ [rd x4 x5]) x4 (wrap64 (x5 + 1)) x836000) else (none)) else (none)) else (none)) else (spec_PseudoFrobenius.l0 k x3 x4 (wrap64 (x5 + 1)) x836000))
end
def spec_PseudoFrobenius.f (k : Nat) (l0_0 : List Int) : Option (List Int) := (spec_Gaps.f k l0_0).bind fun t839 => (spec_PseudoFrobenius.l0 k (([] : List Int)) t839 0 l0_0)
set_option maxHeartbeats 8000000 in
set_option maxRecDepth 100000 in
theorem spec_PseudoFrobenius.calls (k : Nat) (A0_0 : Option Addr) (c0_0 : Nat) (l0_0 : List Int) (r : List Int) (w : World) (hr0_0 : Kd.C (Kd.int .i64) w A0_0 l0_0.length l0_0) (hc0_0 : l0_0.length ≤ c0_0) (h : spec_PseudoFrobenius.f k l0_0 = some r) :
  Calls Tryz.prog 62 #[.agg #[.slice A0_0 l0_0.length c0_0]] w fun e w' => ∃ v0_ : Value, e = .returned (v0_) ∧ Kd.R (Kd.int .i64) 3 w' w.heap.size (fun _ => True) v0_ r ∧ Below w.heap.size w w' := by
 have hu26 := Tryz.underlying26
 have HR0_0 := am hr0_0
 have HC0_0 := am hc0_0
 clear hr0_0 hc0_0
 have HB := am (Below.refl w.heap.size w)
 have H : ((spec_Gaps.f k l0_0).bind fun t839 => (spec_PseudoFrobenius.l0 k (([] : List Int)) t839 0 l0_0)) = some r := h
 clear h
 obtain ⟨y836, hy836⟩ : ∃ y_ : List Int, y_ = (([] : List Int)) := ⟨_, rfl⟩
 replace H : ((spec_Gaps.f k l0_0).bind fun t839 => (spec_PseudoFrobenius.l0 k y836 t839 0 l0_0)) = some r := by first | (rw [hy836]; with_reducible first | exact H | exact bs H) | (with_reducible first | exact bs H | exact H) | (rw [hy836]; exact H) | exact H
 have Ny836 := am hy836
 clear hy836
 replace H := ga H; obtain ⟨t839, A2, H⟩ := H
 have H' := am H
 clear H
 go_enter Tryz.func62, Tryz.ntmps62
 go_wp2_with (first | ((with_reducible refine gate_dst (N := 1) rfl ?_); refine bx 1 #[.slice A0_0 l0_0.length c0_0] 26 ?_; intro gb835 hg w3 hbox hb; have BK835 := am (hbox); have GW835 := am (gs hg : w.heap.size ≤ gb835); have GE835 := GW835; replace HB := am (below_step bw hb); clear hb hbox hg) | ((with_reducible refine gate_dst (N := 8) rfl ?_); refine Kd.R_lit (Kd.int .i64) _ 3 ?hg (N := 8) ?hd (xs := ([] : List Int)) (inner := []) (ok := fun _ => True) (okp := fun _ => True) ?hr ?hp (fun _ hk => hk) trivial (Below.refl _ _) (Nat.le_refl _) (by simp) ?_; (case hd => rfl); (case hg => rfl); (case hr => first | (go_simp; done) | (go_simp; rfl)); (case hp => exact (Reps.none _ _)); intro v837 w4 ho5 hb hg_ hnew_; clear hg_ hnew_; (first | rw [← Ny836.out] at ho5 | (simp only [Int.reduceToNat] at ho5; rw [← Ny836.out] at ho5)); have HO838 := am (Kd.R_lower ho5 (below_size bw)); replace BK835 := kb BK835 hb; replace HB := am (below_step bw hb); clear hb ho5; have hcz6_0 := bc BK835 0 (.slice A0_0 l0_0.length c0_0); have hfz6_0 := blk_frozen BK835.out 0) | (go_at_call 69; (with_reducible refine (spec_Gaps.calls k _ _ l0_0 t839 _ ?side1 ?side2 A2.out).mono ?_); (case side1 => exact co (Kd.C_below HR0_0.out HB.out)); (case side2 => exact HC0_0.out); rintro e w7 ⟨v840, rfl, ho0, hb⟩; have HO841 := am (Kd.R_lower (Kd.R_new' ho0 (Kd.R_lt (ro HO838.out))) (below_size bw)); replace HO838 := am (Kd.R_elder' (ro HO838.out) (Kd.R_base ho0) hb); replace BK835 := kb BK835 hb; replace HB := am (below_step bw hb); clear hb ho0))
 repeat (go_quiet (first | ((with_reducible refine gate_dst (N := 1) rfl ?_); refine bx 1 #[.slice A0_0 l0_0.length c0_0] 26 ?_; intro gb835 hg w3 hbox hb; have n0_ := am (below_step bw hb); have n1_ := am (hbox); have n2_ := am (gs hg : w.heap.size ≤ gb835); have n3_ := am (gs hg : w.heap.size ≤ gb835); clear HB; have HB := n0_; have BK835 := n1_; have GW835 := n2_; have GE835 := n3_; clear n0_ n1_ n2_ n3_; clear hb hbox hg) | ((with_reducible refine gate_dst (N := 8) rfl ?_); refine Kd.R_lit (Kd.int .i64) _ 3 ?hg (N := 8) ?hd (xs := ([] : List Int)) (inner := []) (ok := fun _ => True) (okp := fun _ => True) ?hr ?hp (fun _ hk => hk) trivial (Below.refl _ _) (Nat.le_refl _) (by simp) ?_; (case hd => rfl); (case hg => rfl); (case hr => first | (go_simp; done) | (go_simp; rfl)); (case hp => exact (Reps.none _ _)); intro v837 w4 ho5 hb hg_ hnew_; clear hg_ hnew_; (first | rw [← Ny836.out] at ho5 | (simp only [Int.reduceToNat] at ho5; rw [← Ny836.out] at ho5)); have n0_ := am (Kd.R_lower ho5 (below_size bw)); have n1_ := am (blk_below (g := gb835) (o := .cells #[.slice A0_0 l0_0.length c0_0] 26 (0, 0)) (bo BK835.out) hb); have n2_ := am (below_step bw hb); clear BK835; clear HB; have HO838 := n0_; have BK835 := n1_; have HB := n2_; clear n0_ n1_ n2_; clear hb ho5; have hcz6_0 := bc BK835 0 (.slice A0_0 l0_0.length c0_0); have hfz6_0 := blk_frozen BK835.out 0) | (go_at_call 69; (with_reducible refine (spec_Gaps.calls k _ _ l0_0 t839 _ ?side1 ?side2 A2.out).mono ?_); (case side1 => exact co (Kd.C_below HR0_0.out HB.out)); (case side2 => exact HC0_0.out); rintro e w7 ⟨v840, rfl, ho0, hb⟩; have n0_ := am (Kd.R_elder' (ro HO838.out) (Kd.R_base ho0) hb); have n1_ := am (Kd.R_lower (Kd.R_new' ho0 (Kd.R_lt (ro HO838.out))) (below_size bw)); have n2_ := am (blk_below (g := gb835) (o := .cells #[.slice A0_0 l0_0.length c0_0] 26 (0, 0)) (bo BK835.out) hb); have n3_ := am (below_step bw hb); clear HO838; clear BK835; clear HB; have HO838 := n0_; have HO841 := n1_; have BK835 := n2_; have HB := n3_; clear n0_ n1_ n2_ n3_; (try clear hb); (try clear hb2); (try clear hk); (try clear hi); (try clear ho0))); try go_wp2_with (first | ((with_reducible refine gate_dst (N := 1) rfl ?_); refine bx 1 #[.slice A0_0 l0_0.length c0_0] 26 ?_; intro gb835 hg w3 hbox hb; have n0_ := am (below_step bw hb); have n1_ := am (hbox); have n2_ := am (gs hg : w.heap.size ≤ gb835); have n3_ := am (gs hg : w.heap.size ≤ gb835); clear HB; have HB := n0_; have BK835 := n1_; have GW835 := n2_; have GE835 := n3_; clear n0_ n1_ n2_ n3_; clear hb hbox hg) | ((with_reducible refine gate_dst (N := 8) rfl ?_); refine Kd.R_lit (Kd.int .i64) _ 3 ?hg (N := 8) ?hd (xs := ([] : List Int)) (inner := []) (ok := fun _ => True) (okp := fun _ => True) ?hr ?hp (fun _ hk => hk) trivial (Below.refl _ _) (Nat.le_refl _) (by simp) ?_; (case hd => rfl); (case hg => rfl); (case hr => first | (go_simp; done) | (go_simp; rfl)); (case hp => exact (Reps.none _ _)); intro v837 w4 ho5 hb hg_ hnew_; clear hg_ hnew_; (first | rw [← Ny836.out] at ho5 | (simp only [Int.reduceToNat] at ho5; rw [← Ny836.out] at ho5)); have n0_ := am (Kd.R_lower ho5 (below_size bw)); have n1_ := am (blk_below (g := gb835) (o := .cells #[.slice A0_0 l0_0.length c0_0] 26 (0, 0)) (bo BK835.out) hb); have n2_ := am (below_step bw hb); clear BK835; clear HB; have HO838 := n0_; have BK835 := n1_; have HB := n2_; clear n0_ n1_ n2_; clear hb ho5; have hcz6_0 := bc BK835 0 (.slice A0_0 l0_0.length c0_0); have hfz6_0 := blk_frozen BK835.out 0) | (go_at_call 69; (with_reducible refine (spec_Gaps.calls k _ _ l0_0 t839 _ ?side1 ?side2 A2.out).mono ?_); (case side1 => exact co (Kd.C_below HR0_0.out HB.out)); (case side2 => exact HC0_0.out); rintro e w7 ⟨v840, rfl, ho0, hb⟩; have n0_ := am (Kd.R_elder' (ro HO838.out) (Kd.R_base ho0) hb); have n1_ := am (Kd.R_lower (Kd.R_new' ho0 (Kd.R_lt (ro HO838.out))) (below_size bw)); have n2_ := am (blk_below (g := gb835) (o := .cells #[.slice A0_0 l0_0.length c0_0] 26 (0, 0)) (bo BK835.out) hb); have n3_ := am (below_step bw hb); clear HO838; clear BK835; clear HB; have HO838 := n0_; have HO841 := n1_; have BK835 := n2_; have HB := n3_; clear n0_ n1_ n2_ n3_; (try clear hb); (try clear hb2); (try clear hk); (try clear hi); (try clear ho0))))
 go_loopg [3, 5] k (fun kq v3 v5 w' => ∃ (x3_1 : List Int) (x5_1 : Int), v5 = .int .i64 x5_1 ∧ Aside0 (spec_PseudoFrobenius.l0 kq x3_1 t839 x5_1 l0_0 = some r) ∧ Aside0 (kq ≤ k) ∧ Aside0 (Kd.R (Kd.int .i64) 3 w' w.heap.size (fun k_ => some k_ ≠ (v840 : Value).ownBlock) v3 x3_1) ∧ Aside0 (Kd.R (Kd.int .i64) 3 w' w.heap.size (fun k_ => some k_ ≠ (v3 : Value).ownBlock) v840 t839) ∧ Aside0 (w'.heap[gb835]? = some (.cells #[(.slice A0_0 l0_0.length c0_0)] 26 (0, 0))) ∧ Aside0 (Below w.heap.size w w'))
 case atStart => exact ⟨(y836), (0), rr, H', ⟨Nat.le_refl _⟩, ⟨by (with_reducible repeat (first | apply Kd.R_alloc | apply Kd.R_drewN | apply Kd.R_drew)); exact Kd.R_mono HO838.out (fun _ hk => hk.2)⟩, ⟨by (with_reducible repeat (first | apply Kd.R_alloc | apply Kd.R_drewN | apply Kd.R_drew)); exact Kd.R_mono HO841.out (fun _ hk => hk.2)⟩, ⟨bo BK835.out⟩, ⟨bw⟩⟩
 case round =>
  clear H'
  try clear hcz6_0; try clear hfz6_0
  obtain ⟨x3_1, x5_1, rfl, HA, HK1, HO_3, HO_4, BK835, HB⟩ := hrel
  cases gk with
  | zero => exact absurd HA.out (by simp [spec_PseudoFrobenius.l0])
  | succ k1 =>
   have H := HA.out
   clear HA
   simp only [spec_PseudoFrobenius.l0] at H
   replace H := gi H; obtain ⟨c8b0, H⟩ | ⟨c8b0, H⟩ := H
   ·have H' := am H
    clear H
    obtain ⟨Ao9, co9, eo9⟩ := Kd.R_slice HO_4.out
    subst eo9
    go_wp2
    repeat (go_quiet (fail); try go_wp2)
    go_loopg [6, 7] k1 (fun kq v6 v7 w' => ∃ (x6_2 : Bool) (x7_2 : Int), v6 = .bool x6_2 ∧ v7 = .int .i64 x7_2 ∧ Aside0 (spec_PseudoFrobenius.l1 kq x3_1 t839 x5_1 x6_2 x7_2 l0_0 = some r) ∧ Aside0 (kq ≤ k1) ∧ Aside0 (Kd.R (Kd.int .i64) 3 w' w.heap.size (fun k_ => nb k_ Ao9 t839 co9) u3 x3_1) ∧ Aside0 (Kd.R (Kd.int .i64) 3 w' w.heap.size (fun k_ => some k_ ≠ (u3 : Value).ownBlock) (.slice Ao9 t839.length co9) t839) ∧ Aside0 (w'.heap[gb835]? = some (.cells #[(.slice A0_0 l0_0.length c0_0)] 26 (0, 0))) ∧ Aside0 (Below w.heap.size w w'))
    case atStart => exact ⟨(true), (0), rr, rr, H', ⟨Nat.le_refl _⟩, ⟨ro HO_3.out⟩, ⟨ro HO_4.out⟩, ⟨bo BK835.out⟩, ⟨bw⟩⟩
    case round =>
     clear H'
     try clear c8b0; try clear hcz6_0; try clear hfz6_0
     obtain ⟨x6_2, x7_2, rfl, rfl, HA, HK2, HO_3, HO_4, BK835, HB⟩ := hrel
     cases gk with
     | zero => exact absurd HA.out (by simp [spec_PseudoFrobenius.l1])
     | succ k2 =>
      have H := HA.out
      clear HA
      simp only [spec_PseudoFrobenius.l1] at H
      replace H := gi H; obtain ⟨c10b0, H⟩ | ⟨c10b0, H⟩ := H
      ·replace H := gb H; obtain ⟨rfl, H⟩ | ⟨rfl, H⟩ := H
       ·replace H := gd H; obtain ⟨c12b0, H⟩ := H
        replace H := gd H; obtain ⟨c13b0, H⟩ := H
        replace H := gd H; obtain ⟨c14b0, H⟩ := H
        replace H := ga H; obtain ⟨t844, A15, H⟩ := H
        have H' := am H
        clear H
        have hcz16_0 := bc BK835 0 (.slice A0_0 l0_0.length c0_0)
        have hfz16_0 := blk_frozen BK835.out 0
        obtain ⟨⟨ad842, e842, hx842_0⟩, p842, q842⟩ := pq (Kd.at_int (Kd.R_reads' HO_4.out).2.2 x5_1)
        cases e842
        obtain ⟨⟨ad843, e843, hx843_0⟩, p843, q843⟩ := pq (Kd.at_int HR0_0.out x7_2)
        cases e843
        replace hx843_0 := hw HB hx843_0
        go_wp2_with (first | (go_at_call 76; (with_reducible refine (spec_HasNumber.calls k2 _ _ t839 (wrap64 ((rd t839 x5_1) + (rd l0_0 x7_2))) t844 _ ?side1 ?side2 A15.out).mono ?_); (case side1 => exact co (Kd.R_reads' HO_4.out).2.2); (case side2 => exact (Kd.R_reads' HO_4.out).2.1); rintro e w' ⟨rfl, ⟨nd, rfl⟩⟩; (try first | exact ⟨rfl, _, World.drewN_drewN _ _ _⟩ | exact ⟨rfl, _, Eq.trans (World.drewN_drewN _ _ _) (congrArg (World.drewN _) (Nat.add_assoc _ _ _))⟩)))
        repeat (go_quiet (first | (go_at_call 76; (with_reducible refine (spec_HasNumber.calls k2 _ _ t839 (wrap64 ((rd t839 x5_1) + (rd l0_0 x7_2))) t844 _ ?side1 ?side2 A15.out).mono ?_); (case side1 => exact co (Kd.R_reads' HO_4.out).2.2); (case side2 => exact (Kd.R_reads' HO_4.out).2.1); rintro e w' ⟨rfl, ⟨nd, rfl⟩⟩; (try first | exact ⟨rfl, _, World.drewN_drewN _ _ _⟩ | exact ⟨rfl, _, Eq.trans (World.drewN_drewN _ _ _) (congrArg (World.drewN _) (Nat.add_assoc _ _ _))⟩))); try go_wp2_with (first | (go_at_call 76; (with_reducible refine (spec_HasNumber.calls k2 _ _ t839 (wrap64 ((rd t839 x5_1) + (rd l0_0 x7_2))) t844 _ ?side1 ?side2 A15.out).mono ?_); (case side1 => exact co (Kd.R_reads' HO_4.out).2.2); (case side2 => exact (Kd.R_reads' HO_4.out).2.1); rintro e w' ⟨rfl, ⟨nd, rfl⟩⟩; (try first | exact ⟨rfl, _, World.drewN_drewN _ _ _⟩ | exact ⟨rfl, _, Eq.trans (World.drewN_drewN _ _ _) (congrArg (World.drewN _) (Nat.add_assoc _ _ _))⟩))))
        go_roundg k2
        case measure => have := HK1.out; have := HK2.out; omega
        case rel => exact ⟨(!t844), (wrap64 (x7_2 + 1)), rr, rr, H', ⟨by have := HK1.out; have := HK2.out; omega⟩, ⟨ro HO_3.out⟩, ⟨ro HO_4.out⟩, ⟨bo BK835.out⟩, ⟨bw⟩⟩
       have H' := am H
       clear H
       have hcz17_0 := bc BK835 0 (.slice A0_0 l0_0.length c0_0)
       have hfz17_0 := blk_frozen BK835.out 0
       go_wp2
       repeat (go_quiet (fail); try go_wp2)
       go_roundg k2
       case measure => have := HK1.out; have := HK2.out; omega
       case rel => exact ⟨(false), (wrap64 (x7_2 + 1)), rr, rr, H', ⟨by have := HK1.out; have := HK2.out; omega⟩, ⟨ro HO_3.out⟩, ⟨ro HO_4.out⟩, ⟨bo BK835.out⟩, ⟨bw⟩⟩
      replace H := gb H; obtain ⟨rfl, H⟩ | ⟨rfl, H⟩ := H
      ·replace H := gd H; obtain ⟨c19b0, H⟩ := H
       replace H := gd H; obtain ⟨c20b0, H⟩ := H
       by_cases c21 : x3_1.length < 17592186044416
       rotate_left
       ·rw [if_neg c21] at H
        exact absurd H (by simp)
       rw [if_pos c21] at H
       have LMc21 := am c21
       clear c21
       obtain ⟨y846, hy846⟩ : ∃ y_ : List Int, y_ = (x3_1 ++ [rd t839 x5_1]) := ⟨_, rfl⟩
       replace H : (spec_PseudoFrobenius.l0 k2 y846 t839 (wrap64 (x5_1 + 1)) l0_0) = some r := by first | (rw [hy846]; with_reducible first | exact H | exact bs H) | (with_reducible first | exact bs H | exact H) | (rw [hy846]; exact H) | exact H
       have Ny846 := am hy846
       clear hy846
       have H' := am H
       clear H
       have hcz22_0 := bc BK835 0 (.slice A0_0 l0_0.length c0_0)
       have hfz22_0 := blk_frozen BK835.out 0
       obtain ⟨⟨ad845, e845, hx845_0⟩, p845, q845⟩ := pq (Kd.at_int (Kd.R_reads' HO_4.out).2.2 x5_1)
       cases e845
       go_wp2_with (first | ((with_reducible refine gate_builtin (b := .append) (xs := #[.tmp 41, .tmp 46]) rfl ?_); at_builtin; refine Kd.R_append (Kd.int .i64) (w0 := w) w.heap.size rfl (.tmp 41) (.tmp 46) 24 3 (.int .i64 0) 8 rfl Tryz.underlying24 info3 rfl (by decide) (by omega) u3 x3_1 (rd t839 x5_1) [.int .i64 (rd t839 x5_1)] (fun k_ => some k_ ≠ (.slice (some ad845) t839.length co9 : Value).ownBlock) (fun _ => False) rfl rfl ?aP (fun _ hk => hk.elim) ?aF ?aO ?aB ?aS ?aL ?_; (case aP => exact rfl); (case aB => exact bw); (case aF => exact (fun k_ hk => Kd.fresh' (Kd.R_lt (ro HO_4.out)) k_ hk)); (case aO => exact (ro HO_3.out)); (case aS => exact (below_size bw)); (case aL => have := LMc21.out; omega); intro v847 w23 ho hb hg hat; rw [← Ny846.out] at ho; replace HO_4 := am (Kd.R_after (ok := (fun _ => True)) (by (with_reducible repeat (first | apply Kd.R_alloc | apply Kd.R_drewN | apply Kd.R_drew)); exact Kd.R_mono HO_4.out (fun _ hk => ⟨trivial, by first | exact hk | exact (by intro a n m c x h; cases a <;> exact h : ∀ (a : Option Addr) (n m c x : Nat), some x ≠ (Value.slice a n c).ownBlock → some x ≠ (Value.slice a m c).ownBlock) _ _ _ _ _ hk⟩)) hg hat); replace BK835 := am (blk_grown (g := gb835) (o := .cells #[.slice A0_0 l0_0.length c0_0] 26 (0, 0)) (bo BK835.out) hg (Kd.R_ne HO_3.out BK835.out (by decide))); replace HB := am (hb); have HO848 := am (ho); clear HO_3 ho hb hg hat))
       repeat (go_quiet (first | ((with_reducible refine gate_builtin (b := .append) (xs := #[.tmp 41, .tmp 46]) rfl ?_); at_builtin; refine Kd.R_append (Kd.int .i64) (w0 := w) w.heap.size rfl (.tmp 41) (.tmp 46) 24 3 (.int .i64 0) 8 rfl Tryz.underlying24 info3 rfl (by decide) (by omega) u3 x3_1 (rd t839 x5_1) [.int .i64 (rd t839 x5_1)] (fun k_ => some k_ ≠ (.slice (some ad845) t839.length co9 : Value).ownBlock) (fun _ => False) rfl rfl ?aP (fun _ hk => hk.elim) ?aF ?aO ?aB ?aS ?aL ?_; (case aP => exact rfl); (case aB => exact bw); (case aF => exact (fun k_ hk => Kd.fresh' (Kd.R_lt (ro HO_4.out)) k_ hk)); (case aO => exact (ro HO_3.out)); (case aS => exact (below_size bw)); (case aL => have := LMc21.out; omega); intro v847 w23 ho hb hg hat; rw [← Ny846.out] at ho; have n0_ := am (Kd.R_after (ok := (fun _ => True)) (by (with_reducible repeat (first | apply Kd.R_alloc | apply Kd.R_drewN | apply Kd.R_drew)); exact Kd.R_mono HO_4.out (fun _ hk => ⟨trivial, by first | exact hk | exact (by intro a n m c x h; cases a <;> exact h : ∀ (a : Option Addr) (n m c x : Nat), some x ≠ (Value.slice a n c).ownBlock → some x ≠ (Value.slice a m c).ownBlock) _ _ _ _ _ hk⟩)) hg hat); have n1_ := am (blk_grown (g := gb835) (o := .cells #[.slice A0_0 l0_0.length c0_0] 26 (0, 0)) (bo BK835.out) hg (Kd.R_ne HO_3.out BK835.out (by decide))); have n2_ := am (hb); have n3_ := am (ho); clear HO_4; clear BK835; clear HB; clear HO_3; have HO_4 := n0_; have BK835 := n1_; have HB := n2_; have HO848 := n3_; clear n0_ n1_ n2_ n3_; clear ho hb hg hat)); try go_wp2_with (first | ((with_reducible refine gate_builtin (b := .append) (xs := #[.tmp 41, .tmp 46]) rfl ?_); at_builtin; refine Kd.R_append (Kd.int .i64) (w0 := w) w.heap.size rfl (.tmp 41) (.tmp 46) 24 3 (.int .i64 0) 8 rfl Tryz.underlying24 info3 rfl (by decide) (by omega) u3 x3_1 (rd t839 x5_1) [.int .i64 (rd t839 x5_1)] (fun k_ => some k_ ≠ (.slice (some ad845) t839.length co9 : Value).ownBlock) (fun _ => False) rfl rfl ?aP (fun _ hk => hk.elim) ?aF ?aO ?aB ?aS ?aL ?_; (case aP => exact rfl); (case aB => exact bw); (case aF => exact (fun k_ hk => Kd.fresh' (Kd.R_lt (ro HO_4.out)) k_ hk)); (case aO => exact (ro HO_3.out)); (case aS => exact (below_size bw)); (case aL => have := LMc21.out; omega); intro v847 w23 ho hb hg hat; rw [← Ny846.out] at ho; have n0_ := am (Kd.R_after (ok := (fun _ => True)) (by (with_reducible repeat (first | apply Kd.R_alloc | apply Kd.R_drewN | apply Kd.R_drew)); exact Kd.R_mono HO_4.out (fun _ hk => ⟨trivial, by first | exact hk | exact (by intro a n m c x h; cases a <;> exact h : ∀ (a : Option Addr) (n m c x : Nat), some x ≠ (Value.slice a n c).ownBlock → some x ≠ (Value.slice a m c).ownBlock) _ _ _ _ _ hk⟩)) hg hat); have n1_ := am (blk_grown (g := gb835) (o := .cells #[.slice A0_0 l0_0.length c0_0] 26 (0, 0)) (bo BK835.out) hg (Kd.R_ne HO_3.out BK835.out (by decide))); have n2_ := am (hb); have n3_ := am (ho); clear HO_4; clear BK835; clear HB; clear HO_3; have HO_4 := n0_; have BK835 := n1_; have HB := n2_; have HO848 := n3_; clear n0_ n1_ n2_ n3_; clear ho hb hg hat)))
       go_roundg k2
       case measure => have := HK1.out; have := HK2.out; omega
       case rel => exact ⟨(y846), (wrap64 (x5_1 + 1)), rr, H', ⟨by have := HK1.out; have := HK2.out; omega⟩, ⟨ro HO848.out⟩, ⟨by (with_reducible repeat (first | apply Kd.R_alloc | apply Kd.R_drewN | apply Kd.R_drew)); exact Kd.R_mono HO_4.out (fun _ hk => hk.2)⟩, ⟨bo BK835.out⟩, ⟨bw⟩⟩
      have H' := am H
      clear H
      have hcz24_0 := bc BK835 0 (.slice A0_0 l0_0.length c0_0)
      have hfz24_0 := blk_frozen BK835.out 0
      go_wp2
      repeat (go_quiet (fail); try go_wp2)
      go_roundg k2
      case measure => have := HK1.out; have := HK2.out; omega
      case rel => exact ⟨(x3_1), (wrap64 (x5_1 + 1)), rr, H', ⟨by have := HK1.out; have := HK2.out; omega⟩, ⟨ro HO_3.out⟩, ⟨ro HO_4.out⟩, ⟨bo BK835.out⟩, ⟨bw⟩⟩
   obtain rfl := Option.some.inj H
   obtain ⟨Ao25, co25, eo25⟩ := Kd.R_slice HO_4.out
   subst eo25
   go_wp2
   repeat (go_quiet (fail); try go_wp2)
   go_ret
   exact ⟨_, re, by (with_reducible repeat (first | apply Kd.R_alloc | apply Kd.R_drewN | apply Kd.R_drew)); exact Kd.R_mono HO_3.out (fun _ hk => trivial), bw⟩

end Go.Proofs.YtkfplkdchkmgbaaGreat.C
