/- Contracts of functions of the program: laws_FnExactDeltaOf. -/
import Derived.Test.YtiejmnnnjmmifaaC0
import Derived.Test.YtiejmnnnjmmifaaC1
import Derived.Test.YtiejmnnnjmmifaaC6
import Derived.Test.YtiejmnnnjmmifaaC9
namespace Go.Proofs.Ytiejmnnnjmmifaa.C
open Go.RowKit Go.Proofs.YtiejmnnnjmmifaaW.PrintWords Go.Proofs.YtiejmnnnjmmifaaW.PrintLast Go.Proofs.YtiejmnnnjmmifaaW.PrintMore
attribute [local go_sem] max2_int min2_int max_two min_two max_three min_three max_four min_four
set_option linter.unusedVariables false
set_option linter.unusedSimpArgs false

/-! ### laws_FnExactDeltaOf: function 8 -/
def laws_FnExactDeltaOf.j0 : Nat → Int → List Int → List Int → Bool → List Int → Option (Bool)
 | 0, _, _, _, _, _ => none
 | k + 1, x1, x6, x8, x46, x640000 => if x46 = true then (some false) else ((laws_markIntS.f k x8 1).bind fun bt662 => ((laws_heldIntS.f k bt662.2 1).bind fun t664 => (if t664 < 0 then (some false) else (if t664 = bt662.1 then ((laws_toSemigroup.f k x640000).bind fun t665 => ((impl_DeltaOf.f k t665 x1).bind fun t668 => ((laws_eqIntS.f k t668 x6).bind fun t671 => (if t671 = true then ((laws_heldIntS.f k bt662.2 1).bind fun t672 => (if t672 < 0 then (some false) else (if t672 = bt662.1 then (some true) else (some false)))) else (some false))))) else (some false)))))
def laws_FnExactDeltaOf.f (k : Nat) (l0_0 : List Int) (a1 : Int) : Option (Bool) := (laws_szSemigroup.f l0_0 1048576).bind fun t640 => (if t640 < 0 then (some true) else ((laws_toSemigroup.f k l0_0).bind fun t641 => ((spec_DeltaOf.f k t641 a1).bind fun t644 => ((laws_toSemigroup.f k l0_0).bind fun t647 => ((impl_DeltaOf.f k t647 a1).bind fun t651 => ((laws_eqIntS.f k t651 t644).bind fun t654 => (if t654 = true then ((laws_toSemigroup.f k l0_0).bind fun t655 => ((laws_eqSemigroup.f k t647 t655).bind fun t658 => (if t658 = true then ((laws_markSemigroup.f k t647 1).bind fun bt659 => (if bt659.1 < 0 then (laws_FnExactDeltaOf.j0 k a1 t644 t651 true l0_0) else ((laws_eqIntS.f k t651 t644).bind fun t661 => (laws_FnExactDeltaOf.j0 k a1 t644 t651 (!t661) l0_0)))) else (some false)))) else (some false))))))))
set_option maxHeartbeats 8000000 in
set_option maxRecDepth 100000 in
theorem laws_FnExactDeltaOf.calls (k : Nat) (A0_0 : Option Addr) (c0_0 : Nat) (l0_0 : List Int) (a1 : Int) (w : World) (hr0_0 : Kd.C (Kd.int .i64) w A0_0 l0_0.length l0_0) (hc0_0 : l0_0.length ≤ c0_0) (h : laws_FnExactDeltaOf.f k l0_0 a1 = some true) :
  Calls Try.prog 8 #[.agg #[.slice A0_0 l0_0.length c0_0], .int .i64 a1] w fun e w' => e = .returned (.bool true) ∧ Below w.heap.size w w' := by
 have hu24 := Try.underlying24
 have hu27 := Try.underlying27
 have HR0_0 := Aside0.mk hr0_0
 have HC0_0 := Aside0.mk hc0_0
 clear hr0_0 hc0_0
 have HB := Aside0.mk (Below.refl w.heap.size w)
 have H : ((laws_szSemigroup.f l0_0 1048576).bind fun t640 => (if t640 < 0 then (some true) else ((laws_toSemigroup.f k l0_0).bind fun t641 => ((spec_DeltaOf.f k t641 a1).bind fun t644 => ((laws_toSemigroup.f k l0_0).bind fun t647 => ((impl_DeltaOf.f k t647 a1).bind fun t651 => ((laws_eqIntS.f k t651 t644).bind fun t654 => (if t654 = true then ((laws_toSemigroup.f k l0_0).bind fun t655 => ((laws_eqSemigroup.f k t647 t655).bind fun t658 => (if t658 = true then ((laws_markSemigroup.f k t647 1).bind fun bt659 => (if bt659.1 < 0 then (laws_FnExactDeltaOf.j0 k a1 t644 t651 true l0_0) else ((laws_eqIntS.f k t651 t644).bind fun t661 => (laws_FnExactDeltaOf.j0 k a1 t644 t651 (!t661) l0_0)))) else (some false)))) else (some false))))))))) = some true := h
 clear h
 replace H := ga H; obtain ⟨t640, A3, H⟩ := H
 replace H := gi H; obtain ⟨c4b0, H⟩ | ⟨c4b0, H⟩ := H
 ·skip
  go_enter Try.func8, Try.ntmps8
  go_wp2_with (first | ((with_reducible refine gate_dst (N := 2) rfl ?_); refine bx 2 #[.slice A0_0 l0_0.length c0_0] 24 ?_; intro gb639 hg w5 hbox hb; have BK639 := Aside0.mk (hbox); have GW639 := Aside0.mk (gs hg : w.heap.size ≤ gb639); have GE639 := Aside0.mk (gs hg : w.heap.size ≤ gb639); replace HB := Aside0.mk (below_step bw hb); clear hb hbox hg; have hcz6_0 := bc BK639 0 (.slice A0_0 l0_0.length c0_0); have hfz6_0 := blk_frozen BK639.out 0) | ((with_reducible refine gate_callee (f := 15) rfl ?_); refine gl (some 15) Try.func15 #[.agg #[.slice A0_0 l0_0.length c0_0], .int .i64 1048576] ?_; (with_reducible refine (laws_szSemigroup.calls _ _ l0_0 1048576 t640 _ ?side1 ?side2 A3.out).mono ?_); (case side1 => exact co (Kd.C_below HR0_0.out HB.out)); (case side2 => exact HC0_0.out); rintro e w7 ⟨rfl, hb⟩; refine ⟨_, rfl, ?_⟩; replace BK639 := Aside0.mk (blk_below (g := gb639) (o := .cells #[.slice A0_0 l0_0.length c0_0] 24 (0, 0)) (bo BK639.out) hb); replace HB := Aside0.mk (below_step bw hb); clear hb))
  go_ret
  exact ⟨re, bw⟩
 ·replace H := ga H; obtain ⟨t641, A8, H⟩ := H
  replace H := ga H; obtain ⟨t644, A9, H⟩ := H
  replace H := ga H; obtain ⟨t647, A10, H⟩ := H
  replace H := ga H; obtain ⟨t651, A11, H⟩ := H
  replace H := ga H; obtain ⟨t654, A12, H⟩ := H
  replace H := gb H; obtain ⟨rfl, H⟩ | ⟨rfl, H⟩ := H
  ·replace H := ga H; obtain ⟨t655, A14, H⟩ := H
   replace H := ga H; obtain ⟨t658, A15, H⟩ := H
   replace H := gb H; obtain ⟨rfl, H⟩ | ⟨rfl, H⟩ := H
   ·replace H := ga H; obtain ⟨⟨t659, t660⟩, A17, H⟩ := H
    replace H : (if t659 < 0 then (laws_FnExactDeltaOf.j0 k a1 t644 t651 true l0_0) else ((laws_eqIntS.f k t651 t644).bind fun t661 => (laws_FnExactDeltaOf.j0 k a1 t644 t651 (!t661) l0_0))) = some true := H
    have HC18 := Aside0.mk H
    clear H
    go_enter Try.func8, Try.ntmps8
    try go_wp2_with (first | ((with_reducible refine gate_dst (N := 2) rfl ?_); refine bx 2 #[.slice A0_0 l0_0.length c0_0] 24 ?_; intro gb639 hg w19 hbox hb; have BK639 := Aside0.mk (hbox); have GW639 := Aside0.mk (gs hg : w.heap.size ≤ gb639); have GE639 := Aside0.mk (gs hg : w.heap.size ≤ gb639); replace HB := Aside0.mk (below_step bw hb); clear hb hbox hg; have hcz20_0 := bc BK639 0 (.slice A0_0 l0_0.length c0_0); have hfz20_0 := blk_frozen BK639.out 0) | ((with_reducible refine gate_callee (f := 15) rfl ?_); refine gl (some 15) Try.func15 #[.agg #[.slice A0_0 l0_0.length c0_0], .int .i64 1048576] ?_; (with_reducible refine (laws_szSemigroup.calls _ _ l0_0 1048576 t640 _ ?side1 ?side2 A3.out).mono ?_); (case side1 => exact co (Kd.C_below HR0_0.out HB.out)); (case side2 => exact HC0_0.out); rintro e w21 ⟨rfl, hb⟩; refine ⟨_, rfl, ?_⟩; replace BK639 := Aside0.mk (blk_below (g := gb639) (o := .cells #[.slice A0_0 l0_0.length c0_0] 24 (0, 0)) (bo BK639.out) hb); replace HB := Aside0.mk (below_step bw hb); clear hb; have hcz22_0 := bc BK639 0 (.slice A0_0 l0_0.length c0_0); have hfz22_0 := blk_frozen BK639.out 0) | ((with_reducible refine gate_callee (f := 17) rfl ?_); refine gl (some 19) Try.func17 #[.agg #[.slice A0_0 l0_0.length c0_0]] ?_; (with_reducible refine (laws_toSemigroup.calls k _ _ l0_0 t641 _ ?side1 ?side2 A8.out).mono ?_); (case side1 => exact co (Kd.C_below HR0_0.out HB.out)); (case side2 => exact HC0_0.out); rintro e w23 ⟨v642, rfl, ho0, hb⟩; refine ⟨_, rfl, ?_⟩; have HO643 := Aside0.mk (Kd.R_lower ho0 (below_size bw)); replace BK639 := Aside0.mk (blk_below (g := gb639) (o := .cells #[.slice A0_0 l0_0.length c0_0] 24 (0, 0)) (bo BK639.out) hb); replace HB := Aside0.mk (below_step bw hb); clear hb ho0; obtain ⟨Ao24, co24, eo24⟩ := Kd.R_slice HO643.out; subst eo24) | ((with_reducible refine gate_callee (f := 33) rfl ?_); refine gl (some 21) Try.func33 #[.agg #[.slice Ao24 t641.length co24], .int .i64 a1] ?_; (with_reducible refine (spec_DeltaOf.calls k _ _ t641 a1 t644 _ ?side1 ?side2 A9.out).mono ?_); (case side1 => exact co (Kd.R_reads' HO643.out).2.2); (case side2 => exact (Kd.R_reads' HO643.out).2.1); rintro e w25 ⟨v645, rfl, ho0, hb⟩; refine ⟨_, rfl, ?_⟩; have HO646 := Aside0.mk (Kd.R_lower (Kd.R_new' ho0 (Kd.R_lt (ro HO643.out))) (below_size bw)); replace HO643 := Aside0.mk (Kd.R_elder' (ro HO643.out) (Kd.R_base ho0) hb); replace BK639 := Aside0.mk (blk_below (g := gb639) (o := .cells #[.slice A0_0 l0_0.length c0_0] 24 (0, 0)) (bo BK639.out) hb); replace HB := Aside0.mk (below_step bw hb); clear hb ho0; have hcz26_0 := bc BK639 0 (.slice A0_0 l0_0.length c0_0); have hfz26_0 := blk_frozen BK639.out 0) | ((with_reducible refine gate_callee (f := 17) rfl ?_); refine gl (some 23) Try.func17 #[.agg #[.slice A0_0 l0_0.length c0_0]] ?_; (with_reducible refine (laws_toSemigroup.calls k _ _ l0_0 t647 _ ?side1 ?side2 A10.out).mono ?_); (case side1 => exact co (Kd.C_below HR0_0.out HB.out)); (case side2 => exact HC0_0.out); rintro e w27 ⟨v648, rfl, ho0, hb⟩; refine ⟨_, rfl, ?_⟩; have HO649 := Aside0.mk (Kd.R_lower (Kd.R_new' (Kd.R_new' ho0 (Kd.R_lt (ro HO643.out))) (Kd.R_lt (ro HO646.out))) (below_size bw)); replace HO643 := Aside0.mk (Kd.R_elder' (ro HO643.out) (Kd.R_base ho0) hb); replace HO646 := Aside0.mk (Kd.R_elder' (ro HO646.out) (Kd.R_base ho0) hb); replace BK639 := Aside0.mk (blk_below (g := gb639) (o := .cells #[.slice A0_0 l0_0.length c0_0] 24 (0, 0)) (bo BK639.out) hb); replace HB := Aside0.mk (below_step bw hb); clear hb ho0) | ((with_reducible refine gate_dst (N := 7) rfl ?_); refine bx 7 #[.slice none 0 0] 27 ?_; intro gb650 hg w28 hbox hb; replace HO643 := Aside0.mk (Kd.R_below (ro HO643.out) hb); replace HO646 := Aside0.mk (Kd.R_below (ro HO646.out) hb); replace HO649 := Aside0.mk (Kd.R_below (ro HO649.out) hb); have BK650 := Aside0.mk (hbox); have GW650 := Aside0.mk (gs hg : w.heap.size ≤ gb650); have GE650 := Aside0.mk (gs hg : w.heap.size ≤ gb650); replace HB := Aside0.mk (below_step bw hb); have NB639_650 := Aside0.mk ((by rw [hg]; exact Nat.ne_of_lt (blk_lt (g := gb639) (o := .cells #[.slice A0_0 l0_0.length c0_0] 24 (0, 0)) (bo BK639.out)) : gb639 ≠ gb650)); have NB650_639 := Aside0.mk ((by rw [hg]; exact Nat.ne_of_gt (blk_lt (g := gb639) (o := .cells #[.slice A0_0 l0_0.length c0_0] 24 (0, 0)) (bo BK639.out)) : gb650 ≠ gb639)); replace BK639 := Aside0.mk (blk_below (g := gb639) (o := .cells #[.slice A0_0 l0_0.length c0_0] 24 (0, 0)) (bo BK639.out) hb); clear hb hbox hg; obtain ⟨Ao29, co29, eo29⟩ := Kd.R_slice HO649.out; subst eo29; have hnb30 := NB650_639.out; have hnc30 := NB639_650.out; have hcz31_0 := bc BK650 0 (.slice none 0 0); have hfz31_0 := blk_frozen BK650.out 0) | ((with_reducible refine gate_callee (f := 34) rfl ?_); refine gl (some 26) Try.func34 #[.agg #[.slice Ao29 t647.length co29], .int .i64 a1] ?_; (with_reducible refine (impl_DeltaOf.calls k _ _ t647 a1 t651 _ ?side1 ?side2 A11.out).mono ?_); (case side1 => refine (Kd.R_reads' (e := 3) (base := w.heap.size) (ok := fun k_ => ((True ∧ some k_ ≠ (.slice Ao24 t641.length co24 : Value).ownBlock) ∧ some k_ ≠ (v645 : Value).ownBlock)) (n := t647.length) (c := co29) ?_).2.2; exact (by (with_reducible repeat (first | apply Kd.R_alloc | apply Kd.R_drewN | apply Kd.R_drew)); exact (Kd.R_mono (Kd.R_far (p := ⟨gb650, 0, none⟩) (Kd.R_types HO649.out BK650.out (by decide)) (fun _ hk => hk.2) (.slice Ao29 t647.length co29)) (fun _ h_ => h_.1)))); (case side2 => exact (Kd.R_reads' HO649.out).2.1); rintro e w32 ⟨v652, rfl, ho0, hb⟩; refine ⟨_, rfl, ?_⟩; have HO653 := Aside0.mk (Kd.R_lower (Kd.R_new' (Kd.R_new' (Kd.R_new' ho0 (Kd.R_lt (by (with_reducible repeat (first | apply Kd.R_alloc | apply Kd.R_drewN | apply Kd.R_drew)); exact (Kd.R_mono (Kd.R_far (p := ⟨gb650, 0, none⟩) (Kd.R_types HO643.out BK650.out (by decide)) (fun _ hk => hk.2) (.slice Ao29 t647.length co29)) (fun _ h_ => h_.1))))) (Kd.R_lt (by (with_reducible repeat (first | apply Kd.R_alloc | apply Kd.R_drewN | apply Kd.R_drew)); exact (Kd.R_mono (Kd.R_far (p := ⟨gb650, 0, none⟩) (Kd.R_types HO646.out BK650.out (by decide)) (fun _ hk => hk.2) (.slice Ao29 t647.length co29)) (fun _ h_ => h_.1))))) (Kd.R_lt (by (with_reducible repeat (first | apply Kd.R_alloc | apply Kd.R_drewN | apply Kd.R_drew)); exact (Kd.R_mono (Kd.R_far (p := ⟨gb650, 0, none⟩) (Kd.R_types HO649.out BK650.out (by decide)) (fun _ hk => hk.2) (.slice Ao29 t647.length co29)) (fun _ h_ => h_.1))))) (below_size bw)); replace HO643 := Aside0.mk (Kd.R_elder' (by (with_reducible repeat (first | apply Kd.R_alloc | apply Kd.R_drewN | apply Kd.R_drew)); exact (Kd.R_mono (Kd.R_far (p := ⟨gb650, 0, none⟩) (Kd.R_types HO643.out BK650.out (by decide)) (fun _ hk => hk.2) (.slice Ao29 t647.length co29)) (fun _ h_ => h_.1))) (Kd.R_base ho0) hb); replace HO646 := Aside0.mk (Kd.R_elder' (by (with_reducible repeat (first | apply Kd.R_alloc | apply Kd.R_drewN | apply Kd.R_drew)); exact (Kd.R_mono (Kd.R_far (p := ⟨gb650, 0, none⟩) (Kd.R_types HO646.out BK650.out (by decide)) (fun _ hk => hk.2) (.slice Ao29 t647.length co29)) (fun _ h_ => h_.1))) (Kd.R_base ho0) hb); replace HO649 := Aside0.mk (Kd.R_elder' (by (with_reducible repeat (first | apply Kd.R_alloc | apply Kd.R_drewN | apply Kd.R_drew)); exact (Kd.R_mono (Kd.R_far (p := ⟨gb650, 0, none⟩) (Kd.R_types HO649.out BK650.out (by decide)) (fun _ hk => hk.2) (.slice Ao29 t647.length co29)) (fun _ h_ => h_.1))) (Kd.R_base ho0) hb); replace BK639 := Aside0.mk (blk_below (g := gb639) (o := .cells #[.slice A0_0 l0_0.length c0_0] 24 (0, 0)) (by (with_reducible repeat (first | refine blk_drewN ?_ _ | refine blk_drew ?_ | refine blk_alloc ?_ _)); refine blk_far ?_ NB639_650.out _; (with_reducible repeat (first | refine blk_drewN ?_ _ | refine blk_drew ?_ | refine blk_alloc ?_ _)); exact BK639.out) hb); replace BK650 := Aside0.mk (blk_below (g := gb650) (o := .cells #[.slice Ao29 t647.length co29] 27 (0, 0)) (by (with_reducible repeat (first | refine blk_drewN ?_ _ | refine blk_drew ?_ | refine blk_alloc ?_ _)); refine blk_put (cs := #[.slice none 0 0]) ?_ 0 _ rfl; (with_reducible repeat (first | refine blk_drewN ?_ _ | refine blk_drew ?_ | refine blk_alloc ?_ _)); exact BK650.out) hb); replace HB := Aside0.mk (below_step bw hb); clear hb ho0; obtain ⟨Ao33, co33, eo33⟩ := Kd.R_slice HO653.out; subst eo33; obtain ⟨Ao34, co34, eo34⟩ := Kd.R_slice HO646.out; subst eo34) | ((with_reducible refine gate_callee (f := 20) rfl ?_); refine gl (some 29) Try.func20 #[.slice Ao33 t651.length co33, .slice Ao34 t644.length co34] ?_; (with_reducible refine (laws_eqIntS.calls k _ _ t651 _ _ t644 true _ ?side1 ?side2 ?side3 ?side4 A12.out).mono ?_); (case side1 => exact co (Kd.R_reads' HO653.out).2.2); (case side2 => exact (Kd.R_reads' HO653.out).2.1); (case side3 => exact co (Kd.R_reads' HO646.out).2.2); (case side4 => exact (Kd.R_reads' HO646.out).2.1); rintro e w' ⟨rfl, ⟨nd, rfl⟩⟩; refine ⟨_, rfl, ?_⟩))
    (try (rw [drewN_self w32]; generalize hq_ : World.drewN w32 _ = w32; have n0_ : Aside0 (Kd.R (Kd.int .i64) 3 w32 w.heap.size (fun k_ => some k_ ≠ (.slice Ao34 t644.length co34 : Value).ownBlock ∧ some k_ ≠ (.slice Ao29 t647.length co29 : Value).ownBlock ∧ some k_ ≠ (.slice Ao33 t651.length co33 : Value).ownBlock) (.slice Ao24 t641.length co24) t641) := ⟨by rw [← hq_]; exact (by (with_reducible repeat (first | apply Kd.R_alloc | apply Kd.R_drewN | apply Kd.R_drew)); exact Kd.R_mono HO643.out (fun _ hk => ⟨hk.1.1.2, ⟨hk.1.2, hk.2⟩⟩))⟩; have n1_ : Aside0 (Kd.R (Kd.int .i64) 3 w32 w.heap.size (fun k_ => some k_ ≠ (.slice Ao24 t641.length co24 : Value).ownBlock ∧ some k_ ≠ (.slice Ao29 t647.length co29 : Value).ownBlock ∧ some k_ ≠ (.slice Ao33 t651.length co33 : Value).ownBlock) (.slice Ao34 t644.length co34) t644) := ⟨by rw [← hq_]; exact (by (with_reducible repeat (first | apply Kd.R_alloc | apply Kd.R_drewN | apply Kd.R_drew)); exact Kd.R_mono HO646.out (fun _ hk => ⟨hk.1.1.2, ⟨hk.1.2, hk.2⟩⟩))⟩; have n2_ : Aside0 (Kd.R (Kd.int .i64) 3 w32 w.heap.size (fun k_ => some k_ ≠ (.slice Ao24 t641.length co24 : Value).ownBlock ∧ some k_ ≠ (.slice Ao34 t644.length co34 : Value).ownBlock ∧ some k_ ≠ (.slice Ao33 t651.length co33 : Value).ownBlock) (.slice Ao29 t647.length co29) t647) := ⟨by rw [← hq_]; exact (by (with_reducible repeat (first | apply Kd.R_alloc | apply Kd.R_drewN | apply Kd.R_drew)); exact Kd.R_mono HO649.out (fun _ hk => ⟨hk.1.1.2, ⟨hk.1.2, hk.2⟩⟩))⟩; have n3_ : Aside0 (Kd.R (Kd.int .i64) 3 w32 w.heap.size (fun k_ => some k_ ≠ (.slice Ao24 t641.length co24 : Value).ownBlock ∧ some k_ ≠ (.slice Ao34 t644.length co34 : Value).ownBlock ∧ some k_ ≠ (.slice Ao29 t647.length co29 : Value).ownBlock) (.slice Ao33 t651.length co33) t651) := ⟨by rw [← hq_]; exact (by (with_reducible repeat (first | apply Kd.R_alloc | apply Kd.R_drewN | apply Kd.R_drew)); exact Kd.R_mono HO653.out (fun _ hk => ⟨hk.1.1.2, ⟨hk.1.2, hk.2⟩⟩))⟩; have n4_ : Aside0 (w32.heap[gb639]? = some (.cells #[.slice A0_0 l0_0.length c0_0] 24 (0, 0))) := ⟨by rw [← hq_]; exact (bo BK639.out)⟩; have n5_ : Aside0 (w32.heap[gb650]? = some (.cells #[.slice Ao29 t647.length co29] 27 (0, 0))) := ⟨by rw [← hq_]; exact (bo BK650.out)⟩; have n6_ : Aside0 (Below w.heap.size w w32) := ⟨by rw [← hq_]; exact bw⟩; clear HO643 HO646 HO649 HO653 BK639 BK650 HB hq_; have HO643 := n0_; have HO646 := n1_; have HO649 := n2_; have HO653 := n3_; have BK639 := n4_; have BK650 := n5_; have HB := n6_; clear n0_ n1_ n2_ n3_ n4_ n5_ n6_))
    replace HO643 := Aside0.mk (Kd.R_drew HO643.out)
    replace HO646 := Aside0.mk (Kd.R_drew HO646.out)
    replace HO649 := Aside0.mk (Kd.R_drew HO649.out)
    replace HO653 := Aside0.mk (Kd.R_drew HO653.out)
    replace BK639 := Aside0.mk (blk_drew BK639.out)
    replace BK650 := Aside0.mk (blk_drew BK650.out)
    replace HB := Aside0.mk (below_drew1 HB.out)
    refine start_ (n := 5) (S := fun w' => w'.cell? ⟨gb650, 0, none⟩ = some (.slice Ao29 t647.length co29) ∧ w'.cell? ⟨gb639, 0, none⟩ = some (.slice A0_0 l0_0.length c0_0)) (ds := []) #[Z,Z,Z,Z,Z] (by kernel_rfl) rfl rfl ⟨(blk_cell BK650.out 0).trans rfl, (blk_cell BK639.out 0).trans rfl⟩ (fun hHeld => ?_)
    generalize w32.drew = w35 at HO643 HO646 HO649 HO653 BK639 BK650 HB hHeld ⊢
    refine take_ (i := 0) (N := some 31) (v := ?_) (a' := ?_) #[Y,Z,Z,Z,Z] rfl rfl (by kernel_rfl) (fun _ _ _ h => h) (Or.inl ⟨by rfl, ?_⟩) hHeld ?_ ?_
    rotate_left
    ·rintro w' ⟨s0, s1⟩
     go_simp
     with_reducible rfl
    rotate_left
    ·simp only [Act.put, qa, qb, qc, i64_w, i32_w]
     rfl
    refine take_ (i := 1) (N := some 32) (v := ?_) (a' := ?_) #[Y,Y,Z,Z,Z] rfl rfl (by kernel_rfl) (fun _ _ _ h => h) (Or.inl ⟨by rfl, ?_⟩) hHeld ?_ ?_
    rotate_left
    ·rintro w' ⟨s0, s1⟩
     go_simp
     with_reducible rfl
    rotate_left
    ·simp only [Act.put, qa, qb, qc, i64_w, i32_w]
     rfl
    refine one_ (i := 2) (N := some 33) #[Y,Y,Y,Z,Z] rfl rfl (by kernel_rfl) (by decide) (fun K hK => ?_)
    refine gm Try.func17 #[.agg #[.slice A0_0 l0_0.length c0_0]] ?_
    with_reducible refine (laws_toSemigroup.calls k _ _ l0_0 t655 _ ?side1 ?side2 A14.out).mono ?_
    (case side1 => exact co (Kd.C_below HR0_0.out HB.out))
    (case side2 => exact HC0_0.out)
    rintro e w36 ⟨v656, rfl, ho0, hb⟩
    refine ⟨_, rfl, ?_⟩
    have HO657 := Aside0.mk (Kd.R_lower (Kd.R_new' (Kd.R_new' (Kd.R_new' (Kd.R_new' ho0 (Kd.R_lt (ro HO643.out))) (Kd.R_lt (ro HO646.out))) (Kd.R_lt (ro HO649.out))) (Kd.R_lt (ro HO653.out))) (below_size bw))
    replace HO643 := Aside0.mk (Kd.R_elder' (ro HO643.out) (Kd.R_base ho0) hb)
    replace HO646 := Aside0.mk (Kd.R_elder' (ro HO646.out) (Kd.R_base ho0) hb)
    replace HO649 := Aside0.mk (Kd.R_elder' (ro HO649.out) (Kd.R_base ho0) hb)
    replace HO653 := Aside0.mk (Kd.R_elder' (ro HO653.out) (Kd.R_base ho0) hb)
    replace BK639 := Aside0.mk (blk_below (g := gb639) (o := .cells #[.slice A0_0 l0_0.length c0_0] 24 (0, 0)) (bo BK639.out) hb)
    replace BK650 := Aside0.mk (blk_below (g := gb650) (o := .cells #[.slice Ao29 t647.length co29] 27 (0, 0)) (bo BK650.out) hb)
    replace HB := Aside0.mk (below_step bw hb)
    clear hb ho0
    obtain ⟨Ao37, co37, eo37⟩ := Kd.R_slice HO657.out
    (first | subst eo37 | (injection eo37 with f1_ f2_ f3_; have f4_ := f1_.symm; have f5_ := f3_.symm; clear f1_ f2_ f3_; subst f4_; subst f5_))
    refine hK.out _ _ ⟨(blk_cell BK650.out 0).trans rfl, (blk_cell BK639.out 0).trans rfl⟩ (fun hHeld => ?_)
    clear hK K
    refine norm_ (a' := ?_) ?_ ?_
    rotate_left
    ·show Act.put _ (some 33) _ = _
     simp only [Act.put, qa, qb, qc, i64_w, i32_w]
     rfl
    refine one_ (i := 3) (N := some 34) #[Y,Y,Y,Y,Z] rfl rfl (by kernel_rfl) (by decide) (fun K hK => ?_)
    refine gm Try.func21 #[.agg #[.slice Ao29 t647.length co29], .agg #[.slice Ao37 t655.length co37]] ?_
    with_reducible refine (laws_eqSemigroup.calls k _ _ t647 _ _ t655 true _ ?side1 ?side2 ?side3 ?side4 A15.out).mono ?_
    (case side1 => exact co (Kd.R_reads' HO649.out).2.2)
    (case side2 => exact (Kd.R_reads' HO649.out).2.1)
    (case side3 => exact co (Kd.R_reads' HO657.out).2.2)
    (case side4 => exact (Kd.R_reads' HO657.out).2.1)
    rintro e w38 ⟨rfl, hb⟩
    refine ⟨_, rfl, ?_⟩
    replace HO643 := Aside0.mk (Kd.R_below (ro HO643.out) hb)
    replace HO646 := Aside0.mk (Kd.R_below (ro HO646.out) hb)
    replace HO649 := Aside0.mk (Kd.R_below (ro HO649.out) hb)
    replace HO653 := Aside0.mk (Kd.R_below (ro HO653.out) hb)
    replace HO657 := Aside0.mk (Kd.R_below (ro HO657.out) hb)
    replace BK639 := Aside0.mk (blk_below (g := gb639) (o := .cells #[.slice A0_0 l0_0.length c0_0] 24 (0, 0)) (bo BK639.out) hb)
    replace BK650 := Aside0.mk (blk_below (g := gb650) (o := .cells #[.slice Ao29 t647.length co29] 27 (0, 0)) (bo BK650.out) hb)
    replace HB := Aside0.mk (below_step bw hb)
    clear hb
    refine hK.out _ _ ⟨(blk_cell BK650.out 0).trans rfl, (blk_cell BK639.out 0).trans rfl⟩ (fun hHeld => ?_)
    clear hK K
    refine norm_ (a' := ?_) ?_ ?_
    rotate_left
    ·show Act.put _ (some 34) _ = _
     simp only [Act.put, qa, qb, qc, i64_w, i32_w]
     rfl
    refine pure_ (i := 4) (N := some 35) (v := ?_) (a' := ?_) #[Y,Y,Y,Y,Y] rfl rfl (by kernel_rfl) (fun _ _ _ h => h) (Or.inl ⟨by rfl, ?_⟩) ?_ ?_
    rotate_left
    ·intro w'
     go_simp
     with_reducible rfl
    rotate_left
    ·simp only [Act.put, qa, qb, qc, i64_w, i32_w]
     rfl
    refine done_ (by kernel_rfl) ?_
    have hcz39_0 := bc BK650 0 (.slice Ao29 t647.length co29)
    have hfz39_0 := blk_frozen BK650.out 0
    go_upto_region 14 with (first | ((with_reducible refine gate_callee (f := 22) rfl ?_); refine gl (some 38) Try.func22 #[.agg #[.slice Ao29 t647.length co29], .int .i64 1] ?_; (with_reducible refine (laws_markSemigroup.calls k (fun k_ => some k_ = (.slice Ao29 t647.length co29 : Value).ownBlock) (.slice Ao29 t647.length co29) t647 1 t659 t660 w _ ?side1 ?side2 A17.out).mono ?_); (case side1 => repeat (first | (with_reducible first | exact HB.out | apply below_alloc | apply pw_below_drewN | apply below_drew1 | refine below_set ?_ GE639.out | refine below_set ?_ GE650.out) | exact HB.out)); (case side2 => exact Kd.R_tight rfl HO649.out); rintro e w40 ⟨rfl, hy0, hb, hkp⟩; refine ⟨_, rfl, ?_⟩; replace BK639 := Aside0.mk (blk_kept (bo BK639.out) hkp (fun hs_ => (fun e_ => (Kd.R_ne HO649.out BK639.out (by decide)) e_) hs_)); replace HO643 := Aside0.mk (Kd.R_mono (ok' := fun k_ => some k_ ≠ (.slice Ao34 t644.length co34 : Value).ownBlock ∧ some k_ ≠ (.slice Ao29 t647.length co29 : Value).ownBlock ∧ some k_ ≠ (.slice Ao33 t651.length co33 : Value).ownBlock ∧ some k_ ≠ (.slice Ao37 t655.length co37 : Value).ownBlock) (Kd.R_keptB (HO643.out) hkp (fun k_ hk_ hs_ => by first | exact (hk_.1.1.2) hs_ | simp_all)) (fun k_ hk_ => by first | exact ⟨hk_.1.1.1.1.2, hk_.1.1.1.2, hk_.1.1.2, hk_.1.2⟩ | simp_all)); replace HO646 := Aside0.mk (Kd.R_mono (ok' := fun k_ => some k_ ≠ (.slice Ao24 t641.length co24 : Value).ownBlock ∧ some k_ ≠ (.slice Ao29 t647.length co29 : Value).ownBlock ∧ some k_ ≠ (.slice Ao33 t651.length co33 : Value).ownBlock ∧ some k_ ≠ (.slice Ao37 t655.length co37 : Value).ownBlock) (Kd.R_keptB (HO646.out) hkp (fun k_ hk_ hs_ => by first | exact (hk_.1.1.2) hs_ | simp_all)) (fun k_ hk_ => by first | exact ⟨hk_.1.1.1.1.2, hk_.1.1.1.2, hk_.1.1.2, hk_.1.2⟩ | simp_all)); replace BK650 := Aside0.mk (blk_kept (bo BK650.out) hkp (fun hs_ => (fun e_ => (Kd.R_ne HO649.out BK650.out (by decide)) e_) hs_)); replace HO649 := Aside0.mk (Kd.R_reok rfl hy0 (fun k_ e_ => HO649.out.1 k_ e_)); replace HO653 := Aside0.mk (Kd.R_mono (ok' := fun k_ => some k_ ≠ (.slice Ao24 t641.length co24 : Value).ownBlock ∧ some k_ ≠ (.slice Ao34 t644.length co34 : Value).ownBlock ∧ some k_ ≠ (.slice Ao29 t647.length co29 : Value).ownBlock ∧ some k_ ≠ (.slice Ao37 t655.length co37 : Value).ownBlock) (Kd.R_keptB (HO653.out) hkp (fun k_ hk_ hs_ => by first | exact (hk_.1.2) hs_ | simp_all)) (fun k_ hk_ => by first | exact ⟨hk_.1.1.1.1.2, hk_.1.1.1.2, hk_.1.1.2, hk_.1.2⟩ | simp_all)); replace HO657 := Aside0.mk (Kd.R_mono (ok' := fun k_ => some k_ ≠ (.slice Ao24 t641.length co24 : Value).ownBlock ∧ some k_ ≠ (.slice Ao34 t644.length co34 : Value).ownBlock ∧ some k_ ≠ (.slice Ao29 t647.length co29 : Value).ownBlock ∧ some k_ ≠ (.slice Ao33 t651.length co33 : Value).ownBlock) (Kd.R_keptB (HO657.out) hkp (fun k_ hk_ hs_ => by first | exact (hk_.1.2) hs_ | simp_all)) (fun k_ hk_ => by first | exact ⟨hk_.1.1.1.1.2, hk_.1.1.1.2, hk_.1.1.2, hk_.1.2⟩ | simp_all)); replace HB := Aside0.mk (hb); clear hb hkp hy0))
    (try simp only [Act.put, List.setIfInBounds_toArray, List.set_cons_zero, List.set_cons_succ])
    go_cut [46] (fun v46 wc => ∃ (kq : Nat) (x46_17 : Bool), v46 = .bool x46_17 ∧ Aside0 (laws_FnExactDeltaOf.j0 kq a1 t644 t651 x46_17 l0_0 = some true) ∧ Aside0 (kq ≤ k) ∧ Aside0 (Kd.R (Kd.int .i64) 3 wc w.heap.size (fun k_ => some k_ ≠ ((.slice Ao33 t651.length co33) : Value).ownBlock ∧ some k_ ≠ ((.slice Ao29 t647.length co29) : Value).ownBlock) (.slice Ao34 t644.length co34) t644) ∧ Aside0 (Kd.R (Kd.int .i64) 3 wc w.heap.size (fun k_ => some k_ ≠ ((.slice Ao34 t644.length co34) : Value).ownBlock ∧ some k_ ≠ ((.slice Ao29 t647.length co29) : Value).ownBlock) (.slice Ao33 t651.length co33) t651) ∧ Aside0 (Kd.R (Kd.int .i64) 3 wc w.heap.size (fun k_ => some k_ ≠ ((.slice Ao34 t644.length co34) : Value).ownBlock ∧ some k_ ≠ ((.slice Ao33 t651.length co33) : Value).ownBlock) (.slice Ao29 t647.length co29) t660) ∧ Aside0 (wc.heap[gb639]? = some (.cells #[(.slice A0_0 l0_0.length c0_0)] 24 (0, 0))) ∧ Aside0 (wc.heap[gb650]? = some (.cells #[(.slice Ao29 t647.length co29)] 27 (0, 0))) ∧ Aside0 (Below w.heap.size w wc))
    case first =>
     have H := HC18.out
     clear HC18
     replace H := gi H; obtain ⟨c41b0, H⟩ | ⟨c41b0, H⟩ := H
     ·(first | rw [c41b0] | (simp only [i64_w, i32_w]; rw [c41b0]) | skip)
      have H' := Aside0.mk H
      clear H
      go_wp2
      go_meet
      case rel => exact ⟨_, (true), rr, H', ⟨om⟩, ⟨by (with_reducible repeat (first | apply Kd.R_alloc | apply Kd.R_drewN | apply Kd.R_drew)); exact Kd.R_mono HO646.out (fun _ hk => by first | exact ⟨hk.2.2.1, hk.2.1⟩ | simp_all)⟩, ⟨by (with_reducible repeat (first | apply Kd.R_alloc | apply Kd.R_drewN | apply Kd.R_drew)); exact Kd.R_mono HO653.out (fun _ hk => by first | exact ⟨hk.2.1, hk.2.2.1⟩ | simp_all)⟩, ⟨by (with_reducible repeat (first | apply Kd.R_alloc | apply Kd.R_drewN | apply Kd.R_drew)); exact Kd.R_mono HO649.out (fun _ hk => by first | exact ⟨hk.1.1.2, hk.1.2⟩ | simp_all)⟩, ⟨bo BK639.out⟩, ⟨bo BK650.out⟩, ⟨bw⟩⟩
     ·(first | rw [c41b0] | (simp only [i64_w, i32_w]; rw [c41b0]) | skip)
      replace H := ga H; obtain ⟨t661, A42, H⟩ := H
      have H' := Aside0.mk H
      clear H
      go_wp2_with (first | (go_at_call 20; (with_reducible refine (laws_eqIntS.calls k _ _ t651 _ _ t644 t661 _ ?side1 ?side2 ?side3 ?side4 A42.out).mono ?_); (case side1 => exact co (Kd.R_reads' HO653.out).2.2); (case side2 => exact (Kd.R_reads' HO653.out).2.1); (case side3 => exact co (Kd.R_reads' HO646.out).2.2); (case side4 => exact (Kd.R_reads' HO646.out).2.1); rintro e w' ⟨rfl, ⟨nd, rfl⟩⟩))
      go_meet
      case rel => exact ⟨_, (!t661), rr, H', ⟨om⟩, ⟨by (with_reducible repeat (first | apply Kd.R_alloc | apply Kd.R_drewN | apply Kd.R_drew)); exact Kd.R_mono HO646.out (fun _ hk => by first | exact ⟨hk.2.2.1, hk.2.1⟩ | simp_all)⟩, ⟨by (with_reducible repeat (first | apply Kd.R_alloc | apply Kd.R_drewN | apply Kd.R_drew)); exact Kd.R_mono HO653.out (fun _ hk => by first | exact ⟨hk.2.1, hk.2.2.1⟩ | simp_all)⟩, ⟨by (with_reducible repeat (first | apply Kd.R_alloc | apply Kd.R_drewN | apply Kd.R_drew)); exact Kd.R_mono HO649.out (fun _ hk => by first | exact ⟨hk.1.1.2, hk.1.2⟩ | simp_all)⟩, ⟨bo BK639.out⟩, ⟨bo BK650.out⟩, ⟨bw⟩⟩
    case rest =>
     clear HC18
     try clear c4b0; try clear c41b0; try clear hcz20_0; try clear hcz22_0; try clear hcz26_0; try clear hcz31_0; try clear hcz39_0; try clear hcz6_0; try clear hfz20_0; try clear hfz22_0; try clear hfz26_0; try clear hfz31_0; try clear hfz39_0; try clear hfz6_0
     obtain ⟨kq, x46_17, rfl, HA, HJ17, HO_6, HO_8, HO_651000, BK639, BK650, HB⟩ := hcut
     have hl651000_17 := (Kd.R_reads' HO_651000.out).1
     rw [hl651000_17] at HO_651000
     (try simp only [hl651000_17])
     (try simp only [hl651000_17] at BK639)
     (try simp only [hl651000_17] at BK650)
     (try simp only [hl651000_17] at HO_6)
     (try simp only [hl651000_17] at HO_8)
     cases kq with
     | zero => exact absurd HA.out (by simp [laws_FnExactDeltaOf.j0])
     | succ kj17 =>
      have H := HA.out
      clear HA
      simp only [laws_FnExactDeltaOf.j0] at H
      replace H := gb H; obtain ⟨rfl, H⟩ | ⟨rfl, H⟩ := H
      ·exact absurd (Option.some.inj H) (by decide)
      ·replace H := ga H; obtain ⟨⟨t662, t663⟩, A44, H⟩ := H
       replace H : ((laws_heldIntS.f kj17 t663 1).bind fun t664 => (if t664 < 0 then (some false) else (if t664 = t662 then ((laws_toSemigroup.f kj17 l0_0).bind fun t665 => ((impl_DeltaOf.f kj17 t665 a1).bind fun t668 => ((laws_eqIntS.f kj17 t668 t644).bind fun t671 => (if t671 = true then ((laws_heldIntS.f kj17 t663 1).bind fun t672 => (if t672 < 0 then (some false) else (if t672 = t662 then (some true) else (some false)))) else (some false))))) else (some false)))) = some true := H
       replace H := ga H; obtain ⟨t664, A45, H⟩ := H
       replace H := gi H; obtain ⟨c46b0, H⟩ | ⟨c46b0, H⟩ := H
       ·exact absurd (Option.some.inj H) (by decide)
       ·by_cases c48 : t664 = t662
        ·rw [if_pos c48] at H
         have c48b0 : (t664 == t662) = true := beq_iff_eq.mpr c48
         have c48b1 : (t664 != t662) = false := bne_eq_false_iff_eq.mpr c48
         clear c48
         replace H := ga H; obtain ⟨t665, A49, H⟩ := H
         replace H := ga H; obtain ⟨t668, A50, H⟩ := H
         replace H := ga H; obtain ⟨t671, A51, H⟩ := H
         replace H := gb H; obtain ⟨rfl, H⟩ | ⟨rfl, H⟩ := H
         ·replace H := ga H; obtain ⟨t672, A53, H⟩ := H
          replace H := gi H; obtain ⟨c54b0, H⟩ | ⟨c54b0, H⟩ := H
          ·exact absurd (Option.some.inj H) (by decide)
          ·by_cases c62 : t672 = t662
           ·rw [if_pos c62] at H
            have c62b0 : (t672 == t662) = true := beq_iff_eq.mpr c62
            have c62b1 : (t672 != t662) = false := bne_eq_false_iff_eq.mpr c62
            clear c62
            skip
            go_wp2_with (first | ((with_reducible refine gate_callee (f := 23) rfl ?_); refine gl (some 49) Try.func23 #[.slice Ao33 t651.length co33, .int .i64 1] ?_; (with_reducible refine (laws_markIntS.calls kj17 (fun k_ => some k_ = (.slice Ao33 t651.length co33 : Value).ownBlock) (.slice Ao33 t651.length co33) t651 1 t662 t663 w _ ?side1 ?side2 A44.out).mono ?_); (case side1 => repeat (first | (with_reducible first | exact HB.out | apply below_alloc | apply pw_below_drewN | apply below_drew1 | refine below_set ?_ GE639.out | refine below_set ?_ GE650.out) | exact HB.out)); (case side2 => exact Kd.R_tight rfl HO_8.out); rintro e w63 ⟨rfl, hy0, hb, hkp⟩; refine ⟨_, rfl, ?_⟩; replace HO_6 := Aside0.mk (Kd.R_mono (ok' := fun k_ => some k_ ≠ (.slice Ao33 t651.length co33 : Value).ownBlock ∧ some k_ ≠ (.slice Ao29 t660.length co29 : Value).ownBlock) (Kd.R_keptB (HO_6.out) hkp (fun k_ hk_ hs_ => by first | exact (hk_.1) hs_ | simp_all)) (fun k_ hk_ => by first | exact ⟨hk_.1.1, hk_.1.2⟩ | simp_all)); replace HO_651000 := Aside0.mk (Kd.R_mono (ok' := fun k_ => some k_ ≠ (.slice Ao34 t644.length co34 : Value).ownBlock ∧ some k_ ≠ (.slice Ao33 t651.length co33 : Value).ownBlock) (Kd.R_keptB (HO_651000.out) hkp (fun k_ hk_ hs_ => by first | exact (hk_.2) hs_ | simp_all)) (fun k_ hk_ => by first | exact ⟨hk_.1.1, hk_.1.2⟩ | simp_all)); replace BK639 := Aside0.mk (blk_kept (bo BK639.out) hkp (fun hs_ => (fun e_ => (Kd.R_ne HO_8.out BK639.out (by decide)) e_) hs_)); replace BK650 := Aside0.mk (blk_kept (bo BK650.out) hkp (fun hs_ => (fun e_ => (Kd.R_ne HO_8.out BK650.out (by decide)) e_) hs_)); replace HO_8 := Aside0.mk (Kd.R_reok rfl hy0 (fun k_ e_ => HO_8.out.1 k_ e_)); replace HB := Aside0.mk (hb); clear hb hkp hy0) | ((with_reducible refine gate_callee (f := 24) rfl ?_); refine goesL_ (some 52) rfl rfl Try.func24 (by kernel_rfl) rfl #[.slice Ao33 t663.length co33, .int .i64 1] rfl (by (try simp only [List.map_toArray, List.map_cons, List.map_nil]); first | done | (rw [show t663.length = t651.length from (Kd.R_reads' HO_8.out).1.symm] <;> rfl) | rfl | (simp only [List.length_drop, List.length_take]; rfl)) ?_; (with_reducible refine (laws_heldIntS.calls kj17 _ _ t663 1 t664 _ ?side1 ?side2 A45.out).mono ?_); (case side1 => exact co (Kd.R_reads' HO_8.out).2.2); (case side2 => rw [show t663.length = t651.length from (Kd.R_reads' HO_8.out).1.symm]; exact (Kd.R_reads' HO_8.out).2.1); rintro e w' ⟨rfl, ⟨nd, rfl⟩⟩; refine ⟨_, rfl, ?_⟩; have hnb64 := NB639_650.out; have hnc64 := NB650_639.out; have hcz65_0 := bc BK639 0 (.slice A0_0 l0_0.length c0_0); have hfz65_0 := blk_frozen BK639.out 0) | ((with_reducible refine gate_callee (f := 17) rfl ?_); refine gl (some 59) Try.func17 #[.agg #[.slice A0_0 l0_0.length c0_0]] ?_; (with_reducible refine (laws_toSemigroup.calls kj17 _ _ l0_0 t665 _ ?side1 ?side2 A49.out).mono ?_); (case side1 => exact co (Kd.C_below HR0_0.out bw)); (case side2 => exact HC0_0.out); rintro e w66 ⟨v666, rfl, ho0, hb⟩; refine ⟨_, rfl, ?_⟩; have HO667 := Aside0.mk (Kd.R_lower (Kd.R_new' (Kd.R_new' (Kd.R_new' ho0 (Kd.R_lt (ro HO_6.out))) (Kd.R_lt (ro HO_8.out))) (Kd.R_lt (ro HO_651000.out))) (below_size bw)); replace HO_6 := Aside0.mk (Kd.R_elder' (ro HO_6.out) (Kd.R_base ho0) hb); replace HO_8 := Aside0.mk (Kd.R_elder' (ro HO_8.out) (Kd.R_base ho0) hb); replace HO_651000 := Aside0.mk (Kd.R_elder' (ro HO_651000.out) (Kd.R_base ho0) hb); replace BK639 := Aside0.mk (blk_below (g := gb639) (o := .cells #[.slice A0_0 l0_0.length c0_0] 24 (0, 0)) (bo BK639.out) hb); replace BK650 := Aside0.mk (blk_below (g := gb650) (o := .cells #[.slice Ao29 t660.length co29] 27 (0, 0)) (bo BK650.out) hb); replace HB := Aside0.mk (below_step bw hb); clear hb ho0; obtain ⟨Ao67, co67, eo67⟩ := Kd.R_slice HO667.out; subst eo67) | ((with_reducible refine gate_callee (f := 34) rfl ?_); refine gl (some 61) Try.func34 #[.agg #[.slice Ao67 t665.length co67], .int .i64 a1] ?_; (with_reducible refine (impl_DeltaOf.calls kj17 _ _ t665 a1 t668 _ ?side1 ?side2 A50.out).mono ?_); (case side1 => exact co (Kd.R_reads' HO667.out).2.2); (case side2 => exact (Kd.R_reads' HO667.out).2.1); rintro e w68 ⟨v669, rfl, ho0, hb⟩; refine ⟨_, rfl, ?_⟩; have HO670 := Aside0.mk (Kd.R_lower (Kd.R_new' (Kd.R_new' (Kd.R_new' (Kd.R_new' ho0 (Kd.R_lt (ro HO_6.out))) (Kd.R_lt (ro HO_8.out))) (Kd.R_lt (ro HO_651000.out))) (Kd.R_lt (ro HO667.out))) (below_size bw)); replace HO_6 := Aside0.mk (Kd.R_elder' (ro HO_6.out) (Kd.R_base ho0) hb); replace HO_8 := Aside0.mk (Kd.R_elder' (ro HO_8.out) (Kd.R_base ho0) hb); replace HO_651000 := Aside0.mk (Kd.R_elder' (ro HO_651000.out) (Kd.R_base ho0) hb); replace HO667 := Aside0.mk (Kd.R_elder' (ro HO667.out) (Kd.R_base ho0) hb); replace BK639 := Aside0.mk (blk_below (g := gb639) (o := .cells #[.slice A0_0 l0_0.length c0_0] 24 (0, 0)) (bo BK639.out) hb); replace BK650 := Aside0.mk (blk_below (g := gb650) (o := .cells #[.slice Ao29 t660.length co29] 27 (0, 0)) (bo BK650.out) hb); replace HB := Aside0.mk (below_step bw hb); clear hb ho0; obtain ⟨Ao69, co69, eo69⟩ := Kd.R_slice HO670.out; subst eo69) | ((with_reducible refine gate_callee (f := 20) rfl ?_); refine gl (some 64) Try.func20 #[.slice Ao69 t668.length co69, .slice Ao34 t644.length co34] ?_; (with_reducible refine (laws_eqIntS.calls kj17 _ _ t668 _ _ t644 true _ ?side1 ?side2 ?side3 ?side4 A51.out).mono ?_); (case side1 => exact co (Kd.R_reads' HO670.out).2.2); (case side2 => exact (Kd.R_reads' HO670.out).2.1); (case side3 => exact co (Kd.R_reads' HO_6.out).2.2); (case side4 => exact (Kd.R_reads' HO_6.out).2.1); rintro e w' ⟨rfl, ⟨nd, rfl⟩⟩; refine ⟨_, rfl, ?_⟩) | ((with_reducible refine gate_callee (f := 24) rfl ?_); refine goesL_ (some 68) rfl rfl Try.func24 (by kernel_rfl) rfl #[.slice Ao33 t663.length co33, .int .i64 1] rfl (by (try simp only [List.map_toArray, List.map_cons, List.map_nil]); first | done | (rw [show t663.length = t651.length from (Kd.R_reads' HO_8.out).1.symm] <;> rfl) | rfl | (simp only [List.length_drop, List.length_take]; rfl)) ?_; (with_reducible refine (laws_heldIntS.calls kj17 _ _ t663 1 t672 _ ?side1 ?side2 A53.out).mono ?_); (case side1 => exact co (Kd.R_reads' HO_8.out).2.2); (case side2 => rw [show t663.length = t651.length from (Kd.R_reads' HO_8.out).1.symm]; exact (Kd.R_reads' HO_8.out).2.1); rintro e w' ⟨rfl, ⟨nd, rfl⟩⟩; refine ⟨_, rfl, ?_⟩))
            go_ret
            exact ⟨re, bw⟩
           ·rw [if_neg c62] at H
            have c62b0 : (t672 == t662) = false := beq_eq_false_iff_ne.mpr c62
            have c62b1 : (t672 != t662) = true := bne_iff_ne.mpr c62
            exact absurd (Option.some.inj H) (by decide)
         ·exact absurd (Option.some.inj H) (by decide)
        ·rw [if_neg c48] at H
         have c48b0 : (t664 == t662) = false := beq_eq_false_iff_ne.mpr c48
         have c48b1 : (t664 != t662) = true := bne_iff_ne.mpr c48
         exact absurd (Option.some.inj H) (by decide)
   ·exact absurd (Option.some.inj H) (by decide)
  ·exact absurd (Option.some.inj H) (by decide)
end Go.Proofs.Ytiejmnnnjmmifaa.C
