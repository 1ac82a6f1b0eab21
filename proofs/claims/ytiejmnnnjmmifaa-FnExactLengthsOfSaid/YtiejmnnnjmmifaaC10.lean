/- Contracts of functions of the program: laws_FnExactLengthsOf. -/
import Derived.Test.YtiejmnnnjmmifaaC0
import Derived.Test.YtiejmnnnjmmifaaC1
import Derived.Test.YtiejmnnnjmmifaaC6
import Derived.Test.YtiejmnnnjmmifaaC8
namespace Go.Proofs.Ytiejmnnnjmmifaa.C
open Go.RowKit Go.Proofs.YtiejmnnnjmmifaaW.PrintWords Go.Proofs.YtiejmnnnjmmifaaW.PrintLast Go.Proofs.YtiejmnnnjmmifaaW.PrintMore
attribute [local go_sem] max2_int min2_int max_two min_two max_three min_three max_four min_four
set_option linter.unusedVariables false
set_option linter.unusedSimpArgs false

/-! ### laws_FnExactLengthsOf: function 5 -/
def laws_FnExactLengthsOf.j0 : Nat → Int → List Int → List Int → Bool → List Int → Option (Bool)
 | 0, _, _, _, _, _ => none
 | k + 1, x1, x6, x8, x46, x543000 => if x46 = true then (some false) else ((laws_markIntS.f k x8 1).bind fun bt565 => ((laws_heldIntS.f k bt565.2 1).bind fun t567 => (if t567 < 0 then (some false) else (if t567 = bt565.1 then ((laws_toSemigroup.f k x543000).bind fun t568 => ((impl_LengthsOf.f k t568 x1).bind fun t571 => ((laws_eqIntS.f k t571 x6).bind fun t574 => (if t574 = true then ((laws_heldIntS.f k bt565.2 1).bind fun t575 => (if t575 < 0 then (some false) else (if t575 = bt565.1 then (some true) else (some false)))) else (some false))))) else (some false)))))
def laws_FnExactLengthsOf.f (k : Nat) (l0_0 : List Int) (a1 : Int) : Option (Bool) := (laws_szSemigroup.f l0_0 1048576).bind fun t543 => (if t543 < 0 then (some true) else ((laws_toSemigroup.f k l0_0).bind fun t544 => ((spec_LengthsOf.f k t544 a1).bind fun t547 => ((laws_toSemigroup.f k l0_0).bind fun t550 => ((impl_LengthsOf.f k t550 a1).bind fun t554 => ((laws_eqIntS.f k t554 t547).bind fun t557 => (if t557 = true then ((laws_toSemigroup.f k l0_0).bind fun t558 => ((laws_eqSemigroup.f k t550 t558).bind fun t561 => (if t561 = true then ((laws_markSemigroup.f k t550 1).bind fun bt562 => (if bt562.1 < 0 then (laws_FnExactLengthsOf.j0 k a1 t547 t554 true l0_0) else ((laws_eqIntS.f k t554 t547).bind fun t564 => (laws_FnExactLengthsOf.j0 k a1 t547 t554 (!t564) l0_0)))) else (some false)))) else (some false))))))))
set_option maxHeartbeats 8000000 in
set_option maxRecDepth 100000 in
theorem laws_FnExactLengthsOf.calls (k : Nat) (A0_0 : Option Addr) (c0_0 : Nat) (l0_0 : List Int) (a1 : Int) (w : World) (hr0_0 : Kd.C (Kd.int .i64) w A0_0 l0_0.length l0_0) (hc0_0 : l0_0.length ≤ c0_0) (h : laws_FnExactLengthsOf.f k l0_0 a1 = some true) :
  Calls Try.prog 5 #[.agg #[.slice A0_0 l0_0.length c0_0], .int .i64 a1] w fun e w' => e = .returned (.bool true) ∧ Below w.heap.size w w' := by
 have hu24 := Try.underlying24
 have hu27 := Try.underlying27
 have HR0_0 := Aside0.mk hr0_0
 have HC0_0 := Aside0.mk hc0_0
 clear hr0_0 hc0_0
 have HB := Aside0.mk (Below.refl w.heap.size w)
 have H : ((laws_szSemigroup.f l0_0 1048576).bind fun t543 => (if t543 < 0 then (some true) else ((laws_toSemigroup.f k l0_0).bind fun t544 => ((spec_LengthsOf.f k t544 a1).bind fun t547 => ((laws_toSemigroup.f k l0_0).bind fun t550 => ((impl_LengthsOf.f k t550 a1).bind fun t554 => ((laws_eqIntS.f k t554 t547).bind fun t557 => (if t557 = true then ((laws_toSemigroup.f k l0_0).bind fun t558 => ((laws_eqSemigroup.f k t550 t558).bind fun t561 => (if t561 = true then ((laws_markSemigroup.f k t550 1).bind fun bt562 => (if bt562.1 < 0 then (laws_FnExactLengthsOf.j0 k a1 t547 t554 true l0_0) else ((laws_eqIntS.f k t554 t547).bind fun t564 => (laws_FnExactLengthsOf.j0 k a1 t547 t554 (!t564) l0_0)))) else (some false)))) else (some false))))))))) = some true := h
 clear h
 replace H := ga H; obtain ⟨t543, A3, H⟩ := H
 replace H := gi H; obtain ⟨c4b0, H⟩ | ⟨c4b0, H⟩ := H
 ·skip
  go_enter Try.func5, Try.ntmps5
  go_wp2_with (first | ((with_reducible refine gate_dst (N := 2) rfl ?_); refine bx 2 #[.slice A0_0 l0_0.length c0_0] 24 ?_; intro gb542 hg w5 hbox hb; have BK542 := Aside0.mk (hbox); have GW542 := Aside0.mk (gs hg : w.heap.size ≤ gb542); have GE542 := Aside0.mk (gs hg : w.heap.size ≤ gb542); replace HB := Aside0.mk (below_step bw hb); clear hb hbox hg; have hcz6_0 := bc BK542 0 (.slice A0_0 l0_0.length c0_0); have hfz6_0 := blk_frozen BK542.out 0) | ((with_reducible refine gate_callee (f := 15) rfl ?_); refine gl (some 15) Try.func15 #[.agg #[.slice A0_0 l0_0.length c0_0], .int .i64 1048576] ?_; (with_reducible refine (laws_szSemigroup.calls _ _ l0_0 1048576 t543 _ ?side1 ?side2 A3.out).mono ?_); (case side1 => exact co (Kd.C_below HR0_0.out HB.out)); (case side2 => exact HC0_0.out); rintro e w7 ⟨rfl, hb⟩; refine ⟨_, rfl, ?_⟩; replace BK542 := Aside0.mk (blk_below (g := gb542) (o := .cells #[.slice A0_0 l0_0.length c0_0] 24 (0, 0)) (bo BK542.out) hb); replace HB := Aside0.mk (below_step bw hb); clear hb))
  go_ret
  exact ⟨re, bw⟩
 ·replace H := ga H; obtain ⟨t544, A8, H⟩ := H
  replace H := ga H; obtain ⟨t547, A9, H⟩ := H
  replace H := ga H; obtain ⟨t550, A10, H⟩ := H
  replace H := ga H; obtain ⟨t554, A11, H⟩ := H
  replace H := ga H; obtain ⟨t557, A12, H⟩ := H
  replace H := gb H; obtain ⟨rfl, H⟩ | ⟨rfl, H⟩ := H
  ·replace H := ga H; obtain ⟨t558, A14, H⟩ := H
   replace H := ga H; obtain ⟨t561, A15, H⟩ := H
   replace H := gb H; obtain ⟨rfl, H⟩ | ⟨rfl, H⟩ := H
   ·replace H := ga H; obtain ⟨⟨t562, t563⟩, A17, H⟩ := H
    replace H : (if t562 < 0 then (laws_FnExactLengthsOf.j0 k a1 t547 t554 true l0_0) else ((laws_eqIntS.f k t554 t547).bind fun t564 => (laws_FnExactLengthsOf.j0 k a1 t547 t554 (!t564) l0_0))) = some true := H
    have HC18 := Aside0.mk H
    clear H
    go_enter Try.func5, Try.ntmps5
    try go_wp2_with (first | ((with_reducible refine gate_dst (N := 2) rfl ?_); refine bx 2 #[.slice A0_0 l0_0.length c0_0] 24 ?_; intro gb542 hg w19 hbox hb; have BK542 := Aside0.mk (hbox); have GW542 := Aside0.mk (gs hg : w.heap.size ≤ gb542); have GE542 := Aside0.mk (gs hg : w.heap.size ≤ gb542); replace HB := Aside0.mk (below_step bw hb); clear hb hbox hg; have hcz20_0 := bc BK542 0 (.slice A0_0 l0_0.length c0_0); have hfz20_0 := blk_frozen BK542.out 0) | ((with_reducible refine gate_callee (f := 15) rfl ?_); refine gl (some 15) Try.func15 #[.agg #[.slice A0_0 l0_0.length c0_0], .int .i64 1048576] ?_; (with_reducible refine (laws_szSemigroup.calls _ _ l0_0 1048576 t543 _ ?side1 ?side2 A3.out).mono ?_); (case side1 => exact co (Kd.C_below HR0_0.out HB.out)); (case side2 => exact HC0_0.out); rintro e w21 ⟨rfl, hb⟩; refine ⟨_, rfl, ?_⟩; replace BK542 := Aside0.mk (blk_below (g := gb542) (o := .cells #[.slice A0_0 l0_0.length c0_0] 24 (0, 0)) (bo BK542.out) hb); replace HB := Aside0.mk (below_step bw hb); clear hb; have hcz22_0 := bc BK542 0 (.slice A0_0 l0_0.length c0_0); have hfz22_0 := blk_frozen BK542.out 0) | ((with_reducible refine gate_callee (f := 17) rfl ?_); refine gl (some 19) Try.func17 #[.agg #[.slice A0_0 l0_0.length c0_0]] ?_; (with_reducible refine (laws_toSemigroup.calls k _ _ l0_0 t544 _ ?side1 ?side2 A8.out).mono ?_); (case side1 => exact co (Kd.C_below HR0_0.out HB.out)); (case side2 => exact HC0_0.out); rintro e w23 ⟨v545, rfl, ho0, hb⟩; refine ⟨_, rfl, ?_⟩; have HO546 := Aside0.mk (Kd.R_lower ho0 (below_size bw)); replace BK542 := Aside0.mk (blk_below (g := gb542) (o := .cells #[.slice A0_0 l0_0.length c0_0] 24 (0, 0)) (bo BK542.out) hb); replace HB := Aside0.mk (below_step bw hb); clear hb ho0; obtain ⟨Ao24, co24, eo24⟩ := Kd.R_slice HO546.out; subst eo24) | ((with_reducible refine gate_callee (f := 27) rfl ?_); refine gl (some 21) Try.func27 #[.agg #[.slice Ao24 t544.length co24], .int .i64 a1] ?_; (with_reducible refine (spec_LengthsOf.calls k _ _ t544 a1 t547 _ ?side1 ?side2 A9.out).mono ?_); (case side1 => exact co (Kd.R_reads' HO546.out).2.2); (case side2 => exact (Kd.R_reads' HO546.out).2.1); rintro e w25 ⟨v548, rfl, ho0, hb⟩; refine ⟨_, rfl, ?_⟩; have HO549 := Aside0.mk (Kd.R_lower (Kd.R_new' ho0 (Kd.R_lt (ro HO546.out))) (below_size bw)); replace HO546 := Aside0.mk (Kd.R_elder' (ro HO546.out) (Kd.R_base ho0) hb); replace BK542 := Aside0.mk (blk_below (g := gb542) (o := .cells #[.slice A0_0 l0_0.length c0_0] 24 (0, 0)) (bo BK542.out) hb); replace HB := Aside0.mk (below_step bw hb); clear hb ho0; have hcz26_0 := bc BK542 0 (.slice A0_0 l0_0.length c0_0); have hfz26_0 := blk_frozen BK542.out 0) | ((with_reducible refine gate_callee (f := 17) rfl ?_); refine gl (some 23) Try.func17 #[.agg #[.slice A0_0 l0_0.length c0_0]] ?_; (with_reducible refine (laws_toSemigroup.calls k _ _ l0_0 t550 _ ?side1 ?side2 A10.out).mono ?_); (case side1 => exact co (Kd.C_below HR0_0.out HB.out)); (case side2 => exact HC0_0.out); rintro e w27 ⟨v551, rfl, ho0, hb⟩; refine ⟨_, rfl, ?_⟩; have HO552 := Aside0.mk (Kd.R_lower (Kd.R_new' (Kd.R_new' ho0 (Kd.R_lt (ro HO546.out))) (Kd.R_lt (ro HO549.out))) (below_size bw)); replace HO546 := Aside0.mk (Kd.R_elder' (ro HO546.out) (Kd.R_base ho0) hb); replace HO549 := Aside0.mk (Kd.R_elder' (ro HO549.out) (Kd.R_base ho0) hb); replace BK542 := Aside0.mk (blk_below (g := gb542) (o := .cells #[.slice A0_0 l0_0.length c0_0] 24 (0, 0)) (bo BK542.out) hb); replace HB := Aside0.mk (below_step bw hb); clear hb ho0) | ((with_reducible refine gate_dst (N := 7) rfl ?_); refine bx 7 #[.slice none 0 0] 27 ?_; intro gb553 hg w28 hbox hb; replace HO546 := Aside0.mk (Kd.R_below (ro HO546.out) hb); replace HO549 := Aside0.mk (Kd.R_below (ro HO549.out) hb); replace HO552 := Aside0.mk (Kd.R_below (ro HO552.out) hb); have BK553 := Aside0.mk (hbox); have GW553 := Aside0.mk (gs hg : w.heap.size ≤ gb553); have GE553 := Aside0.mk (gs hg : w.heap.size ≤ gb553); replace HB := Aside0.mk (below_step bw hb); have NB542_553 := Aside0.mk ((by rw [hg]; exact Nat.ne_of_lt (blk_lt (g := gb542) (o := .cells #[.slice A0_0 l0_0.length c0_0] 24 (0, 0)) (bo BK542.out)) : gb542 ≠ gb553)); have NB553_542 := Aside0.mk ((by rw [hg]; exact Nat.ne_of_gt (blk_lt (g := gb542) (o := .cells #[.slice A0_0 l0_0.length c0_0] 24 (0, 0)) (bo BK542.out)) : gb553 ≠ gb542)); replace BK542 := Aside0.mk (blk_below (g := gb542) (o := .cells #[.slice A0_0 l0_0.length c0_0] 24 (0, 0)) (bo BK542.out) hb); clear hb hbox hg; obtain ⟨Ao29, co29, eo29⟩ := Kd.R_slice HO552.out; subst eo29; have hnb30 := NB553_542.out; have hnc30 := NB542_553.out; have hcz31_0 := bc BK553 0 (.slice none 0 0); have hfz31_0 := blk_frozen BK553.out 0) | ((with_reducible refine gate_callee (f := 28) rfl ?_); refine gl (some 26) Try.func28 #[.agg #[.slice Ao29 t550.length co29], .int .i64 a1] ?_; (with_reducible refine (impl_LengthsOf.calls k _ _ t550 a1 t554 _ ?side1 ?side2 A11.out).mono ?_); (case side1 => refine (Kd.R_reads' (e := 3) (base := w.heap.size) (ok := fun k_ => ((True ∧ some k_ ≠ (.slice Ao24 t544.length co24 : Value).ownBlock) ∧ some k_ ≠ (v548 : Value).ownBlock)) (n := t550.length) (c := co29) ?_).2.2; exact (by (with_reducible repeat (first | apply Kd.R_alloc | apply Kd.R_drewN | apply Kd.R_drew)); exact (Kd.R_mono (Kd.R_far (p := ⟨gb553, 0, none⟩) (Kd.R_types HO552.out BK553.out (by decide)) (fun _ hk => hk.2) (.slice Ao29 t550.length co29)) (fun _ h_ => h_.1)))); (case side2 => exact (Kd.R_reads' HO552.out).2.1); rintro e w32 ⟨v555, rfl, ho0, hb⟩; refine ⟨_, rfl, ?_⟩; have HO556 := Aside0.mk (Kd.R_lower (Kd.R_new' (Kd.R_new' (Kd.R_new' ho0 (Kd.R_lt (by (with_reducible repeat (first | apply Kd.R_alloc | apply Kd.R_drewN | apply Kd.R_drew)); exact (Kd.R_mono (Kd.R_far (p := ⟨gb553, 0, none⟩) (Kd.R_types HO546.out BK553.out (by decide)) (fun _ hk => hk.2) (.slice Ao29 t550.length co29)) (fun _ h_ => h_.1))))) (Kd.R_lt (by (with_reducible repeat (first | apply Kd.R_alloc | apply Kd.R_drewN | apply Kd.R_drew)); exact (Kd.R_mono (Kd.R_far (p := ⟨gb553, 0, none⟩) (Kd.R_types HO549.out BK553.out (by decide)) (fun _ hk => hk.2) (.slice Ao29 t550.length co29)) (fun _ h_ => h_.1))))) (Kd.R_lt (by (with_reducible repeat (first | apply Kd.R_alloc | apply Kd.R_drewN | apply Kd.R_drew)); exact (Kd.R_mono (Kd.R_far (p := ⟨gb553, 0, none⟩) (Kd.R_types HO552.out BK553.out (by decide)) (fun _ hk => hk.2) (.slice Ao29 t550.length co29)) (fun _ h_ => h_.1))))) (below_size bw)); replace HO546 := Aside0.mk (Kd.R_elder' (by (with_reducible repeat (first | apply Kd.R_alloc | apply Kd.R_drewN | apply Kd.R_drew)); exact (Kd.R_mono (Kd.R_far (p := ⟨gb553, 0, none⟩) (Kd.R_types HO546.out BK553.out (by decide)) (fun _ hk => hk.2) (.slice Ao29 t550.length co29)) (fun _ h_ => h_.1))) (Kd.R_base ho0) hb); replace HO549 := Aside0.mk (Kd.R_elder' (by (with_reducible repeat (first | apply Kd.R_alloc | apply Kd.R_drewN | apply Kd.R_drew)); exact (Kd.R_mono (Kd.R_far (p := ⟨gb553, 0, none⟩) (Kd.R_types HO549.out BK553.out (by decide)) (fun _ hk => hk.2) (.slice Ao29 t550.length co29)) (fun _ h_ => h_.1))) (Kd.R_base ho0) hb); replace HO552 := Aside0.mk (Kd.R_elder' (by (with_reducible repeat (first | apply Kd.R_alloc | apply Kd.R_drewN | apply Kd.R_drew)); exact (Kd.R_mono (Kd.R_far (p := ⟨gb553, 0, none⟩) (Kd.R_types HO552.out BK553.out (by decide)) (fun _ hk => hk.2) (.slice Ao29 t550.length co29)) (fun _ h_ => h_.1))) (Kd.R_base ho0) hb); replace BK542 := Aside0.mk (blk_below (g := gb542) (o := .cells #[.slice A0_0 l0_0.length c0_0] 24 (0, 0)) (by (with_reducible repeat (first | refine blk_drewN ?_ _ | refine blk_drew ?_ | refine blk_alloc ?_ _)); refine blk_far ?_ NB542_553.out _; (with_reducible repeat (first | refine blk_drewN ?_ _ | refine blk_drew ?_ | refine blk_alloc ?_ _)); exact BK542.out) hb); replace BK553 := Aside0.mk (blk_below (g := gb553) (o := .cells #[.slice Ao29 t550.length co29] 27 (0, 0)) (by (with_reducible repeat (first | refine blk_drewN ?_ _ | refine blk_drew ?_ | refine blk_alloc ?_ _)); refine blk_put (cs := #[.slice none 0 0]) ?_ 0 _ rfl; (with_reducible repeat (first | refine blk_drewN ?_ _ | refine blk_drew ?_ | refine blk_alloc ?_ _)); exact BK553.out) hb); replace HB := Aside0.mk (below_step bw hb); clear hb ho0; obtain ⟨Ao33, co33, eo33⟩ := Kd.R_slice HO556.out; subst eo33; obtain ⟨Ao34, co34, eo34⟩ := Kd.R_slice HO549.out; subst eo34) | ((with_reducible refine gate_callee (f := 20) rfl ?_); refine gl (some 29) Try.func20 #[.slice Ao33 t554.length co33, .slice Ao34 t547.length co34] ?_; (with_reducible refine (laws_eqIntS.calls k _ _ t554 _ _ t547 true _ ?side1 ?side2 ?side3 ?side4 A12.out).mono ?_); (case side1 => exact co (Kd.R_reads' HO556.out).2.2); (case side2 => exact (Kd.R_reads' HO556.out).2.1); (case side3 => exact co (Kd.R_reads' HO549.out).2.2); (case side4 => exact (Kd.R_reads' HO549.out).2.1); rintro e w' ⟨rfl, ⟨nd, rfl⟩⟩; refine ⟨_, rfl, ?_⟩))
    (try (rw [drewN_self w32]; generalize hq_ : World.drewN w32 _ = w32; have n0_ : Aside0 (Kd.R (Kd.int .i64) 3 w32 w.heap.size (fun k_ => some k_ ≠ (.slice Ao34 t547.length co34 : Value).ownBlock ∧ some k_ ≠ (.slice Ao29 t550.length co29 : Value).ownBlock ∧ some k_ ≠ (.slice Ao33 t554.length co33 : Value).ownBlock) (.slice Ao24 t544.length co24) t544) := ⟨by rw [← hq_]; exact (by (with_reducible repeat (first | apply Kd.R_alloc | apply Kd.R_drewN | apply Kd.R_drew)); exact Kd.R_mono HO546.out (fun _ hk => ⟨hk.1.1.2, ⟨hk.1.2, hk.2⟩⟩))⟩; have n1_ : Aside0 (Kd.R (Kd.int .i64) 3 w32 w.heap.size (fun k_ => some k_ ≠ (.slice Ao24 t544.length co24 : Value).ownBlock ∧ some k_ ≠ (.slice Ao29 t550.length co29 : Value).ownBlock ∧ some k_ ≠ (.slice Ao33 t554.length co33 : Value).ownBlock) (.slice Ao34 t547.length co34) t547) := ⟨by rw [← hq_]; exact (by (with_reducible repeat (first | apply Kd.R_alloc | apply Kd.R_drewN | apply Kd.R_drew)); exact Kd.R_mono HO549.out (fun _ hk => ⟨hk.1.1.2, ⟨hk.1.2, hk.2⟩⟩))⟩; have n2_ : Aside0 (Kd.R (Kd.int .i64) 3 w32 w.heap.size (fun k_ => some k_ ≠ (.slice Ao24 t544.length co24 : Value).ownBlock ∧ some k_ ≠ (.slice Ao34 t547.length co34 : Value).ownBlock ∧ some k_ ≠ (.slice Ao33 t554.length co33 : Value).ownBlock) (.slice Ao29 t550.length co29) t550) := ⟨by rw [← hq_]; exact (by (with_reducible repeat (first | apply Kd.R_alloc | apply Kd.R_drewN | apply Kd.R_drew)); exact Kd.R_mono HO552.out (fun _ hk => ⟨hk.1.1.2, ⟨hk.1.2, hk.2⟩⟩))⟩; have n3_ : Aside0 (Kd.R (Kd.int .i64) 3 w32 w.heap.size (fun k_ => some k_ ≠ (.slice Ao24 t544.length co24 : Value).ownBlock ∧ some k_ ≠ (.slice Ao34 t547.length co34 : Value).ownBlock ∧ some k_ ≠ (.slice Ao29 t550.length co29 : Value).ownBlock) (.slice Ao33 t554.length co33) t554) := ⟨by rw [← hq_]; exact (by (with_reducible repeat (first | apply Kd.R_alloc | apply Kd.R_drewN | apply Kd.R_drew)); exact Kd.R_mono HO556.out (fun _ hk => ⟨hk.1.1.2, ⟨hk.1.2, hk.2⟩⟩))⟩; have n4_ : Aside0 (w32.heap[gb542]? = some (.cells #[.slice A0_0 l0_0.length c0_0] 24 (0, 0))) := ⟨by rw [← hq_]; exact (bo BK542.out)⟩; have n5_ : Aside0 (w32.heap[gb553]? = some (.cells #[.slice Ao29 t550.length co29] 27 (0, 0))) := ⟨by rw [← hq_]; exact (bo BK553.out)⟩; have n6_ : Aside0 (Below w.heap.size w w32) := ⟨by rw [← hq_]; exact bw⟩; clear HO546 HO549 HO552 HO556 BK542 BK553 HB hq_; have HO546 := n0_; have HO549 := n1_; have HO552 := n2_; have HO556 := n3_; have BK542 := n4_; have BK553 := n5_; have HB := n6_; clear n0_ n1_ n2_ n3_ n4_ n5_ n6_))
    replace HO546 := Aside0.mk (Kd.R_drew HO546.out)
    replace HO549 := Aside0.mk (Kd.R_drew HO549.out)
    replace HO552 := Aside0.mk (Kd.R_drew HO552.out)
    replace HO556 := Aside0.mk (Kd.R_drew HO556.out)
    replace BK542 := Aside0.mk (blk_drew BK542.out)
    replace BK553 := Aside0.mk (blk_drew BK553.out)
    replace HB := Aside0.mk (below_drew1 HB.out)
    refine start_ (n := 5) (S := fun w' => w'.cell? ⟨gb553, 0, none⟩ = some (.slice Ao29 t550.length co29) ∧ w'.cell? ⟨gb542, 0, none⟩ = some (.slice A0_0 l0_0.length c0_0)) (ds := []) #[Z,Z,Z,Z,Z] (by kernel_rfl) rfl rfl ⟨(blk_cell BK553.out 0).trans rfl, (blk_cell BK542.out 0).trans rfl⟩ (fun hHeld => ?_)
    generalize w32.drew = w35 at HO546 HO549 HO552 HO556 BK542 BK553 HB hHeld ⊢
    refine take_ (i := 0) (N := some 31) (v := ?_) (a' := ?_) #[Y,Z,Z,Z,Z] rfl rfl (by kernel_rfl) (fun _ _ _ h => h) (Or.inl ⟨by rfl, ?_⟩) hHeld ?_ ?_
    rotate_left
    ·rintro w' ⟨s0, s1⟩
     go_simp
     with_reducible rfl
    rotate_left
    ·simp only [Act.put, qa, qb, qc, i64_w, i32_w]
     rfl
    refine take_ (i := 1) (N := some 32) (v := ?_) (a' := ?_) #[Y,Y,Z,Z,Z] rfl rfl (by kernel_rfl) (fun _ _ _ h => h) (Or.inl ⟨by rfl, ?_⟩) hHeld ?_ ?_
    rotate_left
    ·rintro w' ⟨s0, s1⟩
     go_simp
     with_reducible rfl
    rotate_left
    ·simp only [Act.put, qa, qb, qc, i64_w, i32_w]
     rfl
    refine one_ (i := 2) (N := some 33) #[Y,Y,Y,Z,Z] rfl rfl (by kernel_rfl) (by decide) (fun K hK => ?_)
    refine gm Try.func17 #[.agg #[.slice A0_0 l0_0.length c0_0]] ?_
    with_reducible refine (laws_toSemigroup.calls k _ _ l0_0 t558 _ ?side1 ?side2 A14.out).mono ?_
    (case side1 => exact co (Kd.C_below HR0_0.out HB.out))
    (case side2 => exact HC0_0.out)
    rintro e w36 ⟨v559, rfl, ho0, hb⟩
    refine ⟨_, rfl, ?_⟩
    have HO560 := Aside0.mk (Kd.R_lower (Kd.R_new' (Kd.R_new' (Kd.R_new' (Kd.R_new' ho0 (Kd.R_lt (ro HO546.out))) (Kd.R_lt (ro HO549.out))) (Kd.R_lt (ro HO552.out))) (Kd.R_lt (ro HO556.out))) (below_size bw))
    replace HO546 := Aside0.mk (Kd.R_elder' (ro HO546.out) (Kd.R_base ho0) hb)
    replace HO549 := Aside0.mk (Kd.R_elder' (ro HO549.out) (Kd.R_base ho0) hb)
    replace HO552 := Aside0.mk (Kd.R_elder' (ro HO552.out) (Kd.R_base ho0) hb)
    replace HO556 := Aside0.mk (Kd.R_elder' (ro HO556.out) (Kd.R_base ho0) hb)
    replace BK542 := Aside0.mk (blk_below (g := gb542) (o := .cells #[.slice A0_0 l0_0.length c0_0] 24 (0, 0)) (bo BK542.out) hb)
    replace BK553 := Aside0.mk (blk_below (g := gb553) (o := .cells #[.slice Ao29 t550.length co29] 27 (0, 0)) (bo BK553.out) hb)
    replace HB := Aside0.mk (below_step bw hb)
    clear hb ho0
    obtain ⟨Ao37, co37, eo37⟩ := Kd.R_slice HO560.out
    (first | subst eo37 | (injection eo37 with f1_ f2_ f3_; have f4_ := f1_.symm; have f5_ := f3_.symm; clear f1_ f2_ f3_; subst f4_; subst f5_))
    refine hK.out _ _ ⟨(blk_cell BK553.out 0).trans rfl, (blk_cell BK542.out 0).trans rfl⟩ (fun hHeld => ?_)
    clear hK K
    refine norm_ (a' := ?_) ?_ ?_
    rotate_left
    ·show Act.put _ (some 33) _ = _
     simp only [Act.put, qa, qb, qc, i64_w, i32_w]
     rfl
    refine one_ (i := 3) (N := some 34) #[Y,Y,Y,Y,Z] rfl rfl (by kernel_rfl) (by decide) (fun K hK => ?_)
    refine gm Try.func21 #[.agg #[.slice Ao29 t550.length co29], .agg #[.slice Ao37 t558.length co37]] ?_
    with_reducible refine (laws_eqSemigroup.calls k _ _ t550 _ _ t558 true _ ?side1 ?side2 ?side3 ?side4 A15.out).mono ?_
    (case side1 => exact co (Kd.R_reads' HO552.out).2.2)
    (case side2 => exact (Kd.R_reads' HO552.out).2.1)
    (case side3 => exact co (Kd.R_reads' HO560.out).2.2)
    (case side4 => exact (Kd.R_reads' HO560.out).2.1)
    rintro e w38 ⟨rfl, hb⟩
    refine ⟨_, rfl, ?_⟩
    replace HO546 := Aside0.mk (Kd.R_below (ro HO546.out) hb)
    replace HO549 := Aside0.mk (Kd.R_below (ro HO549.out) hb)
    replace HO552 := Aside0.mk (Kd.R_below (ro HO552.out) hb)
    replace HO556 := Aside0.mk (Kd.R_below (ro HO556.out) hb)
    replace HO560 := Aside0.mk (Kd.R_below (ro HO560.out) hb)
    replace BK542 := Aside0.mk (blk_below (g := gb542) (o := .cells #[.slice A0_0 l0_0.length c0_0] 24 (0, 0)) (bo BK542.out) hb)
    replace BK553 := Aside0.mk (blk_below (g := gb553) (o := .cells #[.slice Ao29 t550.length co29] 27 (0, 0)) (bo BK553.out) hb)
    replace HB := Aside0.mk (below_step bw hb)
    clear hb
    refine hK.out _ _ ⟨(blk_cell BK553.out 0).trans rfl, (blk_cell BK542.out 0).trans rfl⟩ (fun hHeld => ?_)
    clear hK K
    refine norm_ (a' := ?_) ?_ ?_
    rotate_left
    ·show Act.put _ (some 34) _ = _
     simp only [Act.put, qa, qb, qc, i64_w, i32_w]
     rfl
    refine pure_ (i := 4) (N := some 35) (v := ?_) (a' := ?_) #[Y,Y,Y,Y,Y] rfl rfl (by kernel_rfl) (fun _ _ _ h => h) (Or.inl ⟨by rfl, ?_⟩) ?_ ?_
    rotate_left
    ·intro w'
     go_simp
     with_reducible rfl
    rotate_left
    ·simp only [Act.put, qa, qb, qc, i64_w, i32_w]
     rfl
    refine done_ (by kernel_rfl) ?_
    have hcz39_0 := bc BK553 0 (.slice Ao29 t550.length co29)
    have hfz39_0 := blk_frozen BK553.out 0
    go_upto_region 14 with (first | ((with_reducible refine gate_callee (f := 22) rfl ?_); refine gl (some 38) Try.func22 #[.agg #[.slice Ao29 t550.length co29], .int .i64 1] ?_; (with_reducible refine (laws_markSemigroup.calls k (fun k_ => some k_ = (.slice Ao29 t550.length co29 : Value).ownBlock) (.slice Ao29 t550.length co29) t550 1 t562 t563 w _ ?side1 ?side2 A17.out).mono ?_); (case side1 => repeat (first | (with_reducible first | exact HB.out | apply below_alloc | apply pw_below_drewN | apply below_drew1 | refine below_set ?_ GE542.out | refine below_set ?_ GE553.out) | exact HB.out)); (case side2 => exact Kd.R_tight rfl HO552.out); rintro e w40 ⟨rfl, hy0, hb, hkp⟩; refine ⟨_, rfl, ?_⟩; replace BK542 := Aside0.mk (blk_kept (bo BK542.out) hkp (fun hs_ => (fun e_ => (Kd.R_ne HO552.out BK542.out (by decide)) e_) hs_)); replace HO546 := Aside0.mk (Kd.R_mono (ok' := fun k_ => some k_ ≠ (.slice Ao34 t547.length co34 : Value).ownBlock ∧ some k_ ≠ (.slice Ao29 t550.length co29 : Value).ownBlock ∧ some k_ ≠ (.slice Ao33 t554.length co33 : Value).ownBlock ∧ some k_ ≠ (.slice Ao37 t558.length co37 : Value).ownBlock) (Kd.R_keptB (HO546.out) hkp (fun k_ hk_ hs_ => by first | exact (hk_.1.1.2) hs_ | simp_all)) (fun k_ hk_ => by first | exact ⟨hk_.1.1.1.1.2, hk_.1.1.1.2, hk_.1.1.2, hk_.1.2⟩ | simp_all)); replace HO549 := Aside0.mk (Kd.R_mono (ok' := fun k_ => some k_ ≠ (.slice Ao24 t544.length co24 : Value).ownBlock ∧ some k_ ≠ (.slice Ao29 t550.length co29 : Value).ownBlock ∧ some k_ ≠ (.slice Ao33 t554.length co33 : Value).ownBlock ∧ some k_ ≠ (.slice Ao37 t558.length co37 : Value).ownBlock) (Kd.R_keptB (HO549.out) hkp (fun k_ hk_ hs_ => by first | exact (hk_.1.1.2) hs_ | simp_all)) (fun k_ hk_ => by first | exact ⟨hk_.1.1.1.1.2, hk_.1.1.1.2, hk_.1.1.2, hk_.1.2⟩ | simp_all)); replace BK553 := Aside0.mk (blk_kept (bo BK553.out) hkp (fun hs_ => (fun e_ => (Kd.R_ne HO552.out BK553.out (by decide)) e_) hs_)); replace HO552 := Aside0.mk (Kd.R_reok rfl hy0 (fun k_ e_ => HO552.out.1 k_ e_)); replace HO556 := Aside0.mk (Kd.R_mono (ok' := fun k_ => some k_ ≠ (.slice Ao24 t544.length co24 : Value).ownBlock ∧ some k_ ≠ (.slice Ao34 t547.length co34 : Value).ownBlock ∧ some k_ ≠ (.slice Ao29 t550.length co29 : Value).ownBlock ∧ some k_ ≠ (.slice Ao37 t558.length co37 : Value).ownBlock) (Kd.R_keptB (HO556.out) hkp (fun k_ hk_ hs_ => by first | exact (hk_.1.2) hs_ | simp_all)) (fun k_ hk_ => by first | exact ⟨hk_.1.1.1.1.2, hk_.1.1.1.2, hk_.1.1.2, hk_.1.2⟩ | simp_all)); replace HO560 := Aside0.mk (Kd.R_mono (ok' := fun k_ => some k_ ≠ (.slice Ao24 t544.length co24 : Value).ownBlock ∧ some k_ ≠ (.slice Ao34 t547.length co34 : Value).ownBlock ∧ some k_ ≠ (.slice Ao29 t550.length co29 : Value).ownBlock ∧ some k_ ≠ (.slice Ao33 t554.length co33 : Value).ownBlock) (Kd.R_keptB (HO560.out) hkp (fun k_ hk_ hs_ => by first | exact (hk_.1.2) hs_ | simp_all)) (fun k_ hk_ => by first | exact ⟨hk_.1.1.1.1.2, hk_.1.1.1.2, hk_.1.1.2, hk_.1.2⟩ | simp_all)); replace HB := Aside0.mk (hb); clear hb hkp hy0))
    (try simp only [Act.put, List.setIfInBounds_toArray, List.set_cons_zero, List.set_cons_succ])
    go_cut [46] (fun v46 wc => ∃ (kq : Nat) (x46_17 : Bool), v46 = .bool x46_17 ∧ Aside0 (laws_FnExactLengthsOf.j0 kq a1 t547 t554 x46_17 l0_0 = some true) ∧ Aside0 (kq ≤ k) ∧ Aside0 (Kd.R (Kd.int .i64) 3 wc w.heap.size (fun k_ => some k_ ≠ ((.slice Ao33 t554.length co33) : Value).ownBlock ∧ some k_ ≠ ((.slice Ao29 t550.length co29) : Value).ownBlock) (.slice Ao34 t547.length co34) t547) ∧ Aside0 (Kd.R (Kd.int .i64) 3 wc w.heap.size (fun k_ => some k_ ≠ ((.slice Ao34 t547.length co34) : Value).ownBlock ∧ some k_ ≠ ((.slice Ao29 t550.length co29) : Value).ownBlock) (.slice Ao33 t554.length co33) t554) ∧ Aside0 (Kd.R (Kd.int .i64) 3 wc w.heap.size (fun k_ => some k_ ≠ ((.slice Ao34 t547.length co34) : Value).ownBlock ∧ some k_ ≠ ((.slice Ao33 t554.length co33) : Value).ownBlock) (.slice Ao29 t550.length co29) t563) ∧ Aside0 (wc.heap[gb542]? = some (.cells #[(.slice A0_0 l0_0.length c0_0)] 24 (0, 0))) ∧ Aside0 (wc.heap[gb553]? = some (.cells #[(.slice Ao29 t550.length co29)] 27 (0, 0))) ∧ Aside0 (Below w.heap.size w wc))
    case first =>
     have H := HC18.out
     clear HC18
     replace H := gi H; obtain ⟨c41b0, H⟩ | ⟨c41b0, H⟩ := H
     ·(first | rw [c41b0] | (simp only [i64_w, i32_w]; rw [c41b0]) | skip)
      have H' := Aside0.mk H
      clear H
      go_wp2
      go_meet
      case rel => exact ⟨_, (true), rr, H', ⟨om⟩, ⟨by (with_reducible repeat (first | apply Kd.R_alloc | apply Kd.R_drewN | apply Kd.R_drew)); exact Kd.R_mono HO549.out (fun _ hk => by first | exact ⟨hk.2.2.1, hk.2.1⟩ | simp_all)⟩, ⟨by (with_reducible repeat (first | apply Kd.R_alloc | apply Kd.R_drewN | apply Kd.R_drew)); exact Kd.R_mono HO556.out (fun _ hk => by first | exact ⟨hk.2.1, hk.2.2.1⟩ | simp_all)⟩, ⟨by (with_reducible repeat (first | apply Kd.R_alloc | apply Kd.R_drewN | apply Kd.R_drew)); exact Kd.R_mono HO552.out (fun _ hk => by first | exact ⟨hk.1.1.2, hk.1.2⟩ | simp_all)⟩, ⟨bo BK542.out⟩, ⟨bo BK553.out⟩, ⟨bw⟩⟩
     ·(first | rw [c41b0] | (simp only [i64_w, i32_w]; rw [c41b0]) | skip)
      replace H := ga H; obtain ⟨t564, A42, H⟩ := H
      have H' := Aside0.mk H
      clear H
      go_wp2_with (first | (go_at_call 20; (with_reducible refine (laws_eqIntS.calls k _ _ t554 _ _ t547 t564 _ ?side1 ?side2 ?side3 ?side4 A42.out).mono ?_); (case side1 => exact co (Kd.R_reads' HO556.out).2.2); (case side2 => exact (Kd.R_reads' HO556.out).2.1); (case side3 => exact co (Kd.R_reads' HO549.out).2.2); (case side4 => exact (Kd.R_reads' HO549.out).2.1); rintro e w' ⟨rfl, ⟨nd, rfl⟩⟩))
      go_meet
      case rel => exact ⟨_, (!t564), rr, H', ⟨om⟩, ⟨by (with_reducible repeat (first | apply Kd.R_alloc | apply Kd.R_drewN | apply Kd.R_drew)); exact Kd.R_mono HO549.out (fun _ hk => by first | exact ⟨hk.2.2.1, hk.2.1⟩ | simp_all)⟩, ⟨by (with_reducible repeat (first | apply Kd.R_alloc | apply Kd.R_drewN | apply Kd.R_drew)); exact Kd.R_mono HO556.out (fun _ hk => by first | exact ⟨hk.2.1, hk.2.2.1⟩ | simp_all)⟩, ⟨by (with_reducible repeat (first | apply Kd.R_alloc | apply Kd.R_drewN | apply Kd.R_drew)); exact Kd.R_mono HO552.out (fun _ hk => by first | exact ⟨hk.1.1.2, hk.1.2⟩ | simp_all)⟩, ⟨bo BK542.out⟩, ⟨bo BK553.out⟩, ⟨bw⟩⟩
    case rest =>
     clear HC18
     try clear c4b0; try clear c41b0; try clear hcz20_0; try clear hcz22_0; try clear hcz26_0; try clear hcz31_0; try clear hcz39_0; try clear hcz6_0; try clear hfz20_0; try clear hfz22_0; try clear hfz26_0; try clear hfz31_0; try clear hfz39_0; try clear hfz6_0
     obtain ⟨kq, x46_17, rfl, HA, HJ17, HO_6, HO_8, HO_554000, BK542, BK553, HB⟩ := hcut
     have hl554000_17 := (Kd.R_reads' HO_554000.out).1
     rw [hl554000_17] at HO_554000
     (try simp only [hl554000_17])
     (try simp only [hl554000_17] at BK542)
     (try simp only [hl554000_17] at BK553)
     (try simp only [hl554000_17] at HO_6)
     (try simp only [hl554000_17] at HO_8)
     cases kq with
     | zero => exact absurd HA.out (by simp [laws_FnExactLengthsOf.j0])
     | succ kj17 =>
      have H := HA.out
      clear HA
      simp only [laws_FnExactLengthsOf.j0] at H
      replace H := gb H; obtain ⟨rfl, H⟩ | ⟨rfl, H⟩ := H
      ·exact absurd (Option.some.inj H) (by decide)
      ·replace H := ga H; obtain ⟨⟨t565, t566⟩, A44, H⟩ := H
       replace H : ((laws_heldIntS.f kj17 t566 1).bind fun t567 => (if t567 < 0 then (some false) else (if t567 = t565 then ((laws_toSemigroup.f kj17 l0_0).bind fun t568 => ((impl_LengthsOf.f kj17 t568 a1).bind fun t571 => ((laws_eqIntS.f kj17 t571 t547).bind fun t574 => (if t574 = true then ((laws_heldIntS.f kj17 t566 1).bind fun t575 => (if t575 < 0 then (some false) else (if t575 = t565 then (some true) else (some false)))) else (some false))))) else (some false)))) = some true := H
       replace H := ga H; obtain ⟨t567, A45, H⟩ := H
       replace H := gi H; obtain ⟨c46b0, H⟩ | ⟨c46b0, H⟩ := H
       ·exact absurd (Option.some.inj H) (by decide)
       ·by_cases c48 : t567 = t565
        ·rw [if_pos c48] at H
         have c48b0 : (t567 == t565) = true := beq_iff_eq.mpr c48
         have c48b1 : (t567 != t565) = false := bne_eq_false_iff_eq.mpr c48
         clear c48
         replace H := ga H; obtain ⟨t568, A49, H⟩ := H
         replace H := ga H; obtain ⟨t571, A50, H⟩ := H
         replace H := ga H; obtain ⟨t574, A51, H⟩ := H
         replace H := gb H; obtain ⟨rfl, H⟩ | ⟨rfl, H⟩ := H
         ·replace H := ga H; obtain ⟨t575, A53, H⟩ := H
          replace H := gi H; obtain ⟨c54b0, H⟩ | ⟨c54b0, H⟩ := H
          ·exact absurd (Option.some.inj H) (by decide)
          ·by_cases c62 : t575 = t565
           ·rw [if_pos c62] at H
            have c62b0 : (t575 == t565) = true := beq_iff_eq.mpr c62
            have c62b1 : (t575 != t565) = false := bne_eq_false_iff_eq.mpr c62
            clear c62
            skip
            go_wp2_with (first | ((with_reducible refine gate_callee (f := 23) rfl ?_); refine gl (some 49) Try.func23 #[.slice Ao33 t554.length co33, .int .i64 1] ?_; (with_reducible refine (laws_markIntS.calls kj17 (fun k_ => some k_ = (.slice Ao33 t554.length co33 : Value).ownBlock) (.slice Ao33 t554.length co33) t554 1 t565 t566 w _ ?side1 ?side2 A44.out).mono ?_); (case side1 => repeat (first | (with_reducible first | exact HB.out | apply below_alloc | apply pw_below_drewN | apply below_drew1 | refine below_set ?_ GE542.out | refine below_set ?_ GE553.out) | exact HB.out)); (case side2 => exact Kd.R_tight rfl HO_8.out); rintro e w63 ⟨rfl, hy0, hb, hkp⟩; refine ⟨_, rfl, ?_⟩; replace HO_6 := Aside0.mk (Kd.R_mono (ok' := fun k_ => some k_ ≠ (.slice Ao33 t554.length co33 : Value).ownBlock ∧ some k_ ≠ (.slice Ao29 t563.length co29 : Value).ownBlock) (Kd.R_keptB (HO_6.out) hkp (fun k_ hk_ hs_ => by first | exact (hk_.1) hs_ | simp_all)) (fun k_ hk_ => by first | exact ⟨hk_.1.1, hk_.1.2⟩ | simp_all)); replace HO_554000 := Aside0.mk (Kd.R_mono (ok' := fun k_ => some k_ ≠ (.slice Ao34 t547.length co34 : Value).ownBlock ∧ some k_ ≠ (.slice Ao33 t554.length co33 : Value).ownBlock) (Kd.R_keptB (HO_554000.out) hkp (fun k_ hk_ hs_ => by first | exact (hk_.2) hs_ | simp_all)) (fun k_ hk_ => by first | exact ⟨hk_.1.1, hk_.1.2⟩ | simp_all)); replace BK542 := Aside0.mk (blk_kept (bo BK542.out) hkp (fun hs_ => (fun e_ => (Kd.R_ne HO_8.out BK542.out (by decide)) e_) hs_)); replace BK553 := Aside0.mk (blk_kept (bo BK553.out) hkp (fun hs_ => (fun e_ => (Kd.R_ne HO_8.out BK553.out (by decide)) e_) hs_)); replace HO_8 := Aside0.mk (Kd.R_reok rfl hy0 (fun k_ e_ => HO_8.out.1 k_ e_)); replace HB := Aside0.mk (hb); clear hb hkp hy0) | ((with_reducible refine gate_callee (f := 24) rfl ?_); refine goesL_ (some 52) rfl rfl Try.func24 (by kernel_rfl) rfl #[.slice Ao33 t566.length co33, .int .i64 1] rfl (by (try simp only [List.map_toArray, List.map_cons, List.map_nil]); first | done | (rw [show t566.length = t554.length from (Kd.R_reads' HO_8.out).1.symm] <;> rfl) | rfl | (simp only [List.length_drop, List.length_take]; rfl)) ?_; (with_reducible refine (laws_heldIntS.calls kj17 _ _ t566 1 t567 _ ?side1 ?side2 A45.out).mono ?_); (case side1 => exact co (Kd.R_reads' HO_8.out).2.2); (case side2 => rw [show t566.length = t554.length from (Kd.R_reads' HO_8.out).1.symm]; exact (Kd.R_reads' HO_8.out).2.1); rintro e w' ⟨rfl, ⟨nd, rfl⟩⟩; refine ⟨_, rfl, ?_⟩; have hnb64 := NB542_553.out; have hnc64 := NB553_542.out; have hcz65_0 := bc BK542 0 (.slice A0_0 l0_0.length c0_0); have hfz65_0 := blk_frozen BK542.out 0) | ((with_reducible refine gate_callee (f := 17) rfl ?_); refine gl (some 59) Try.func17 #[.agg #[.slice A0_0 l0_0.length c0_0]] ?_; (with_reducible refine (laws_toSemigroup.calls kj17 _ _ l0_0 t568 _ ?side1 ?side2 A49.out).mono ?_); (case side1 => exact co (Kd.C_below HR0_0.out bw)); (case side2 => exact HC0_0.out); rintro e w66 ⟨v569, rfl, ho0, hb⟩; refine ⟨_, rfl, ?_⟩; have HO570 := Aside0.mk (Kd.R_lower (Kd.R_new' (Kd.R_new' (Kd.R_new' ho0 (Kd.R_lt (ro HO_6.out))) (Kd.R_lt (ro HO_8.out))) (Kd.R_lt (ro HO_554000.out))) (below_size bw)); replace HO_6 := Aside0.mk (Kd.R_elder' (ro HO_6.out) (Kd.R_base ho0) hb); replace HO_8 := Aside0.mk (Kd.R_elder' (ro HO_8.out) (Kd.R_base ho0) hb); replace HO_554000 := Aside0.mk (Kd.R_elder' (ro HO_554000.out) (Kd.R_base ho0) hb); replace BK542 := Aside0.mk (blk_below (g := gb542) (o := .cells #[.slice A0_0 l0_0.length c0_0] 24 (0, 0)) (bo BK542.out) hb); replace BK553 := Aside0.mk (blk_below (g := gb553) (o := .cells #[.slice Ao29 t563.length co29] 27 (0, 0)) (bo BK553.out) hb); replace HB := Aside0.mk (below_step bw hb); clear hb ho0; obtain ⟨Ao67, co67, eo67⟩ := Kd.R_slice HO570.out; subst eo67) | ((with_reducible refine gate_callee (f := 28) rfl ?_); refine gl (some 61) Try.func28 #[.agg #[.slice Ao67 t568.length co67], .int .i64 a1] ?_; (with_reducible refine (impl_LengthsOf.calls kj17 _ _ t568 a1 t571 _ ?side1 ?side2 A50.out).mono ?_); (case side1 => exact co (Kd.R_reads' HO570.out).2.2); (case side2 => exact (Kd.R_reads' HO570.out).2.1); rintro e w68 ⟨v572, rfl, ho0, hb⟩; refine ⟨_, rfl, ?_⟩; have HO573 := Aside0.mk (Kd.R_lower (Kd.R_new' (Kd.R_new' (Kd.R_new' (Kd.R_new' ho0 (Kd.R_lt (ro HO_6.out))) (Kd.R_lt (ro HO_8.out))) (Kd.R_lt (ro HO_554000.out))) (Kd.R_lt (ro HO570.out))) (below_size bw)); replace HO_6 := Aside0.mk (Kd.R_elder' (ro HO_6.out) (Kd.R_base ho0) hb); replace HO_8 := Aside0.mk (Kd.R_elder' (ro HO_8.out) (Kd.R_base ho0) hb); replace HO_554000 := Aside0.mk (Kd.R_elder' (ro HO_554000.out) (Kd.R_base ho0) hb); replace HO570 := Aside0.mk (Kd.R_elder' (ro HO570.out) (Kd.R_base ho0) hb); replace BK542 := Aside0.mk (blk_below (g := gb542) (o := .cells #[.slice A0_0 l0_0.length c0_0] 24 (0, 0)) (bo BK542.out) hb); replace BK553 := Aside0.mk (blk_below (g := gb553) (o := .cells #[.slice Ao29 t563.length co29] 27 (0, 0)) (bo BK553.out) hb); replace HB := Aside0.mk (below_step bw hb); clear hb ho0; obtain ⟨Ao69, co69, eo69⟩ := Kd.R_slice HO573.out; subst eo69) | ((with_reducible refine gate_callee (f := 20) rfl ?_); refine gl (some 64) Try.func20 #[.slice Ao69 t571.length co69, .slice Ao34 t547.length co34] ?_; (with_reducible refine (laws_eqIntS.calls kj17 _ _ t571 _ _ t547 true _ ?side1 ?side2 ?side3 ?side4 A51.out).mono ?_); (case side1 => exact co (Kd.R_reads' HO573.out).2.2); (case side2 => exact (Kd.R_reads' HO573.out).2.1); (case side3 => exact co (Kd.R_reads' HO_6.out).2.2); (case side4 => exact (Kd.R_reads' HO_6.out).2.1); rintro e w' ⟨rfl, ⟨nd, rfl⟩⟩; refine ⟨_, rfl, ?_⟩) | ((with_reducible refine gate_callee (f := 24) rfl ?_); refine goesL_ (some 68) rfl rfl Try.func24 (by kernel_rfl) rfl #[.slice Ao33 t566.length co33, .int .i64 1] rfl (by (try simp only [List.map_toArray, List.map_cons, List.map_nil]); first | done | (rw [show t566.length = t554.length from (Kd.R_reads' HO_8.out).1.symm] <;> rfl) | rfl | (simp only [List.length_drop, List.length_take]; rfl)) ?_; (with_reducible refine (laws_heldIntS.calls kj17 _ _ t566 1 t575 _ ?side1 ?side2 A53.out).mono ?_); (case side1 => exact co (Kd.R_reads' HO_8.out).2.2); (case side2 => rw [show t566.length = t554.length from (Kd.R_reads' HO_8.out).1.symm]; exact (Kd.R_reads' HO_8.out).2.1); rintro e w' ⟨rfl, ⟨nd, rfl⟩⟩; refine ⟨_, rfl, ?_⟩))
            go_ret
            exact ⟨re, bw⟩
           ·rw [if_neg c62] at H
            have c62b0 : (t575 == t565) = false := beq_eq_false_iff_ne.mpr c62
            have c62b1 : (t575 != t565) = true := bne_iff_ne.mpr c62
            exact absurd (Option.some.inj H) (by decide)
         ·exact absurd (Option.some.inj H) (by decide)
        ·rw [if_neg c48] at H
         have c48b0 : (t567 == t565) = false := beq_eq_false_iff_ne.mpr c48
         have c48b1 : (t567 != t565) = true := bne_iff_ne.mpr c48
         exact absurd (Option.some.inj H) (by decide)
   ·exact absurd (Option.some.inj H) (by decide)
  ·exact absurd (Option.some.inj H) (by decide)
end Go.Proofs.Ytiejmnnnjmmifaa.C
