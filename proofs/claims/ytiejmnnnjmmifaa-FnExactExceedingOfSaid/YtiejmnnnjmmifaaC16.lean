/- Contracts of functions of the program: laws_FnExactExceedingOf. -/
import Derived.Test.YtiejmnnnjmmifaaC0
import Derived.Test.YtiejmnnnjmmifaaC1
import Derived.Test.YtiejmnnnjmmifaaC4
import Derived.Test.YtiejmnnnjmmifaaC6
import Derived.Test.YtiejmnnnjmmifaaC15
namespace Go.Proofs.Ytiejmnnnjmmifaa.C
open Go.RowKit Go.Proofs.YtiejmnnnjmmifaaW.PrintWords Go.Proofs.YtiejmnnnjmmifaaW.PrintLast Go.Proofs.YtiejmnnnjmmifaaW.PrintMore
attribute [local go_sem] max2_int min2_int max_two min_two max_three min_three max_four min_four
set_option linter.unusedVariables false
set_option linter.unusedSimpArgs false

/-! ### laws_FnExactExceedingOf: function 10 -/
def laws_FnExactExceedingOf.j0 : Nat → Int → List Int → List Int → Bool → List Int → Option (Bool)
 | 0, _, _, _, _, _ => none
 | k + 1, x1, x6, x8, x46, x817000 => if x46 = true then (some false) else ((laws_markIntS.f k x8 1).bind fun bt839 => ((laws_heldIntS.f k bt839.2 1).bind fun t841 => (if t841 < 0 then (some false) else (if t841 = bt839.1 then ((laws_toSemigroup.f k x817000).bind fun t842 => ((impl_ExceedingOf.f k t842 x1).bind fun t845 => ((laws_eqIntS.f k t845 x6).bind fun t848 => (if t848 = true then ((laws_heldIntS.f k bt839.2 1).bind fun t849 => (if t849 < 0 then (some false) else (if t849 = bt839.1 then (some true) else (some false)))) else (some false))))) else (some false)))))
def laws_FnExactExceedingOf.f (k : Nat) (l0_0 : List Int) (a1 : Int) : Option (Bool) := (laws_szSemigroup.f l0_0 1048576).bind fun t817 => (if t817 < 0 then (some true) else ((laws_toSemigroup.f k l0_0).bind fun t818 => ((spec_ExceedingOf.f k t818 a1).bind fun t821 => ((laws_toSemigroup.f k l0_0).bind fun t824 => ((impl_ExceedingOf.f k t824 a1).bind fun t828 => ((laws_eqIntS.f k t828 t821).bind fun t831 => (if t831 = true then ((laws_toSemigroup.f k l0_0).bind fun t832 => ((laws_eqSemigroup.f k t824 t832).bind fun t835 => (if t835 = true then ((laws_markSemigroup.f k t824 1).bind fun bt836 => (if bt836.1 < 0 then (laws_FnExactExceedingOf.j0 k a1 t821 t828 true l0_0) else ((laws_eqIntS.f k t828 t821).bind fun t838 => (laws_FnExactExceedingOf.j0 k a1 t821 t828 (!t838) l0_0)))) else (some false)))) else (some false))))))))
set_option maxHeartbeats 8000000 in
set_option maxRecDepth 100000 in
theorem laws_FnExactExceedingOf.calls (k : Nat) (A0_0 : Option Addr) (c0_0 : Nat) (l0_0 : List Int) (a1 : Int) (w : World) (hr0_0 : Kd.C (Kd.int .i64) w A0_0 l0_0.length l0_0) (hc0_0 : l0_0.length ≤ c0_0) (h : laws_FnExactExceedingOf.f k l0_0 a1 = some true) :
  Calls Try.prog 10 #[.agg #[.slice A0_0 l0_0.length c0_0], .int .i64 a1] w fun e w' => e = .returned (.bool true) ∧ Below w.heap.size w w' := by
 have hu24 := Try.underlying24
 have hu27 := Try.underlying27
 have HR0_0 := Aside0.mk hr0_0
 have HC0_0 := Aside0.mk hc0_0
 clear hr0_0 hc0_0
 have HB := Aside0.mk (Below.refl w.heap.size w)
 have H : ((laws_szSemigroup.f l0_0 1048576).bind fun t817 => (if t817 < 0 then (some true) else ((laws_toSemigroup.f k l0_0).bind fun t818 => ((spec_ExceedingOf.f k t818 a1).bind fun t821 => ((laws_toSemigroup.f k l0_0).bind fun t824 => ((impl_ExceedingOf.f k t824 a1).bind fun t828 => ((laws_eqIntS.f k t828 t821).bind fun t831 => (if t831 = true then ((laws_toSemigroup.f k l0_0).bind fun t832 => ((laws_eqSemigroup.f k t824 t832).bind fun t835 => (if t835 = true then ((laws_markSemigroup.f k t824 1).bind fun bt836 => (if bt836.1 < 0 then (laws_FnExactExceedingOf.j0 k a1 t821 t828 true l0_0) else ((laws_eqIntS.f k t828 t821).bind fun t838 => (laws_FnExactExceedingOf.j0 k a1 t821 t828 (!t838) l0_0)))) else (some false)))) else (some false))))))))) = some true := h
 clear h
 replace H := ga H; obtain ⟨t817, A3, H⟩ := H
 replace H := gi H; obtain ⟨c4b0, H⟩ | ⟨c4b0, H⟩ := H
 ·skip
  go_enter Try.func10, Try.ntmps10
  go_wp2_with (first | ((with_reducible refine gate_dst (N := 2) rfl ?_); refine bx 2 #[.slice A0_0 l0_0.length c0_0] 24 ?_; intro gb816 hg w5 hbox hb; have BK816 := Aside0.mk (hbox); have GW816 := Aside0.mk (gs hg : w.heap.size ≤ gb816); have GE816 := Aside0.mk (gs hg : w.heap.size ≤ gb816); replace HB := Aside0.mk (below_step bw hb); clear hb hbox hg; have hcz6_0 := bc BK816 0 (.slice A0_0 l0_0.length c0_0); have hfz6_0 := blk_frozen BK816.out 0) | ((with_reducible refine gate_callee (f := 15) rfl ?_); refine gl (some 15) Try.func15 #[.agg #[.slice A0_0 l0_0.length c0_0], .int .i64 1048576] ?_; (with_reducible refine (laws_szSemigroup.calls _ _ l0_0 1048576 t817 _ ?side1 ?side2 A3.out).mono ?_); (case side1 => exact co (Kd.C_below HR0_0.out HB.out)); (case side2 => exact HC0_0.out); rintro e w7 ⟨rfl, hb⟩; refine ⟨_, rfl, ?_⟩; replace BK816 := Aside0.mk (blk_below (g := gb816) (o := .cells #[.slice A0_0 l0_0.length c0_0] 24 (0, 0)) (bo BK816.out) hb); replace HB := Aside0.mk (below_step bw hb); clear hb))
  go_ret
  exact ⟨re, bw⟩
 ·replace H := ga H; obtain ⟨t818, A8, H⟩ := H
  replace H := ga H; obtain ⟨t821, A9, H⟩ := H
  replace H := ga H; obtain ⟨t824, A10, H⟩ := H
  replace H := ga H; obtain ⟨t828, A11, H⟩ := H
  replace H := ga H; obtain ⟨t831, A12, H⟩ := H
  replace H := gb H; obtain ⟨rfl, H⟩ | ⟨rfl, H⟩ := H
  ·replace H := ga H; obtain ⟨t832, A14, H⟩ := H
   replace H := ga H; obtain ⟨t835, A15, H⟩ := H
   replace H := gb H; obtain ⟨rfl, H⟩ | ⟨rfl, H⟩ := H
   ·replace H := ga H; obtain ⟨⟨t836, t837⟩, A17, H⟩ := H
    replace H : (if t836 < 0 then (laws_FnExactExceedingOf.j0 k a1 t821 t828 true l0_0) else ((laws_eqIntS.f k t828 t821).bind fun t838 => (laws_FnExactExceedingOf.j0 k a1 t821 t828 (!t838) l0_0))) = some true := H
    have HC18 := Aside0.mk H
    clear H
    go_enter Try.func10, Try.ntmps10
    try go_wp2_with (first | ((with_reducible refine gate_dst (N := 2) rfl ?_); refine bx 2 #[.slice A0_0 l0_0.length c0_0] 24 ?_; intro gb816 hg w19 hbox hb; have BK816 := Aside0.mk (hbox); have GW816 := Aside0.mk (gs hg : w.heap.size ≤ gb816); have GE816 := Aside0.mk (gs hg : w.heap.size ≤ gb816); replace HB := Aside0.mk (below_step bw hb); clear hb hbox hg; have hcz20_0 := bc BK816 0 (.slice A0_0 l0_0.length c0_0); have hfz20_0 := blk_frozen BK816.out 0) | ((with_reducible refine gate_callee (f := 15) rfl ?_); refine gl (some 15) Try.func15 #[.agg #[.slice A0_0 l0_0.length c0_0], .int .i64 1048576] ?_; (with_reducible refine (laws_szSemigroup.calls _ _ l0_0 1048576 t817 _ ?side1 ?side2 A3.out).mono ?_); (case side1 => exact co (Kd.C_below HR0_0.out HB.out)); (case side2 => exact HC0_0.out); rintro e w21 ⟨rfl, hb⟩; refine ⟨_, rfl, ?_⟩; replace BK816 := Aside0.mk (blk_below (g := gb816) (o := .cells #[.slice A0_0 l0_0.length c0_0] 24 (0, 0)) (bo BK816.out) hb); replace HB := Aside0.mk (below_step bw hb); clear hb; have hcz22_0 := bc BK816 0 (.slice A0_0 l0_0.length c0_0); have hfz22_0 := blk_frozen BK816.out 0) | ((with_reducible refine gate_callee (f := 17) rfl ?_); refine gl (some 19) Try.func17 #[.agg #[.slice A0_0 l0_0.length c0_0]] ?_; (with_reducible refine (laws_toSemigroup.calls k _ _ l0_0 t818 _ ?side1 ?side2 A8.out).mono ?_); (case side1 => exact co (Kd.C_below HR0_0.out HB.out)); (case side2 => exact HC0_0.out); rintro e w23 ⟨v819, rfl, ho0, hb⟩; refine ⟨_, rfl, ?_⟩; have HO820 := Aside0.mk (Kd.R_lower ho0 (below_size bw)); replace BK816 := Aside0.mk (blk_below (g := gb816) (o := .cells #[.slice A0_0 l0_0.length c0_0] 24 (0, 0)) (bo BK816.out) hb); replace HB := Aside0.mk (below_step bw hb); clear hb ho0; obtain ⟨Ao24, co24, eo24⟩ := Kd.R_slice HO820.out; subst eo24) | ((with_reducible refine gate_callee (f := 37) rfl ?_); refine gl (some 21) Try.func37 #[.agg #[.slice Ao24 t818.length co24], .int .i64 a1] ?_; (with_reducible refine (spec_ExceedingOf.calls k _ _ t818 a1 t821 _ ?side1 ?side2 A9.out).mono ?_); (case side1 => exact co (Kd.R_reads' HO820.out).2.2); (case side2 => exact (Kd.R_reads' HO820.out).2.1); rintro e w25 ⟨v822, rfl, ho0, hb⟩; refine ⟨_, rfl, ?_⟩; have HO823 := Aside0.mk (Kd.R_lower (Kd.R_new' ho0 (Kd.R_lt (ro HO820.out))) (below_size bw)); replace HO820 := Aside0.mk (Kd.R_elder' (ro HO820.out) (Kd.R_base ho0) hb); replace BK816 := Aside0.mk (blk_below (g := gb816) (o := .cells #[.slice A0_0 l0_0.length c0_0] 24 (0, 0)) (bo BK816.out) hb); replace HB := Aside0.mk (below_step bw hb); clear hb ho0; have hcz26_0 := bc BK816 0 (.slice A0_0 l0_0.length c0_0); have hfz26_0 := blk_frozen BK816.out 0) | ((with_reducible refine gate_callee (f := 17) rfl ?_); refine gl (some 23) Try.func17 #[.agg #[.slice A0_0 l0_0.length c0_0]] ?_; (with_reducible refine (laws_toSemigroup.calls k _ _ l0_0 t824 _ ?side1 ?side2 A10.out).mono ?_); (case side1 => exact co (Kd.C_below HR0_0.out HB.out)); (case side2 => exact HC0_0.out); rintro e w27 ⟨v825, rfl, ho0, hb⟩; refine ⟨_, rfl, ?_⟩; have HO826 := Aside0.mk (Kd.R_lower (Kd.R_new' (Kd.R_new' ho0 (Kd.R_lt (ro HO820.out))) (Kd.R_lt (ro HO823.out))) (below_size bw)); replace HO820 := Aside0.mk (Kd.R_elder' (ro HO820.out) (Kd.R_base ho0) hb); replace HO823 := Aside0.mk (Kd.R_elder' (ro HO823.out) (Kd.R_base ho0) hb); replace BK816 := Aside0.mk (blk_below (g := gb816) (o := .cells #[.slice A0_0 l0_0.length c0_0] 24 (0, 0)) (bo BK816.out) hb); replace HB := Aside0.mk (below_step bw hb); clear hb ho0) | ((with_reducible refine gate_dst (N := 7) rfl ?_); refine bx 7 #[.slice none 0 0] 27 ?_; intro gb827 hg w28 hbox hb; replace HO820 := Aside0.mk (Kd.R_below (ro HO820.out) hb); replace HO823 := Aside0.mk (Kd.R_below (ro HO823.out) hb); replace HO826 := Aside0.mk (Kd.R_below (ro HO826.out) hb); have BK827 := Aside0.mk (hbox); have GW827 := Aside0.mk (gs hg : w.heap.size ≤ gb827); have GE827 := Aside0.mk (gs hg : w.heap.size ≤ gb827); replace HB := Aside0.mk (below_step bw hb); have NB816_827 := Aside0.mk ((by rw [hg]; exact Nat.ne_of_lt (blk_lt (g := gb816) (o := .cells #[.slice A0_0 l0_0.length c0_0] 24 (0, 0)) (bo BK816.out)) : gb816 ≠ gb827)); have NB827_816 := Aside0.mk ((by rw [hg]; exact Nat.ne_of_gt (blk_lt (g := gb816) (o := .cells #[.slice A0_0 l0_0.length c0_0] 24 (0, 0)) (bo BK816.out)) : gb827 ≠ gb816)); replace BK816 := Aside0.mk (blk_below (g := gb816) (o := .cells #[.slice A0_0 l0_0.length c0_0] 24 (0, 0)) (bo BK816.out) hb); clear hb hbox hg; obtain ⟨Ao29, co29, eo29⟩ := Kd.R_slice HO826.out; subst eo29; have hnb30 := NB827_816.out; have hnc30 := NB816_827.out; have hcz31_0 := bc BK827 0 (.slice none 0 0); have hfz31_0 := blk_frozen BK827.out 0) | ((with_reducible refine gate_callee (f := 38) rfl ?_); refine gl (some 26) Try.func38 #[.agg #[.slice Ao29 t824.length co29], .int .i64 a1] ?_; (with_reducible refine (impl_ExceedingOf.calls k _ _ t824 a1 t828 _ ?side1 ?side2 A11.out).mono ?_); (case side1 => refine (Kd.R_reads' (e := 3) (base := w.heap.size) (ok := fun k_ => ((True ∧ some k_ ≠ (.slice Ao24 t818.length co24 : Value).ownBlock) ∧ some k_ ≠ (v822 : Value).ownBlock)) (n := t824.length) (c := co29) ?_).2.2; exact (by (with_reducible repeat (first | apply Kd.R_alloc | apply Kd.R_drewN | apply Kd.R_drew)); exact (Kd.R_mono (Kd.R_far (p := ⟨gb827, 0, none⟩) (Kd.R_types HO826.out BK827.out (by decide)) (fun _ hk => hk.2) (.slice Ao29 t824.length co29)) (fun _ h_ => h_.1)))); (case side2 => exact (Kd.R_reads' HO826.out).2.1); rintro e w32 ⟨v829, rfl, ho0, hb⟩; refine ⟨_, rfl, ?_⟩; have HO830 := Aside0.mk (Kd.R_lower (Kd.R_new' (Kd.R_new' (Kd.R_new' ho0 (Kd.R_lt (by (with_reducible repeat (first | apply Kd.R_alloc | apply Kd.R_drewN | apply Kd.R_drew)); exact (Kd.R_mono (Kd.R_far (p := ⟨gb827, 0, none⟩) (Kd.R_types HO820.out BK827.out (by decide)) (fun _ hk => hk.2) (.slice Ao29 t824.length co29)) (fun _ h_ => h_.1))))) (Kd.R_lt (by (with_reducible repeat (first | apply Kd.R_alloc | apply Kd.R_drewN | apply Kd.R_drew)); exact (Kd.R_mono (Kd.R_far (p := ⟨gb827, 0, none⟩) (Kd.R_types HO823.out BK827.out (by decide)) (fun _ hk => hk.2) (.slice Ao29 t824.length co29)) (fun _ h_ => h_.1))))) (Kd.R_lt (by (with_reducible repeat (first | apply Kd.R_alloc | apply Kd.R_drewN | apply Kd.R_drew)); exact (Kd.R_mono (Kd.R_far (p := ⟨gb827, 0, none⟩) (Kd.R_types HO826.out BK827.out (by decide)) (fun _ hk => hk.2) (.slice Ao29 t824.length co29)) (fun _ h_ => h_.1))))) (below_size bw)); replace HO820 := Aside0.mk (Kd.R_elder' (by (with_reducible repeat (first | apply Kd.R_alloc | apply Kd.R_drewN | apply Kd.R_drew)); exact (Kd.R_mono (Kd.R_far (p := ⟨gb827, 0, none⟩) (Kd.R_types HO820.out BK827.out (by decide)) (fun _ hk => hk.2) (.slice Ao29 t824.length co29)) (fun _ h_ => h_.1))) (Kd.R_base ho0) hb); replace HO823 := Aside0.mk (Kd.R_elder' (by (with_reducible repeat (first | apply Kd.R_alloc | apply Kd.R_drewN | apply Kd.R_drew)); exact (Kd.R_mono (Kd.R_far (p := ⟨gb827, 0, none⟩) (Kd.R_types HO823.out BK827.out (by decide)) (fun _ hk => hk.2) (.slice Ao29 t824.length co29)) (fun _ h_ => h_.1))) (Kd.R_base ho0) hb); replace HO826 := Aside0.mk (Kd.R_elder' (by (with_reducible repeat (first | apply Kd.R_alloc | apply Kd.R_drewN | apply Kd.R_drew)); exact (Kd.R_mono (Kd.R_far (p := ⟨gb827, 0, none⟩) (Kd.R_types HO826.out BK827.out (by decide)) (fun _ hk => hk.2) (.slice Ao29 t824.length co29)) (fun _ h_ => h_.1))) (Kd.R_base ho0) hb); replace BK816 := Aside0.mk (blk_below (g := gb816) (o := .cells #[.slice A0_0 l0_0.length c0_0] 24 (0, 0)) (by (with_reducible repeat (first | refine blk_drewN ?_ _ | refine blk_drew ?_ | refine blk_alloc ?_ _)); refine blk_far ?_ NB816_827.out _; (with_reducible repeat (first | refine blk_drewN ?_ _ | refine blk_drew ?_ | refine blk_alloc ?_ _)); exact BK816.out) hb); replace BK827 := Aside0.mk (blk_below (g := gb827) (o := .cells #[.slice Ao29 t824.length co29] 27 (0, 0)) (by (with_reducible repeat (first | refine blk_drewN ?_ _ | refine blk_drew ?_ | refine blk_alloc ?_ _)); refine blk_put (cs := #[.slice none 0 0]) ?_ 0 _ rfl; (with_reducible repeat (first | refine blk_drewN ?_ _ | refine blk_drew ?_ | refine blk_alloc ?_ _)); exact BK827.out) hb); replace HB := Aside0.mk (below_step bw hb); clear hb ho0; obtain ⟨Ao33, co33, eo33⟩ := Kd.R_slice HO830.out; subst eo33; obtain ⟨Ao34, co34, eo34⟩ := Kd.R_slice HO823.out; subst eo34) | ((with_reducible refine gate_callee (f := 20) rfl ?_); refine gl (some 29) Try.func20 #[.slice Ao33 t828.length co33, .slice Ao34 t821.length co34] ?_; (with_reducible refine (laws_eqIntS.calls k _ _ t828 _ _ t821 true _ ?side1 ?side2 ?side3 ?side4 A12.out).mono ?_); (case side1 => exact co (Kd.R_reads' HO830.out).2.2); (case side2 => exact (Kd.R_reads' HO830.out).2.1); (case side3 => exact co (Kd.R_reads' HO823.out).2.2); (case side4 => exact (Kd.R_reads' HO823.out).2.1); rintro e w' ⟨rfl, ⟨nd, rfl⟩⟩; refine ⟨_, rfl, ?_⟩))
    (try (rw [drewN_self w32]; generalize hq_ : World.drewN w32 _ = w32; have n0_ : Aside0 (Kd.R (Kd.int .i64) 3 w32 w.heap.size (fun k_ => some k_ ≠ (.slice Ao34 t821.length co34 : Value).ownBlock ∧ some k_ ≠ (.slice Ao29 t824.length co29 : Value).ownBlock ∧ some k_ ≠ (.slice Ao33 t828.length co33 : Value).ownBlock) (.slice Ao24 t818.length co24) t818) := ⟨by rw [← hq_]; exact (by (with_reducible repeat (first | apply Kd.R_alloc | apply Kd.R_drewN | apply Kd.R_drew)); exact Kd.R_mono HO820.out (fun _ hk => ⟨hk.1.1.2, ⟨hk.1.2, hk.2⟩⟩))⟩; have n1_ : Aside0 (Kd.R (Kd.int .i64) 3 w32 w.heap.size (fun k_ => some k_ ≠ (.slice Ao24 t818.length co24 : Value).ownBlock ∧ some k_ ≠ (.slice Ao29 t824.length co29 : Value).ownBlock ∧ some k_ ≠ (.slice Ao33 t828.length co33 : Value).ownBlock) (.slice Ao34 t821.length co34) t821) := ⟨by rw [← hq_]; exact (by (with_reducible repeat (first | apply Kd.R_alloc | apply Kd.R_drewN | apply Kd.R_drew)); exact Kd.R_mono HO823.out (fun _ hk => ⟨hk.1.1.2, ⟨hk.1.2, hk.2⟩⟩))⟩; have n2_ : Aside0 (Kd.R (Kd.int .i64) 3 w32 w.heap.size (fun k_ => some k_ ≠ (.slice Ao24 t818.length co24 : Value).ownBlock ∧ some k_ ≠ (.slice Ao34 t821.length co34 : Value).ownBlock ∧ some k_ ≠ (.slice Ao33 t828.length co33 : Value).ownBlock) (.slice Ao29 t824.length co29) t824) := ⟨by rw [← hq_]; exact (by (with_reducible repeat (first | apply Kd.R_alloc | apply Kd.R_drewN | apply Kd.R_drew)); exact Kd.R_mono HO826.out (fun _ hk => ⟨hk.1.1.2, ⟨hk.1.2, hk.2⟩⟩))⟩; have n3_ : Aside0 (Kd.R (Kd.int .i64) 3 w32 w.heap.size (fun k_ => some k_ ≠ (.slice Ao24 t818.length co24 : Value).ownBlock ∧ some k_ ≠ (.slice Ao34 t821.length co34 : Value).ownBlock ∧ some k_ ≠ (.slice Ao29 t824.length co29 : Value).ownBlock) (.slice Ao33 t828.length co33) t828) := ⟨by rw [← hq_]; exact (by (with_reducible repeat (first | apply Kd.R_alloc | apply Kd.R_drewN | apply Kd.R_drew)); exact Kd.R_mono HO830.out (fun _ hk => ⟨hk.1.1.2, ⟨hk.1.2, hk.2⟩⟩))⟩; have n4_ : Aside0 (w32.heap[gb816]? = some (.cells #[.slice A0_0 l0_0.length c0_0] 24 (0, 0))) := ⟨by rw [← hq_]; exact (bo BK816.out)⟩; have n5_ : Aside0 (w32.heap[gb827]? = some (.cells #[.slice Ao29 t824.length co29] 27 (0, 0))) := ⟨by rw [← hq_]; exact (bo BK827.out)⟩; have n6_ : Aside0 (Below w.heap.size w w32) := ⟨by rw [← hq_]; exact bw⟩; clear HO820 HO823 HO826 HO830 BK816 BK827 HB hq_; have HO820 := n0_; have HO823 := n1_; have HO826 := n2_; have HO830 := n3_; have BK816 := n4_; have BK827 := n5_; have HB := n6_; clear n0_ n1_ n2_ n3_ n4_ n5_ n6_))
    replace HO820 := Aside0.mk (Kd.R_drew HO820.out)
    replace HO823 := Aside0.mk (Kd.R_drew HO823.out)
    replace HO826 := Aside0.mk (Kd.R_drew HO826.out)
    replace HO830 := Aside0.mk (Kd.R_drew HO830.out)
    replace BK816 := Aside0.mk (blk_drew BK816.out)
    replace BK827 := Aside0.mk (blk_drew BK827.out)
    replace HB := Aside0.mk (below_drew1 HB.out)
    refine start_ (n := 5) (S := fun w' => w'.cell? ⟨gb827, 0, none⟩ = some (.slice Ao29 t824.length co29) ∧ w'.cell? ⟨gb816, 0, none⟩ = some (.slice A0_0 l0_0.length c0_0)) (ds := []) #[Z,Z,Z,Z,Z] (by kernel_rfl) rfl rfl ⟨(blk_cell BK827.out 0).trans rfl, (blk_cell BK816.out 0).trans rfl⟩ (fun hHeld => ?_)
    generalize w32.drew = w35 at HO820 HO823 HO826 HO830 BK816 BK827 HB hHeld ⊢
    refine take_ (i := 0) (N := some 31) (v := ?_) (a' := ?_) #[Y,Z,Z,Z,Z] rfl rfl (by kernel_rfl) (fun _ _ _ h => h) (Or.inl ⟨by rfl, ?_⟩) hHeld ?_ ?_
    rotate_left
    ·rintro w' ⟨s0, s1⟩
     go_simp
     with_reducible rfl
    rotate_left
    ·simp only [Act.put, qa, qb, qc, i64_w, i32_w]
     rfl
    refine take_ (i := 1) (N := some 32) (v := ?_) (a' := ?_) #[Y,Y,Z,Z,Z] rfl rfl (by kernel_rfl) (fun _ _ _ h => h) (Or.inl ⟨by rfl, ?_⟩) hHeld ?_ ?_
    rotate_left
    ·rintro w' ⟨s0, s1⟩
     go_simp
     with_reducible rfl
    rotate_left
    ·simp only [Act.put, qa, qb, qc, i64_w, i32_w]
     rfl
    refine one_ (i := 2) (N := some 33) #[Y,Y,Y,Z,Z] rfl rfl (by kernel_rfl) (by decide) (fun K hK => ?_)
    refine gm Try.func17 #[.agg #[.slice A0_0 l0_0.length c0_0]] ?_
    with_reducible refine (laws_toSemigroup.calls k _ _ l0_0 t832 _ ?side1 ?side2 A14.out).mono ?_
    (case side1 => exact co (Kd.C_below HR0_0.out HB.out))
    (case side2 => exact HC0_0.out)
    rintro e w36 ⟨v833, rfl, ho0, hb⟩
    refine ⟨_, rfl, ?_⟩
    have HO834 := Aside0.mk (Kd.R_lower (Kd.R_new' (Kd.R_new' (Kd.R_new' (Kd.R_new' ho0 (Kd.R_lt (ro HO820.out))) (Kd.R_lt (ro HO823.out))) (Kd.R_lt (ro HO826.out))) (Kd.R_lt (ro HO830.out))) (below_size bw))
    replace HO820 := Aside0.mk (Kd.R_elder' (ro HO820.out) (Kd.R_base ho0) hb)
    replace HO823 := Aside0.mk (Kd.R_elder' (ro HO823.out) (Kd.R_base ho0) hb)
    replace HO826 := Aside0.mk (Kd.R_elder' (ro HO826.out) (Kd.R_base ho0) hb)
    replace HO830 := Aside0.mk (Kd.R_elder' (ro HO830.out) (Kd.R_base ho0) hb)
    replace BK816 := Aside0.mk (blk_below (g := gb816) (o := .cells #[.slice A0_0 l0_0.length c0_0] 24 (0, 0)) (bo BK816.out) hb)
    replace BK827 := Aside0.mk (blk_below (g := gb827) (o := .cells #[.slice Ao29 t824.length co29] 27 (0, 0)) (bo BK827.out) hb)
    replace HB := Aside0.mk (below_step bw hb)
    clear hb ho0
    obtain ⟨Ao37, co37, eo37⟩ := Kd.R_slice HO834.out
    (first | subst eo37 | (injection eo37 with f1_ f2_ f3_; have f4_ := f1_.symm; have f5_ := f3_.symm; clear f1_ f2_ f3_; subst f4_; subst f5_))
    refine hK.out _ _ ⟨(blk_cell BK827.out 0).trans rfl, (blk_cell BK816.out 0).trans rfl⟩ (fun hHeld => ?_)
    clear hK K
    refine norm_ (a' := ?_) ?_ ?_
    rotate_left
    ·show Act.put _ (some 33) _ = _
     simp only [Act.put, qa, qb, qc, i64_w, i32_w]
     rfl
    refine one_ (i := 3) (N := some 34) #[Y,Y,Y,Y,Z] rfl rfl (by kernel_rfl) (by decide) (fun K hK => ?_)
    refine gm Try.func21 #[.agg #[.slice Ao29 t824.length co29], .agg #[.slice Ao37 t832.length co37]] ?_
    with_reducible refine (laws_eqSemigroup.calls k _ _ t824 _ _ t832 true _ ?side1 ?side2 ?side3 ?side4 A15.out).mono ?_
    (case side1 => exact co (Kd.R_reads' HO826.out).2.2)
    (case side2 => exact (Kd.R_reads' HO826.out).2.1)
    (case side3 => exact co (Kd.R_reads' HO834.out).2.2)
    (case side4 => exact (Kd.R_reads' HO834.out).2.1)
    rintro e w38 ⟨rfl, hb⟩
    refine ⟨_, rfl, ?_⟩
    replace HO820 := Aside0.mk (Kd.R_below (ro HO820.out) hb)
    replace HO823 := Aside0.mk (Kd.R_below (ro HO823.out) hb)
    replace HO826 := Aside0.mk (Kd.R_below (ro HO826.out) hb)
    replace HO830 := Aside0.mk (Kd.R_below (ro HO830.out) hb)
    replace HO834 := Aside0.mk (Kd.R_below (ro HO834.out) hb)
    replace BK816 := Aside0.mk (blk_below (g := gb816) (o := .cells #[.slice A0_0 l0_0.length c0_0] 24 (0, 0)) (bo BK816.out) hb)
    replace BK827 := Aside0.mk (blk_below (g := gb827) (o := .cells #[.slice Ao29 t824.length co29] 27 (0, 0)) (bo BK827.out) hb)
    replace HB := Aside0.mk (below_step bw hb)
    clear hb
    refine hK.out _ _ ⟨(blk_cell BK827.out 0).trans rfl, (blk_cell BK816.out 0).trans rfl⟩ (fun hHeld => ?_)
    clear hK K
    refine norm_ (a' := ?_) ?_ ?_
    rotate_left
    ·show Act.put _ (some 34) _ = _
     simp only [Act.put, qa, qb, qc, i64_w, i32_w]
     rfl
    refine pure_ (i := 4) (N := some 35) (v := ?_) (a' := ?_) #[Y,Y,Y,Y,Y] rfl rfl (by kernel_rfl) (fun _ _ _ h => h) (Or.inl ⟨by rfl, ?_⟩) ?_ ?_
    rotate_left
    ·intro w'
     go_simp
     with_reducible rfl
    rotate_left
    ·simp only [Act.put, qa, qb, qc, i64_w, i32_w]
     rfl
    refine done_ (by kernel_rfl) ?_
    have hcz39_0 := bc BK827 0 (.slice Ao29 t824.length co29)
    have hfz39_0 := blk_frozen BK827.out 0
    go_upto_region 14 with (first | ((with_reducible refine gate_callee (f := 22) rfl ?_); refine gl (some 38) Try.func22 #[.agg #[.slice Ao29 t824.length co29], .int .i64 1] ?_; (with_reducible refine (laws_markSemigroup.calls k (fun k_ => some k_ = (.slice Ao29 t824.length co29 : Value).ownBlock) (.slice Ao29 t824.length co29) t824 1 t836 t837 w _ ?side1 ?side2 A17.out).mono ?_); (case side1 => repeat (first | (with_reducible first | exact HB.out | apply below_alloc | apply pw_below_drewN | apply below_drew1 | refine below_set ?_ GE816.out | refine below_set ?_ GE827.out) | exact HB.out)); (case side2 => exact Kd.R_tight rfl HO826.out); rintro e w40 ⟨rfl, hy0, hb, hkp⟩; refine ⟨_, rfl, ?_⟩; replace BK816 := Aside0.mk (blk_kept (bo BK816.out) hkp (fun hs_ => (fun e_ => (Kd.R_ne HO826.out BK816.out (by decide)) e_) hs_)); replace HO820 := Aside0.mk (Kd.R_mono (ok' := fun k_ => some k_ ≠ (.slice Ao34 t821.length co34 : Value).ownBlock ∧ some k_ ≠ (.slice Ao29 t824.length co29 : Value).ownBlock ∧ some k_ ≠ (.slice Ao33 t828.length co33 : Value).ownBlock ∧ some k_ ≠ (.slice Ao37 t832.length co37 : Value).ownBlock) (Kd.R_keptB (HO820.out) hkp (fun k_ hk_ hs_ => by first | exact (hk_.1.1.2) hs_ | simp_all)) (fun k_ hk_ => by first | exact ⟨hk_.1.1.1.1.2, hk_.1.1.1.2, hk_.1.1.2, hk_.1.2⟩ | simp_all)); replace HO823 := Aside0.mk (Kd.R_mono (ok' := fun k_ => some k_ ≠ (.slice Ao24 t818.length co24 : Value).ownBlock ∧ some k_ ≠ (.slice Ao29 t824.length co29 : Value).ownBlock ∧ some k_ ≠ (.slice Ao33 t828.length co33 : Value).ownBlock ∧ some k_ ≠ (.slice Ao37 t832.length co37 : Value).ownBlock) (Kd.R_keptB (HO823.out) hkp (fun k_ hk_ hs_ => by first | exact (hk_.1.1.2) hs_ | simp_all)) (fun k_ hk_ => by first | exact ⟨hk_.1.1.1.1.2, hk_.1.1.1.2, hk_.1.1.2, hk_.1.2⟩ | simp_all)); replace BK827 := Aside0.mk (blk_kept (bo BK827.out) hkp (fun hs_ => (fun e_ => (Kd.R_ne HO826.out BK827.out (by decide)) e_) hs_)); replace HO826 := Aside0.mk (Kd.R_reok rfl hy0 (fun k_ e_ => HO826.out.1 k_ e_)); replace HO830 := Aside0.mk (Kd.R_mono (ok' := fun k_ => some k_ ≠ (.slice Ao24 t818.length co24 : Value).ownBlock ∧ some k_ ≠ (.slice Ao34 t821.length co34 : Value).ownBlock ∧ some k_ ≠ (.slice Ao29 t824.length co29 : Value).ownBlock ∧ some k_ ≠ (.slice Ao37 t832.length co37 : Value).ownBlock) (Kd.R_keptB (HO830.out) hkp (fun k_ hk_ hs_ => by first | exact (hk_.1.2) hs_ | simp_all)) (fun k_ hk_ => by first | exact ⟨hk_.1.1.1.1.2, hk_.1.1.1.2, hk_.1.1.2, hk_.1.2⟩ | simp_all)); replace HO834 := Aside0.mk (Kd.R_mono (ok' := fun k_ => some k_ ≠ (.slice Ao24 t818.length co24 : Value).ownBlock ∧ some k_ ≠ (.slice Ao34 t821.length co34 : Value).ownBlock ∧ some k_ ≠ (.slice Ao29 t824.length co29 : Value).ownBlock ∧ some k_ ≠ (.slice Ao33 t828.length co33 : Value).ownBlock) (Kd.R_keptB (HO834.out) hkp (fun k_ hk_ hs_ => by first | exact (hk_.1.2) hs_ | simp_all)) (fun k_ hk_ => by first | exact ⟨hk_.1.1.1.1.2, hk_.1.1.1.2, hk_.1.1.2, hk_.1.2⟩ | simp_all)); replace HB := Aside0.mk (hb); clear hb hkp hy0))
    (try simp only [Act.put, List.setIfInBounds_toArray, List.set_cons_zero, List.set_cons_succ])
    go_cut [46] (fun v46 wc => ∃ (kq : Nat) (x46_17 : Bool), v46 = .bool x46_17 ∧ Aside0 (laws_FnExactExceedingOf.j0 kq a1 t821 t828 x46_17 l0_0 = some true) ∧ Aside0 (kq ≤ k) ∧ Aside0 (Kd.R (Kd.int .i64) 3 wc w.heap.size (fun k_ => some k_ ≠ ((.slice Ao33 t828.length co33) : Value).ownBlock ∧ some k_ ≠ ((.slice Ao29 t824.length co29) : Value).ownBlock) (.slice Ao34 t821.length co34) t821) ∧ Aside0 (Kd.R (Kd.int .i64) 3 wc w.heap.size (fun k_ => some k_ ≠ ((.slice Ao34 t821.length co34) : Value).ownBlock ∧ some k_ ≠ ((.slice Ao29 t824.length co29) : Value).ownBlock) (.slice Ao33 t828.length co33) t828) ∧ Aside0 (Kd.R (Kd.int .i64) 3 wc w.heap.size (fun k_ => some k_ ≠ ((.slice Ao34 t821.length co34) : Value).ownBlock ∧ some k_ ≠ ((.slice Ao33 t828.length co33) : Value).ownBlock) (.slice Ao29 t824.length co29) t837) ∧ Aside0 (wc.heap[gb816]? = some (.cells #[(.slice A0_0 l0_0.length c0_0)] 24 (0, 0))) ∧ Aside0 (wc.heap[gb827]? = some (.cells #[(.slice Ao29 t824.length co29)] 27 (0, 0))) ∧ Aside0 (Below w.heap.size w wc))
    case first =>
     have H := HC18.out
     clear HC18
     replace H := gi H; obtain ⟨c41b0, H⟩ | ⟨c41b0, H⟩ := H
     ·(first | rw [c41b0] | (simp only [i64_w, i32_w]; rw [c41b0]) | skip)
      have H' := Aside0.mk H
      clear H
      go_wp2
      go_meet
      case rel => exact ⟨_, (true), rr, H', ⟨om⟩, ⟨by (with_reducible repeat (first | apply Kd.R_alloc | apply Kd.R_drewN | apply Kd.R_drew)); exact Kd.R_mono HO823.out (fun _ hk => by first | exact ⟨hk.2.2.1, hk.2.1⟩ | simp_all)⟩, ⟨by (with_reducible repeat (first | apply Kd.R_alloc | apply Kd.R_drewN | apply Kd.R_drew)); exact Kd.R_mono HO830.out (fun _ hk => by first | exact ⟨hk.2.1, hk.2.2.1⟩ | simp_all)⟩, ⟨by (with_reducible repeat (first | apply Kd.R_alloc | apply Kd.R_drewN | apply Kd.R_drew)); exact Kd.R_mono HO826.out (fun _ hk => by first | exact ⟨hk.1.1.2, hk.1.2⟩ | simp_all)⟩, ⟨bo BK816.out⟩, ⟨bo BK827.out⟩, ⟨bw⟩⟩
     ·(first | rw [c41b0] | (simp only [i64_w, i32_w]; rw [c41b0]) | skip)
      replace H := ga H; obtain ⟨t838, A42, H⟩ := H
      have H' := Aside0.mk H
      clear H
      go_wp2_with (first | (go_at_call 20; (with_reducible refine (laws_eqIntS.calls k _ _ t828 _ _ t821 t838 _ ?side1 ?side2 ?side3 ?side4 A42.out).mono ?_); (case side1 => exact co (Kd.R_reads' HO830.out).2.2); (case side2 => exact (Kd.R_reads' HO830.out).2.1); (case side3 => exact co (Kd.R_reads' HO823.out).2.2); (case side4 => exact (Kd.R_reads' HO823.out).2.1); rintro e w' ⟨rfl, ⟨nd, rfl⟩⟩))
      go_meet
      case rel => exact ⟨_, (!t838), rr, H', ⟨om⟩, ⟨by (with_reducible repeat (first | apply Kd.R_alloc | apply Kd.R_drewN | apply Kd.R_drew)); exact Kd.R_mono HO823.out (fun _ hk => by first | exact ⟨hk.2.2.1, hk.2.1⟩ | simp_all)⟩, ⟨by (with_reducible repeat (first | apply Kd.R_alloc | apply Kd.R_drewN | apply Kd.R_drew)); exact Kd.R_mono HO830.out (fun _ hk => by first | exact ⟨hk.2.1, hk.2.2.1⟩ | simp_all)⟩, ⟨by (with_reducible repeat (first | apply Kd.R_alloc | apply Kd.R_drewN | apply Kd.R_drew)); exact Kd.R_mono HO826.out (fun _ hk => by first | exact ⟨hk.1.1.2, hk.1.2⟩ | simp_all)⟩, ⟨bo BK816.out⟩, ⟨bo BK827.out⟩, ⟨bw⟩⟩
    case rest =>
     clear HC18
     try clear c4b0; try clear c41b0; try clear hcz20_0; try clear hcz22_0; try clear hcz26_0; try clear hcz31_0; try clear hcz39_0; try clear hcz6_0; try clear hfz20_0; try clear hfz22_0; try clear hfz26_0; try clear hfz31_0; try clear hfz39_0; try clear hfz6_0
     obtain ⟨kq, x46_17, rfl, HA, HJ17, HO_6, HO_8, HO_828000, BK816, BK827, HB⟩ := hcut
     have hl828000_17 := (Kd.R_reads' HO_828000.out).1
     rw [hl828000_17] at HO_828000
     (try simp only [hl828000_17])
     (try simp only [hl828000_17] at BK816)
     (try simp only [hl828000_17] at BK827)
     (try simp only [hl828000_17] at HO_6)
     (try simp only [hl828000_17] at HO_8)
     cases kq with
     | zero => exact absurd HA.out (by simp [laws_FnExactExceedingOf.j0])
     | succ kj17 =>
      have H := HA.out
      clear HA
      simp only [laws_FnExactExceedingOf.j0] at H
      replace H := gb H; obtain ⟨rfl, H⟩ | ⟨rfl, H⟩ := H
      ·exact absurd (Option.some.inj H) (by decide)
      ·replace H := ga H; obtain ⟨⟨t839, t840⟩, A44, H⟩ := H
       replace H : ((laws_heldIntS.f kj17 t840 1).bind fun t841 => (if t841 < 0 then (some false) else (if t841 = t839 then ((laws_toSemigroup.f kj17 l0_0).bind fun t842 => ((impl_ExceedingOf.f kj17 t842 a1).bind fun t845 => ((laws_eqIntS.f kj17 t845 t821).bind fun t848 => (if t848 = true then ((laws_heldIntS.f kj17 t840 1).bind fun t849 => (if t849 < 0 then (some false) else (if t849 = t839 then (some true) else (some false)))) else (some false))))) else (some false)))) = some true := H
       replace H := ga H; obtain ⟨t841, A45, H⟩ := H
       replace H := gi H; obtain ⟨c46b0, H⟩ | ⟨c46b0, H⟩ := H
       ·exact absurd (Option.some.inj H) (by decide)
       ·by_cases c48 : t841 = t839
        ·rw [if_pos c48] at H
         have c48b0 : (t841 == t839) = true := beq_iff_eq.mpr c48
         have c48b1 : (t841 != t839) = false := bne_eq_false_iff_eq.mpr c48
         clear c48
         replace H := ga H; obtain ⟨t842, A49, H⟩ := H
         replace H := ga H; obtain ⟨t845, A50, H⟩ := H
         replace H := ga H; obtain ⟨t848, A51, H⟩ := H
         replace H := gb H; obtain ⟨rfl, H⟩ | ⟨rfl, H⟩ := H
         ·replace H := ga H; obtain ⟨t849, A53, H⟩ := H
          replace H := gi H; obtain ⟨c54b0, H⟩ | ⟨c54b0, H⟩ := H
          ·exact absurd (Option.some.inj H) (by decide)
          ·by_cases c62 : t849 = t839
           ·rw [if_pos c62] at H
            have c62b0 : (t849 == t839) = true := beq_iff_eq.mpr c62
            have c62b1 : (t849 != t839) = false := bne_eq_false_iff_eq.mpr c62
            clear c62
            skip
            go_wp2_with (first | ((with_reducible refine gate_callee (f := 23) rfl ?_); refine gl (some 49) Try.func23 #[.slice Ao33 t828.length co33, .int .i64 1] ?_; (with_reducible refine (laws_markIntS.calls kj17 (fun k_ => some k_ = (.slice Ao33 t828.length co33 : Value).ownBlock) (.slice Ao33 t828.length co33) t828 1 t839 t840 w _ ?side1 ?side2 A44.out).mono ?_); (case side1 => repeat (first | (with_reducible first | exact HB.out | apply below_alloc | apply pw_below_drewN | apply below_drew1 | refine below_set ?_ GE816.out | refine below_set ?_ GE827.out) | exact HB.out)); (case side2 => exact Kd.R_tight rfl HO_8.out); rintro e w63 ⟨rfl, hy0, hb, hkp⟩; refine ⟨_, rfl, ?_⟩; replace HO_6 := Aside0.mk (Kd.R_mono (ok' := fun k_ => some k_ ≠ (.slice Ao33 t828.length co33 : Value).ownBlock ∧ some k_ ≠ (.slice Ao29 t837.length co29 : Value).ownBlock) (Kd.R_keptB (HO_6.out) hkp (fun k_ hk_ hs_ => by first | exact (hk_.1) hs_ | simp_all)) (fun k_ hk_ => by first | exact ⟨hk_.1.1, hk_.1.2⟩ | simp_all)); replace HO_828000 := Aside0.mk (Kd.R_mono (ok' := fun k_ => some k_ ≠ (.slice Ao34 t821.length co34 : Value).ownBlock ∧ some k_ ≠ (.slice Ao33 t828.length co33 : Value).ownBlock) (Kd.R_keptB (HO_828000.out) hkp (fun k_ hk_ hs_ => by first | exact (hk_.2) hs_ | simp_all)) (fun k_ hk_ => by first | exact ⟨hk_.1.1, hk_.1.2⟩ | simp_all)); replace BK816 := Aside0.mk (blk_kept (bo BK816.out) hkp (fun hs_ => (fun e_ => (Kd.R_ne HO_8.out BK816.out (by decide)) e_) hs_)); replace BK827 := Aside0.mk (blk_kept (bo BK827.out) hkp (fun hs_ => (fun e_ => (Kd.R_ne HO_8.out BK827.out (by decide)) e_) hs_)); replace HO_8 := Aside0.mk (Kd.R_reok rfl hy0 (fun k_ e_ => HO_8.out.1 k_ e_)); replace HB := Aside0.mk (hb); clear hb hkp hy0) | ((with_reducible refine gate_callee (f := 24) rfl ?_); refine goesL_ (some 52) rfl rfl Try.func24 (by kernel_rfl) rfl #[.slice Ao33 t840.length co33, .int .i64 1] rfl (by (try simp only [List.map_toArray, List.map_cons, List.map_nil]); first | done | (rw [show t840.length = t828.length from (Kd.R_reads' HO_8.out).1.symm] <;> rfl) | rfl | (simp only [List.length_drop, List.length_take]; rfl)) ?_; (with_reducible refine (laws_heldIntS.calls kj17 _ _ t840 1 t841 _ ?side1 ?side2 A45.out).mono ?_); (case side1 => exact co (Kd.R_reads' HO_8.out).2.2); (case side2 => rw [show t840.length = t828.length from (Kd.R_reads' HO_8.out).1.symm]; exact (Kd.R_reads' HO_8.out).2.1); rintro e w' ⟨rfl, ⟨nd, rfl⟩⟩; refine ⟨_, rfl, ?_⟩; have hnb64 := NB816_827.out; have hnc64 := NB827_816.out; have hcz65_0 := bc BK816 0 (.slice A0_0 l0_0.length c0_0); have hfz65_0 := blk_frozen BK816.out 0) | ((with_reducible refine gate_callee (f := 17) rfl ?_); refine gl (some 59) Try.func17 #[.agg #[.slice A0_0 l0_0.length c0_0]] ?_; (with_reducible refine (laws_toSemigroup.calls kj17 _ _ l0_0 t842 _ ?side1 ?side2 A49.out).mono ?_); (case side1 => exact co (Kd.C_below HR0_0.out bw)); (case side2 => exact HC0_0.out); rintro e w66 ⟨v843, rfl, ho0, hb⟩; refine ⟨_, rfl, ?_⟩; have HO844 := Aside0.mk (Kd.R_lower (Kd.R_new' (Kd.R_new' (Kd.R_new' ho0 (Kd.R_lt (ro HO_6.out))) (Kd.R_lt (ro HO_8.out))) (Kd.R_lt (ro HO_828000.out))) (below_size bw)); replace HO_6 := Aside0.mk (Kd.R_elder' (ro HO_6.out) (Kd.R_base ho0) hb); replace HO_8 := Aside0.mk (Kd.R_elder' (ro HO_8.out) (Kd.R_base ho0) hb); replace HO_828000 := Aside0.mk (Kd.R_elder' (ro HO_828000.out) (Kd.R_base ho0) hb); replace BK816 := Aside0.mk (blk_below (g := gb816) (o := .cells #[.slice A0_0 l0_0.length c0_0] 24 (0, 0)) (bo BK816.out) hb); replace BK827 := Aside0.mk (blk_below (g := gb827) (o := .cells #[.slice Ao29 t837.length co29] 27 (0, 0)) (bo BK827.out) hb); replace HB := Aside0.mk (below_step bw hb); clear hb ho0; obtain ⟨Ao67, co67, eo67⟩ := Kd.R_slice HO844.out; subst eo67) | ((with_reducible refine gate_callee (f := 38) rfl ?_); refine gl (some 61) Try.func38 #[.agg #[.slice Ao67 t842.length co67], .int .i64 a1] ?_; (with_reducible refine (impl_ExceedingOf.calls kj17 _ _ t842 a1 t845 _ ?side1 ?side2 A50.out).mono ?_); (case side1 => exact co (Kd.R_reads' HO844.out).2.2); (case side2 => exact (Kd.R_reads' HO844.out).2.1); rintro e w68 ⟨v846, rfl, ho0, hb⟩; refine ⟨_, rfl, ?_⟩; have HO847 := Aside0.mk (Kd.R_lower (Kd.R_new' (Kd.R_new' (Kd.R_new' (Kd.R_new' ho0 (Kd.R_lt (ro HO_6.out))) (Kd.R_lt (ro HO_8.out))) (Kd.R_lt (ro HO_828000.out))) (Kd.R_lt (ro HO844.out))) (below_size bw)); replace HO_6 := Aside0.mk (Kd.R_elder' (ro HO_6.out) (Kd.R_base ho0) hb); replace HO_8 := Aside0.mk (Kd.R_elder' (ro HO_8.out) (Kd.R_base ho0) hb); replace HO_828000 := Aside0.mk (Kd.R_elder' (ro HO_828000.out) (Kd.R_base ho0) hb); replace HO844 := Aside0.mk (Kd.R_elder' (ro HO844.out) (Kd.R_base ho0) hb); replace BK816 := Aside0.mk (blk_below (g := gb816) (o := .cells #[.slice A0_0 l0_0.length c0_0] 24 (0, 0)) (bo BK816.out) hb); replace BK827 := Aside0.mk (blk_below (g := gb827) (o := .cells #[.slice Ao29 t837.length co29] 27 (0, 0)) (bo BK827.out) hb); replace HB := Aside0.mk (below_step bw hb); clear hb ho0; obtain ⟨Ao69, co69, eo69⟩ := Kd.R_slice HO847.out; subst eo69) | ((with_reducible refine gate_callee (f := 20) rfl ?_); refine gl (some 64) Try.func20 #[.slice Ao69 t845.length co69, .slice Ao34 t821.length co34] ?_; (with_reducible refine (laws_eqIntS.calls kj17 _ _ t845 _ _ t821 true _ ?side1 ?side2 ?side3 ?side4 A51.out).mono ?_); (case side1 => exact co (Kd.R_reads' HO847.out).2.2); (case side2 => exact (Kd.R_reads' HO847.out).2.1); (case side3 => exact co (Kd.R_reads' HO_6.out).2.2); (case side4 => exact (Kd.R_reads' HO_6.out).2.1); rintro e w' ⟨rfl, ⟨nd, rfl⟩⟩; refine ⟨_, rfl, ?_⟩) | ((with_reducible refine gate_callee (f := 24) rfl ?_); refine goesL_ (some 68) rfl rfl Try.func24 (by kernel_rfl) rfl #[.slice Ao33 t840.length co33, .int .i64 1] rfl (by (try simp only [List.map_toArray, List.map_cons, List.map_nil]); first | done | (rw [show t840.length = t828.length from (Kd.R_reads' HO_8.out).1.symm] <;> rfl) | rfl | (simp only [List.length_drop, List.length_take]; rfl)) ?_; (with_reducible refine (laws_heldIntS.calls kj17 _ _ t840 1 t849 _ ?side1 ?side2 A53.out).mono ?_); (case side1 => exact co (Kd.R_reads' HO_8.out).2.2); (case side2 => rw [show t840.length = t828.length from (Kd.R_reads' HO_8.out).1.symm]; exact (Kd.R_reads' HO_8.out).2.1); rintro e w' ⟨rfl, ⟨nd, rfl⟩⟩; refine ⟨_, rfl, ?_⟩))
            go_ret
            exact ⟨re, bw⟩
           ·rw [if_neg c62] at H
            have c62b0 : (t849 == t839) = false := beq_eq_false_iff_ne.mpr c62
            have c62b1 : (t849 != t839) = true := bne_iff_ne.mpr c62
            exact absurd (Option.some.inj H) (by decide)
         ·exact absurd (Option.some.inj H) (by decide)
        ·rw [if_neg c48] at H
         have c48b0 : (t841 == t839) = false := beq_eq_false_iff_ne.mpr c48
         have c48b1 : (t841 != t839) = true := bne_iff_ne.mpr c48
         exact absurd (Option.some.inj H) (by decide)
   ·exact absurd (Option.some.inj H) (by decide)
  ·exact absurd (Option.some.inj H) (by decide)
end Go.Proofs.Ytiejmnnnjmmifaa.C
