/- Contracts of functions of the program: laws_FnExactCanonicalGens. -/
import Derived.Test.YtiejmnnnjmmifaaC0
import Derived.Test.YtiejmnnnjmmifaaC1
import Derived.Test.YtiejmnnnjmmifaaC5
import Derived.Test.YtiejmnnnjmmifaaC7
namespace Go.Proofs.Ytiejmnnnjmmifaa.C
open Go.RowKit Go.Proofs.YtiejmnnnjmmifaaW.PrintWords Go.Proofs.YtiejmnnnjmmifaaW.PrintLast Go.Proofs.YtiejmnnnjmmifaaW.PrintMore
attribute [local go_sem] max2_int min2_int max_two min_two max_three min_three max_four min_four
set_option linter.unusedVariables false
set_option linter.unusedSimpArgs false

/-! ### laws_FnExactCanonicalGens: function 12 -/
def laws_FnExactCanonicalGens.j0 : Nat → List Int → List Int → Bool → List Int → Option (Bool)
 | 0, _, _, _, _ => none
 | k + 1, x4, x6, x42, x521000 => if x42 = true then (some false) else ((laws_markIntS.f k x6 1).bind fun bt543 => ((laws_heldIntS.f k bt543.2 1).bind fun t545 => (if t545 < 0 then (some false) else (if t545 = bt543.1 then ((laws_toSemigroup.f k x521000).bind fun t546 => ((impl_CanonicalGens.f k t546).bind fun t549 => ((laws_eqIntS.f k t549 x4).bind fun t552 => (if t552 = true then ((laws_heldIntS.f k bt543.2 1).bind fun t553 => (if t553 < 0 then (some false) else (if t553 = bt543.1 then (some true) else (some false)))) else (some false))))) else (some false)))))
def laws_FnExactCanonicalGens.f (k : Nat) (l0_0 : List Int) : Option (Bool) := (laws_szSemigroup.f l0_0 1048576).bind fun t521 => (if t521 < 0 then (some true) else ((laws_toSemigroup.f k l0_0).bind fun t522 => ((spec_CanonicalGens.f k t522).bind fun t525 => ((laws_toSemigroup.f k l0_0).bind fun t528 => ((impl_CanonicalGens.f k t528).bind fun t532 => ((laws_eqIntS.f k t532 t525).bind fun t535 => (if t535 = true then ((laws_toSemigroup.f k l0_0).bind fun t536 => ((laws_eqSemigroup.f k t528 t536).bind fun t539 => (if t539 = true then ((laws_markSemigroup.f k t528 1).bind fun bt540 => (if bt540.1 < 0 then (laws_FnExactCanonicalGens.j0 k t525 t532 true l0_0) else ((laws_eqIntS.f k t532 t525).bind fun t542 => (laws_FnExactCanonicalGens.j0 k t525 t532 (!t542) l0_0)))) else (some false)))) else (some false))))))))
set_option maxHeartbeats 8000000 in
set_option maxRecDepth 100000 in
theorem laws_FnExactCanonicalGens.calls (k : Nat) (A0_0 : Option Addr) (c0_0 : Nat) (l0_0 : List Int) (w : World) (hr0_0 : Kd.C (Kd.int .i64) w A0_0 l0_0.length l0_0) (hc0_0 : l0_0.length ≤ c0_0) (h : laws_FnExactCanonicalGens.f k l0_0 = some true) :
  Calls Try.prog 12 #[.agg #[.slice A0_0 l0_0.length c0_0]] w fun e w' => e = .returned (.bool true) ∧ Below w.heap.size w w' := by
 have hu24 := Try.underlying24
 have hu27 := Try.underlying27
 have HR0_0 := Aside0.mk hr0_0
 have HC0_0 := Aside0.mk hc0_0
 clear hr0_0 hc0_0
 have HB := Aside0.mk (Below.refl w.heap.size w)
 have H : ((laws_szSemigroup.f l0_0 1048576).bind fun t521 => (if t521 < 0 then (some true) else ((laws_toSemigroup.f k l0_0).bind fun t522 => ((spec_CanonicalGens.f k t522).bind fun t525 => ((laws_toSemigroup.f k l0_0).bind fun t528 => ((impl_CanonicalGens.f k t528).bind fun t532 => ((laws_eqIntS.f k t532 t525).bind fun t535 => (if t535 = true then ((laws_toSemigroup.f k l0_0).bind fun t536 => ((laws_eqSemigroup.f k t528 t536).bind fun t539 => (if t539 = true then ((laws_markSemigroup.f k t528 1).bind fun bt540 => (if bt540.1 < 0 then (laws_FnExactCanonicalGens.j0 k t525 t532 true l0_0) else ((laws_eqIntS.f k t532 t525).bind fun t542 => (laws_FnExactCanonicalGens.j0 k t525 t532 (!t542) l0_0)))) else (some false)))) else (some false))))))))) = some true := h
 clear h
 replace H := ga H; obtain ⟨t521, A2, H⟩ := H
 replace H := gi H; obtain ⟨c3b0, H⟩ | ⟨c3b0, H⟩ := H
 ·skip
  go_enter Try.func12, Try.ntmps12
  go_wp2_with (first | ((with_reducible refine gate_dst (N := 1) rfl ?_); refine bx 1 #[.slice A0_0 l0_0.length c0_0] 24 ?_; intro gb520 hg w4 hbox hb; have BK520 := Aside0.mk (hbox); have GW520 := Aside0.mk (gs hg : w.heap.size ≤ gb520); have GE520 := Aside0.mk (gs hg : w.heap.size ≤ gb520); replace HB := Aside0.mk (below_step bw hb); clear hb hbox hg; have hcz5_0 := bc BK520 0 (.slice A0_0 l0_0.length c0_0); have hfz5_0 := blk_frozen BK520.out 0) | ((with_reducible refine gate_callee (f := 15) rfl ?_); refine gl (some 13) Try.func15 #[.agg #[.slice A0_0 l0_0.length c0_0], .int .i64 1048576] ?_; (with_reducible refine (laws_szSemigroup.calls _ _ l0_0 1048576 t521 _ ?side1 ?side2 A2.out).mono ?_); (case side1 => exact co (Kd.C_below HR0_0.out HB.out)); (case side2 => exact HC0_0.out); rintro e w6 ⟨rfl, hb⟩; refine ⟨_, rfl, ?_⟩; replace BK520 := Aside0.mk (blk_below (g := gb520) (o := .cells #[.slice A0_0 l0_0.length c0_0] 24 (0, 0)) (bo BK520.out) hb); replace HB := Aside0.mk (below_step bw hb); clear hb))
  go_ret
  exact ⟨re, bw⟩
 ·replace H := ga H; obtain ⟨t522, A7, H⟩ := H
  replace H := ga H; obtain ⟨t525, A8, H⟩ := H
  replace H := ga H; obtain ⟨t528, A9, H⟩ := H
  replace H := ga H; obtain ⟨t532, A10, H⟩ := H
  replace H := ga H; obtain ⟨t535, A11, H⟩ := H
  replace H := gb H; obtain ⟨rfl, H⟩ | ⟨rfl, H⟩ := H
  ·replace H := ga H; obtain ⟨t536, A13, H⟩ := H
   replace H := ga H; obtain ⟨t539, A14, H⟩ := H
   replace H := gb H; obtain ⟨rfl, H⟩ | ⟨rfl, H⟩ := H
   ·replace H := ga H; obtain ⟨⟨t540, t541⟩, A16, H⟩ := H
    replace H : (if t540 < 0 then (laws_FnExactCanonicalGens.j0 k t525 t532 true l0_0) else ((laws_eqIntS.f k t532 t525).bind fun t542 => (laws_FnExactCanonicalGens.j0 k t525 t532 (!t542) l0_0))) = some true := H
    have HC17 := Aside0.mk H
    clear H
    go_enter Try.func12, Try.ntmps12
    try go_wp2_with (first | ((with_reducible refine gate_dst (N := 1) rfl ?_); refine bx 1 #[.slice A0_0 l0_0.length c0_0] 24 ?_; intro gb520 hg w18 hbox hb; have BK520 := Aside0.mk (hbox); have GW520 := Aside0.mk (gs hg : w.heap.size ≤ gb520); have GE520 := Aside0.mk (gs hg : w.heap.size ≤ gb520); replace HB := Aside0.mk (below_step bw hb); clear hb hbox hg; have hcz19_0 := bc BK520 0 (.slice A0_0 l0_0.length c0_0); have hfz19_0 := blk_frozen BK520.out 0) | ((with_reducible refine gate_callee (f := 15) rfl ?_); refine gl (some 13) Try.func15 #[.agg #[.slice A0_0 l0_0.length c0_0], .int .i64 1048576] ?_; (with_reducible refine (laws_szSemigroup.calls _ _ l0_0 1048576 t521 _ ?side1 ?side2 A2.out).mono ?_); (case side1 => exact co (Kd.C_below HR0_0.out HB.out)); (case side2 => exact HC0_0.out); rintro e w20 ⟨rfl, hb⟩; refine ⟨_, rfl, ?_⟩; replace BK520 := Aside0.mk (blk_below (g := gb520) (o := .cells #[.slice A0_0 l0_0.length c0_0] 24 (0, 0)) (bo BK520.out) hb); replace HB := Aside0.mk (below_step bw hb); clear hb; have hcz21_0 := bc BK520 0 (.slice A0_0 l0_0.length c0_0); have hfz21_0 := blk_frozen BK520.out 0) | ((with_reducible refine gate_callee (f := 17) rfl ?_); refine gl (some 17) Try.func17 #[.agg #[.slice A0_0 l0_0.length c0_0]] ?_; (with_reducible refine (laws_toSemigroup.calls k _ _ l0_0 t522 _ ?side1 ?side2 A7.out).mono ?_); (case side1 => exact co (Kd.C_below HR0_0.out HB.out)); (case side2 => exact HC0_0.out); rintro e w22 ⟨v523, rfl, ho0, hb⟩; refine ⟨_, rfl, ?_⟩; have HO524 := Aside0.mk (Kd.R_lower ho0 (below_size bw)); replace BK520 := Aside0.mk (blk_below (g := gb520) (o := .cells #[.slice A0_0 l0_0.length c0_0] 24 (0, 0)) (bo BK520.out) hb); replace HB := Aside0.mk (below_step bw hb); clear hb ho0; obtain ⟨Ao23, co23, eo23⟩ := Kd.R_slice HO524.out; subst eo23) | ((with_reducible refine gate_callee (f := 41) rfl ?_); refine gl (some 18) Try.func41 #[.agg #[.slice Ao23 t522.length co23]] ?_; (with_reducible refine (spec_CanonicalGens.calls k _ _ t522 t525 _ ?side1 ?side2 A8.out).mono ?_); (case side1 => exact co (Kd.R_reads' HO524.out).2.2); (case side2 => exact (Kd.R_reads' HO524.out).2.1); rintro e w24 ⟨v526, rfl, ho0, hb⟩; refine ⟨_, rfl, ?_⟩; have HO527 := Aside0.mk (Kd.R_lower (Kd.R_new' ho0 (Kd.R_lt (ro HO524.out))) (below_size bw)); replace HO524 := Aside0.mk (Kd.R_elder' (ro HO524.out) (Kd.R_base ho0) hb); replace BK520 := Aside0.mk (blk_below (g := gb520) (o := .cells #[.slice A0_0 l0_0.length c0_0] 24 (0, 0)) (bo BK520.out) hb); replace HB := Aside0.mk (below_step bw hb); clear hb ho0; have hcz25_0 := bc BK520 0 (.slice A0_0 l0_0.length c0_0); have hfz25_0 := blk_frozen BK520.out 0) | ((with_reducible refine gate_callee (f := 17) rfl ?_); refine gl (some 20) Try.func17 #[.agg #[.slice A0_0 l0_0.length c0_0]] ?_; (with_reducible refine (laws_toSemigroup.calls k _ _ l0_0 t528 _ ?side1 ?side2 A9.out).mono ?_); (case side1 => exact co (Kd.C_below HR0_0.out HB.out)); (case side2 => exact HC0_0.out); rintro e w26 ⟨v529, rfl, ho0, hb⟩; refine ⟨_, rfl, ?_⟩; have HO530 := Aside0.mk (Kd.R_lower (Kd.R_new' (Kd.R_new' ho0 (Kd.R_lt (ro HO524.out))) (Kd.R_lt (ro HO527.out))) (below_size bw)); replace HO524 := Aside0.mk (Kd.R_elder' (ro HO524.out) (Kd.R_base ho0) hb); replace HO527 := Aside0.mk (Kd.R_elder' (ro HO527.out) (Kd.R_base ho0) hb); replace BK520 := Aside0.mk (blk_below (g := gb520) (o := .cells #[.slice A0_0 l0_0.length c0_0] 24 (0, 0)) (bo BK520.out) hb); replace HB := Aside0.mk (below_step bw hb); clear hb ho0) | ((with_reducible refine gate_dst (N := 5) rfl ?_); refine bx 5 #[.slice none 0 0] 27 ?_; intro gb531 hg w27 hbox hb; replace HO524 := Aside0.mk (Kd.R_below (ro HO524.out) hb); replace HO527 := Aside0.mk (Kd.R_below (ro HO527.out) hb); replace HO530 := Aside0.mk (Kd.R_below (ro HO530.out) hb); have BK531 := Aside0.mk (hbox); have GW531 := Aside0.mk (gs hg : w.heap.size ≤ gb531); have GE531 := Aside0.mk (gs hg : w.heap.size ≤ gb531); replace HB := Aside0.mk (below_step bw hb); have NB520_531 := Aside0.mk ((by rw [hg]; exact Nat.ne_of_lt (blk_lt (g := gb520) (o := .cells #[.slice A0_0 l0_0.length c0_0] 24 (0, 0)) (bo BK520.out)) : gb520 ≠ gb531)); have NB531_520 := Aside0.mk ((by rw [hg]; exact Nat.ne_of_gt (blk_lt (g := gb520) (o := .cells #[.slice A0_0 l0_0.length c0_0] 24 (0, 0)) (bo BK520.out)) : gb531 ≠ gb520)); replace BK520 := Aside0.mk (blk_below (g := gb520) (o := .cells #[.slice A0_0 l0_0.length c0_0] 24 (0, 0)) (bo BK520.out) hb); clear hb hbox hg; obtain ⟨Ao28, co28, eo28⟩ := Kd.R_slice HO530.out; subst eo28; have hnb29 := NB531_520.out; have hnc29 := NB520_531.out; have hcz30_0 := bc BK531 0 (.slice none 0 0); have hfz30_0 := blk_frozen BK531.out 0) | ((with_reducible refine gate_callee (f := 42) rfl ?_); refine gl (some 22) Try.func42 #[.agg #[.slice Ao28 t528.length co28]] ?_; (with_reducible refine (impl_CanonicalGens.calls k _ _ t528 t532 _ ?side1 ?side2 A10.out).mono ?_); (case side1 => refine (Kd.R_reads' (e := 3) (base := w.heap.size) (ok := fun k_ => ((True ∧ some k_ ≠ (.slice Ao23 t522.length co23 : Value).ownBlock) ∧ some k_ ≠ (v526 : Value).ownBlock)) (n := t528.length) (c := co28) ?_).2.2; exact (by (with_reducible repeat (first | apply Kd.R_alloc | apply Kd.R_drewN | apply Kd.R_drew)); exact (Kd.R_mono (Kd.R_far (p := ⟨gb531, 0, none⟩) (Kd.R_types HO530.out BK531.out (by decide)) (fun _ hk => hk.2) (.slice Ao28 t528.length co28)) (fun _ h_ => h_.1)))); (case side2 => exact (Kd.R_reads' HO530.out).2.1); rintro e w31 ⟨v533, rfl, ho0, hb⟩; refine ⟨_, rfl, ?_⟩; have HO534 := Aside0.mk (Kd.R_lower (Kd.R_new' (Kd.R_new' (Kd.R_new' ho0 (Kd.R_lt (by (with_reducible repeat (first | apply Kd.R_alloc | apply Kd.R_drewN | apply Kd.R_drew)); exact (Kd.R_mono (Kd.R_far (p := ⟨gb531, 0, none⟩) (Kd.R_types HO524.out BK531.out (by decide)) (fun _ hk => hk.2) (.slice Ao28 t528.length co28)) (fun _ h_ => h_.1))))) (Kd.R_lt (by (with_reducible repeat (first | apply Kd.R_alloc | apply Kd.R_drewN | apply Kd.R_drew)); exact (Kd.R_mono (Kd.R_far (p := ⟨gb531, 0, none⟩) (Kd.R_types HO527.out BK531.out (by decide)) (fun _ hk => hk.2) (.slice Ao28 t528.length co28)) (fun _ h_ => h_.1))))) (Kd.R_lt (by (with_reducible repeat (first | apply Kd.R_alloc | apply Kd.R_drewN | apply Kd.R_drew)); exact (Kd.R_mono (Kd.R_far (p := ⟨gb531, 0, none⟩) (Kd.R_types HO530.out BK531.out (by decide)) (fun _ hk => hk.2) (.slice Ao28 t528.length co28)) (fun _ h_ => h_.1))))) (below_size bw)); replace HO524 := Aside0.mk (Kd.R_elder' (by (with_reducible repeat (first | apply Kd.R_alloc | apply Kd.R_drewN | apply Kd.R_drew)); exact (Kd.R_mono (Kd.R_far (p := ⟨gb531, 0, none⟩) (Kd.R_types HO524.out BK531.out (by decide)) (fun _ hk => hk.2) (.slice Ao28 t528.length co28)) (fun _ h_ => h_.1))) (Kd.R_base ho0) hb); replace HO527 := Aside0.mk (Kd.R_elder' (by (with_reducible repeat (first | apply Kd.R_alloc | apply Kd.R_drewN | apply Kd.R_drew)); exact (Kd.R_mono (Kd.R_far (p := ⟨gb531, 0, none⟩) (Kd.R_types HO527.out BK531.out (by decide)) (fun _ hk => hk.2) (.slice Ao28 t528.length co28)) (fun _ h_ => h_.1))) (Kd.R_base ho0) hb); replace HO530 := Aside0.mk (Kd.R_elder' (by (with_reducible repeat (first | apply Kd.R_alloc | apply Kd.R_drewN | apply Kd.R_drew)); exact (Kd.R_mono (Kd.R_far (p := ⟨gb531, 0, none⟩) (Kd.R_types HO530.out BK531.out (by decide)) (fun _ hk => hk.2) (.slice Ao28 t528.length co28)) (fun _ h_ => h_.1))) (Kd.R_base ho0) hb); replace BK520 := Aside0.mk (blk_below (g := gb520) (o := .cells #[.slice A0_0 l0_0.length c0_0] 24 (0, 0)) (by (with_reducible repeat (first | refine blk_drewN ?_ _ | refine blk_drew ?_ | refine blk_alloc ?_ _)); refine blk_far ?_ NB520_531.out _; (with_reducible repeat (first | refine blk_drewN ?_ _ | refine blk_drew ?_ | refine blk_alloc ?_ _)); exact BK520.out) hb); replace BK531 := Aside0.mk (blk_below (g := gb531) (o := .cells #[.slice Ao28 t528.length co28] 27 (0, 0)) (by (with_reducible repeat (first | refine blk_drewN ?_ _ | refine blk_drew ?_ | refine blk_alloc ?_ _)); refine blk_put (cs := #[.slice none 0 0]) ?_ 0 _ rfl; (with_reducible repeat (first | refine blk_drewN ?_ _ | refine blk_drew ?_ | refine blk_alloc ?_ _)); exact BK531.out) hb); replace HB := Aside0.mk (below_step bw hb); clear hb ho0; obtain ⟨Ao32, co32, eo32⟩ := Kd.R_slice HO534.out; subst eo32; obtain ⟨Ao33, co33, eo33⟩ := Kd.R_slice HO527.out; subst eo33) | ((with_reducible refine gate_callee (f := 20) rfl ?_); refine gl (some 25) Try.func20 #[.slice Ao32 t532.length co32, .slice Ao33 t525.length co33] ?_; (with_reducible refine (laws_eqIntS.calls k _ _ t532 _ _ t525 true _ ?side1 ?side2 ?side3 ?side4 A11.out).mono ?_); (case side1 => exact co (Kd.R_reads' HO534.out).2.2); (case side2 => exact (Kd.R_reads' HO534.out).2.1); (case side3 => exact co (Kd.R_reads' HO527.out).2.2); (case side4 => exact (Kd.R_reads' HO527.out).2.1); rintro e w' ⟨rfl, ⟨nd, rfl⟩⟩; refine ⟨_, rfl, ?_⟩))
    (try (rw [drewN_self w31]; generalize hq_ : World.drewN w31 _ = w31; have n0_ : Aside0 (Kd.R (Kd.int .i64) 3 w31 w.heap.size (fun k_ => some k_ ≠ (.slice Ao33 t525.length co33 : Value).ownBlock ∧ some k_ ≠ (.slice Ao28 t528.length co28 : Value).ownBlock ∧ some k_ ≠ (.slice Ao32 t532.length co32 : Value).ownBlock) (.slice Ao23 t522.length co23) t522) := ⟨by rw [← hq_]; exact (by (with_reducible repeat (first | apply Kd.R_alloc | apply Kd.R_drewN | apply Kd.R_drew)); exact Kd.R_mono HO524.out (fun _ hk => ⟨hk.1.1.2, ⟨hk.1.2, hk.2⟩⟩))⟩; have n1_ : Aside0 (Kd.R (Kd.int .i64) 3 w31 w.heap.size (fun k_ => some k_ ≠ (.slice Ao23 t522.length co23 : Value).ownBlock ∧ some k_ ≠ (.slice Ao28 t528.length co28 : Value).ownBlock ∧ some k_ ≠ (.slice Ao32 t532.length co32 : Value).ownBlock) (.slice Ao33 t525.length co33) t525) := ⟨by rw [← hq_]; exact (by (with_reducible repeat (first | apply Kd.R_alloc | apply Kd.R_drewN | apply Kd.R_drew)); exact Kd.R_mono HO527.out (fun _ hk => ⟨hk.1.1.2, ⟨hk.1.2, hk.2⟩⟩))⟩; have n2_ : Aside0 (Kd.R (Kd.int .i64) 3 w31 w.heap.size (fun k_ => some k_ ≠ (.slice Ao23 t522.length co23 : Value).ownBlock ∧ some k_ ≠ (.slice Ao33 t525.length co33 : Value).ownBlock ∧ some k_ ≠ (.slice Ao32 t532.length co32 : Value).ownBlock) (.slice Ao28 t528.length co28) t528) := ⟨by rw [← hq_]; exact (by (with_reducible repeat (first | apply Kd.R_alloc | apply Kd.R_drewN | apply Kd.R_drew)); exact Kd.R_mono HO530.out (fun _ hk => ⟨hk.1.1.2, ⟨hk.1.2, hk.2⟩⟩))⟩; have n3_ : Aside0 (Kd.R (Kd.int .i64) 3 w31 w.heap.size (fun k_ => some k_ ≠ (.slice Ao23 t522.length co23 : Value).ownBlock ∧ some k_ ≠ (.slice Ao33 t525.length co33 : Value).ownBlock ∧ some k_ ≠ (.slice Ao28 t528.length co28 : Value).ownBlock) (.slice Ao32 t532.length co32) t532) := ⟨by rw [← hq_]; exact (by (with_reducible repeat (first | apply Kd.R_alloc | apply Kd.R_drewN | apply Kd.R_drew)); exact Kd.R_mono HO534.out (fun _ hk => ⟨hk.1.1.2, ⟨hk.1.2, hk.2⟩⟩))⟩; have n4_ : Aside0 (w31.heap[gb520]? = some (.cells #[.slice A0_0 l0_0.length c0_0] 24 (0, 0))) := ⟨by rw [← hq_]; exact (bo BK520.out)⟩; have n5_ : Aside0 (w31.heap[gb531]? = some (.cells #[.slice Ao28 t528.length co28] 27 (0, 0))) := ⟨by rw [← hq_]; exact (bo BK531.out)⟩; have n6_ : Aside0 (Below w.heap.size w w31) := ⟨by rw [← hq_]; exact bw⟩; clear HO524 HO527 HO530 HO534 BK520 BK531 HB hq_; have HO524 := n0_; have HO527 := n1_; have HO530 := n2_; have HO534 := n3_; have BK520 := n4_; have BK531 := n5_; have HB := n6_; clear n0_ n1_ n2_ n3_ n4_ n5_ n6_))
    replace HO524 := Aside0.mk (Kd.R_drew HO524.out)
    replace HO527 := Aside0.mk (Kd.R_drew HO527.out)
    replace HO530 := Aside0.mk (Kd.R_drew HO530.out)
    replace HO534 := Aside0.mk (Kd.R_drew HO534.out)
    replace BK520 := Aside0.mk (blk_drew BK520.out)
    replace BK531 := Aside0.mk (blk_drew BK531.out)
    replace HB := Aside0.mk (below_drew1 HB.out)
    refine start_ (n := 5) (S := fun w' => w'.cell? ⟨gb531, 0, none⟩ = some (.slice Ao28 t528.length co28) ∧ w'.cell? ⟨gb520, 0, none⟩ = some (.slice A0_0 l0_0.length c0_0)) (ds := []) #[Z,Z,Z,Z,Z] (by kernel_rfl) rfl rfl ⟨(blk_cell BK531.out 0).trans rfl, (blk_cell BK520.out 0).trans rfl⟩ (fun hHeld => ?_)
    generalize w31.drew = w34 at HO524 HO527 HO530 HO534 BK520 BK531 HB hHeld ⊢
    refine take_ (i := 0) (N := some 27) (v := ?_) (a' := ?_) #[Y,Z,Z,Z,Z] rfl rfl (by kernel_rfl) (fun _ _ _ h => h) (Or.inl ⟨by rfl, ?_⟩) hHeld ?_ ?_
    rotate_left
    ·rintro w' ⟨s0, s1⟩
     go_simp
     with_reducible rfl
    rotate_left
    ·simp only [Act.put, qa, qb, qc, i64_w, i32_w]
     rfl
    refine take_ (i := 1) (N := some 28) (v := ?_) (a' := ?_) #[Y,Y,Z,Z,Z] rfl rfl (by kernel_rfl) (fun _ _ _ h => h) (Or.inl ⟨by rfl, ?_⟩) hHeld ?_ ?_
    rotate_left
    ·rintro w' ⟨s0, s1⟩
     go_simp
     with_reducible rfl
    rotate_left
    ·simp only [Act.put, qa, qb, qc, i64_w, i32_w]
     rfl
    refine one_ (i := 2) (N := some 29) #[Y,Y,Y,Z,Z] rfl rfl (by kernel_rfl) (by decide) (fun K hK => ?_)
    refine gm Try.func17 #[.agg #[.slice A0_0 l0_0.length c0_0]] ?_
    with_reducible refine (laws_toSemigroup.calls k _ _ l0_0 t536 _ ?side1 ?side2 A13.out).mono ?_
    (case side1 => exact co (Kd.C_below HR0_0.out HB.out))
    (case side2 => exact HC0_0.out)
    rintro e w35 ⟨v537, rfl, ho0, hb⟩
    refine ⟨_, rfl, ?_⟩
    have HO538 := Aside0.mk (Kd.R_lower (Kd.R_new' (Kd.R_new' (Kd.R_new' (Kd.R_new' ho0 (Kd.R_lt (ro HO524.out))) (Kd.R_lt (ro HO527.out))) (Kd.R_lt (ro HO530.out))) (Kd.R_lt (ro HO534.out))) (below_size bw))
    replace HO524 := Aside0.mk (Kd.R_elder' (ro HO524.out) (Kd.R_base ho0) hb)
    replace HO527 := Aside0.mk (Kd.R_elder' (ro HO527.out) (Kd.R_base ho0) hb)
    replace HO530 := Aside0.mk (Kd.R_elder' (ro HO530.out) (Kd.R_base ho0) hb)
    replace HO534 := Aside0.mk (Kd.R_elder' (ro HO534.out) (Kd.R_base ho0) hb)
    replace BK520 := Aside0.mk (blk_below (g := gb520) (o := .cells #[.slice A0_0 l0_0.length c0_0] 24 (0, 0)) (bo BK520.out) hb)
    replace BK531 := Aside0.mk (blk_below (g := gb531) (o := .cells #[.slice Ao28 t528.length co28] 27 (0, 0)) (bo BK531.out) hb)
    replace HB := Aside0.mk (below_step bw hb)
    clear hb ho0
    obtain ⟨Ao36, co36, eo36⟩ := Kd.R_slice HO538.out
    (first | subst eo36 | (injection eo36 with f1_ f2_ f3_; have f4_ := f1_.symm; have f5_ := f3_.symm; clear f1_ f2_ f3_; subst f4_; subst f5_))
    refine hK.out _ _ ⟨(blk_cell BK531.out 0).trans rfl, (blk_cell BK520.out 0).trans rfl⟩ (fun hHeld => ?_)
    clear hK K
    refine norm_ (a' := ?_) ?_ ?_
    rotate_left
    ·show Act.put _ (some 29) _ = _
     simp only [Act.put, qa, qb, qc, i64_w, i32_w]
     rfl
    refine one_ (i := 3) (N := some 30) #[Y,Y,Y,Y,Z] rfl rfl (by kernel_rfl) (by decide) (fun K hK => ?_)
    refine gm Try.func21 #[.agg #[.slice Ao28 t528.length co28], .agg #[.slice Ao36 t536.length co36]] ?_
    with_reducible refine (laws_eqSemigroup.calls k _ _ t528 _ _ t536 true _ ?side1 ?side2 ?side3 ?side4 A14.out).mono ?_
    (case side1 => exact co (Kd.R_reads' HO530.out).2.2)
    (case side2 => exact (Kd.R_reads' HO530.out).2.1)
    (case side3 => exact co (Kd.R_reads' HO538.out).2.2)
    (case side4 => exact (Kd.R_reads' HO538.out).2.1)
    rintro e w37 ⟨rfl, hb⟩
    refine ⟨_, rfl, ?_⟩
    replace HO524 := Aside0.mk (Kd.R_below (ro HO524.out) hb)
    replace HO527 := Aside0.mk (Kd.R_below (ro HO527.out) hb)
    replace HO530 := Aside0.mk (Kd.R_below (ro HO530.out) hb)
    replace HO534 := Aside0.mk (Kd.R_below (ro HO534.out) hb)
    replace HO538 := Aside0.mk (Kd.R_below (ro HO538.out) hb)
    replace BK520 := Aside0.mk (blk_below (g := gb520) (o := .cells #[.slice A0_0 l0_0.length c0_0] 24 (0, 0)) (bo BK520.out) hb)
    replace BK531 := Aside0.mk (blk_below (g := gb531) (o := .cells #[.slice Ao28 t528.length co28] 27 (0, 0)) (bo BK531.out) hb)
    replace HB := Aside0.mk (below_step bw hb)
    clear hb
    refine hK.out _ _ ⟨(blk_cell BK531.out 0).trans rfl, (blk_cell BK520.out 0).trans rfl⟩ (fun hHeld => ?_)
    clear hK K
    refine norm_ (a' := ?_) ?_ ?_
    rotate_left
    ·show Act.put _ (some 30) _ = _
     simp only [Act.put, qa, qb, qc, i64_w, i32_w]
     rfl
    refine pure_ (i := 4) (N := some 31) (v := ?_) (a' := ?_) #[Y,Y,Y,Y,Y] rfl rfl (by kernel_rfl) (fun _ _ _ h => h) (Or.inl ⟨by rfl, ?_⟩) ?_ ?_
    rotate_left
    ·intro w'
     go_simp
     with_reducible rfl
    rotate_left
    ·simp only [Act.put, qa, qb, qc, i64_w, i32_w]
     rfl
    refine done_ (by kernel_rfl) ?_
    have hcz38_0 := bc BK531 0 (.slice Ao28 t528.length co28)
    have hfz38_0 := blk_frozen BK531.out 0
    go_upto_region 14 with (first | ((with_reducible refine gate_callee (f := 22) rfl ?_); refine gl (some 34) Try.func22 #[.agg #[.slice Ao28 t528.length co28], .int .i64 1] ?_; (with_reducible refine (laws_markSemigroup.calls k (fun k_ => some k_ = (.slice Ao28 t528.length co28 : Value).ownBlock) (.slice Ao28 t528.length co28) t528 1 t540 t541 w _ ?side1 ?side2 A16.out).mono ?_); (case side1 => repeat (first | (with_reducible first | exact HB.out | apply below_alloc | apply pw_below_drewN | apply below_drew1 | refine below_set ?_ GE520.out | refine below_set ?_ GE531.out) | exact HB.out)); (case side2 => exact Kd.R_tight rfl HO530.out); rintro e w39 ⟨rfl, hy0, hb, hkp⟩; refine ⟨_, rfl, ?_⟩; replace BK520 := Aside0.mk (blk_kept (bo BK520.out) hkp (fun hs_ => (fun e_ => (Kd.R_ne HO530.out BK520.out (by decide)) e_) hs_)); replace HO524 := Aside0.mk (Kd.R_mono (ok' := fun k_ => some k_ ≠ (.slice Ao33 t525.length co33 : Value).ownBlock ∧ some k_ ≠ (.slice Ao28 t528.length co28 : Value).ownBlock ∧ some k_ ≠ (.slice Ao32 t532.length co32 : Value).ownBlock ∧ some k_ ≠ (.slice Ao36 t536.length co36 : Value).ownBlock) (Kd.R_keptB (HO524.out) hkp (fun k_ hk_ hs_ => by first | exact (hk_.1.1.2) hs_ | simp_all)) (fun k_ hk_ => by first | exact ⟨hk_.1.1.1.1.2, hk_.1.1.1.2, hk_.1.1.2, hk_.1.2⟩ | simp_all)); replace HO527 := Aside0.mk (Kd.R_mono (ok' := fun k_ => some k_ ≠ (.slice Ao23 t522.length co23 : Value).ownBlock ∧ some k_ ≠ (.slice Ao28 t528.length co28 : Value).ownBlock ∧ some k_ ≠ (.slice Ao32 t532.length co32 : Value).ownBlock ∧ some k_ ≠ (.slice Ao36 t536.length co36 : Value).ownBlock) (Kd.R_keptB (HO527.out) hkp (fun k_ hk_ hs_ => by first | exact (hk_.1.1.2) hs_ | simp_all)) (fun k_ hk_ => by first | exact ⟨hk_.1.1.1.1.2, hk_.1.1.1.2, hk_.1.1.2, hk_.1.2⟩ | simp_all)); replace BK531 := Aside0.mk (blk_kept (bo BK531.out) hkp (fun hs_ => (fun e_ => (Kd.R_ne HO530.out BK531.out (by decide)) e_) hs_)); replace HO530 := Aside0.mk (Kd.R_reok rfl hy0 (fun k_ e_ => HO530.out.1 k_ e_)); replace HO534 := Aside0.mk (Kd.R_mono (ok' := fun k_ => some k_ ≠ (.slice Ao23 t522.length co23 : Value).ownBlock ∧ some k_ ≠ (.slice Ao33 t525.length co33 : Value).ownBlock ∧ some k_ ≠ (.slice Ao28 t528.length co28 : Value).ownBlock ∧ some k_ ≠ (.slice Ao36 t536.length co36 : Value).ownBlock) (Kd.R_keptB (HO534.out) hkp (fun k_ hk_ hs_ => by first | exact (hk_.1.2) hs_ | simp_all)) (fun k_ hk_ => by first | exact ⟨hk_.1.1.1.1.2, hk_.1.1.1.2, hk_.1.1.2, hk_.1.2⟩ | simp_all)); replace HO538 := Aside0.mk (Kd.R_mono (ok' := fun k_ => some k_ ≠ (.slice Ao23 t522.length co23 : Value).ownBlock ∧ some k_ ≠ (.slice Ao33 t525.length co33 : Value).ownBlock ∧ some k_ ≠ (.slice Ao28 t528.length co28 : Value).ownBlock ∧ some k_ ≠ (.slice Ao32 t532.length co32 : Value).ownBlock) (Kd.R_keptB (HO538.out) hkp (fun k_ hk_ hs_ => by first | exact (hk_.1.2) hs_ | simp_all)) (fun k_ hk_ => by first | exact ⟨hk_.1.1.1.1.2, hk_.1.1.1.2, hk_.1.1.2, hk_.1.2⟩ | simp_all)); replace HB := Aside0.mk (hb); clear hb hkp hy0))
    (try simp only [Act.put, List.setIfInBounds_toArray, List.set_cons_zero, List.set_cons_succ])
    go_cut [42] (fun v42 wc => ∃ (kq : Nat) (x42_16 : Bool), v42 = .bool x42_16 ∧ Aside0 (laws_FnExactCanonicalGens.j0 kq t525 t532 x42_16 l0_0 = some true) ∧ Aside0 (kq ≤ k) ∧ Aside0 (Kd.R (Kd.int .i64) 3 wc w.heap.size (fun k_ => some k_ ≠ ((.slice Ao32 t532.length co32) : Value).ownBlock ∧ some k_ ≠ ((.slice Ao28 t528.length co28) : Value).ownBlock) (.slice Ao33 t525.length co33) t525) ∧ Aside0 (Kd.R (Kd.int .i64) 3 wc w.heap.size (fun k_ => some k_ ≠ ((.slice Ao33 t525.length co33) : Value).ownBlock ∧ some k_ ≠ ((.slice Ao28 t528.length co28) : Value).ownBlock) (.slice Ao32 t532.length co32) t532) ∧ Aside0 (Kd.R (Kd.int .i64) 3 wc w.heap.size (fun k_ => some k_ ≠ ((.slice Ao33 t525.length co33) : Value).ownBlock ∧ some k_ ≠ ((.slice Ao32 t532.length co32) : Value).ownBlock) (.slice Ao28 t528.length co28) t541) ∧ Aside0 (wc.heap[gb520]? = some (.cells #[(.slice A0_0 l0_0.length c0_0)] 24 (0, 0))) ∧ Aside0 (wc.heap[gb531]? = some (.cells #[(.slice Ao28 t528.length co28)] 27 (0, 0))) ∧ Aside0 (Below w.heap.size w wc))
    case first =>
     have H := HC17.out
     clear HC17
     replace H := gi H; obtain ⟨c40b0, H⟩ | ⟨c40b0, H⟩ := H
     ·(first | rw [c40b0] | (simp only [i64_w, i32_w]; rw [c40b0]) | skip)
      have H' := Aside0.mk H
      clear H
      go_wp2
      go_meet
      case rel => exact ⟨_, (true), rr, H', ⟨om⟩, ⟨by (with_reducible repeat (first | apply Kd.R_alloc | apply Kd.R_drewN | apply Kd.R_drew)); exact Kd.R_mono HO527.out (fun _ hk => by first | exact ⟨hk.2.2.1, hk.2.1⟩ | simp_all)⟩, ⟨by (with_reducible repeat (first | apply Kd.R_alloc | apply Kd.R_drewN | apply Kd.R_drew)); exact Kd.R_mono HO534.out (fun _ hk => by first | exact ⟨hk.2.1, hk.2.2.1⟩ | simp_all)⟩, ⟨by (with_reducible repeat (first | apply Kd.R_alloc | apply Kd.R_drewN | apply Kd.R_drew)); exact Kd.R_mono HO530.out (fun _ hk => by first | exact ⟨hk.1.1.2, hk.1.2⟩ | simp_all)⟩, ⟨bo BK520.out⟩, ⟨bo BK531.out⟩, ⟨bw⟩⟩
     ·(first | rw [c40b0] | (simp only [i64_w, i32_w]; rw [c40b0]) | skip)
      replace H := ga H; obtain ⟨t542, A41, H⟩ := H
      have H' := Aside0.mk H
      clear H
      go_wp2_with (first | (go_at_call 20; (with_reducible refine (laws_eqIntS.calls k _ _ t532 _ _ t525 t542 _ ?side1 ?side2 ?side3 ?side4 A41.out).mono ?_); (case side1 => exact co (Kd.R_reads' HO534.out).2.2); (case side2 => exact (Kd.R_reads' HO534.out).2.1); (case side3 => exact co (Kd.R_reads' HO527.out).2.2); (case side4 => exact (Kd.R_reads' HO527.out).2.1); rintro e w' ⟨rfl, ⟨nd, rfl⟩⟩))
      go_meet
      case rel => exact ⟨_, (!t542), rr, H', ⟨om⟩, ⟨by (with_reducible repeat (first | apply Kd.R_alloc | apply Kd.R_drewN | apply Kd.R_drew)); exact Kd.R_mono HO527.out (fun _ hk => by first | exact ⟨hk.2.2.1, hk.2.1⟩ | simp_all)⟩, ⟨by (with_reducible repeat (first | apply Kd.R_alloc | apply Kd.R_drewN | apply Kd.R_drew)); exact Kd.R_mono HO534.out (fun _ hk => by first | exact ⟨hk.2.1, hk.2.2.1⟩ | simp_all)⟩, ⟨by (with_reducible repeat (first | apply Kd.R_alloc | apply Kd.R_drewN | apply Kd.R_drew)); exact Kd.R_mono HO530.out (fun _ hk => by first | exact ⟨hk.1.1.2, hk.1.2⟩ | simp_all)⟩, ⟨bo BK520.out⟩, ⟨bo BK531.out⟩, ⟨bw⟩⟩
    case rest =>
     clear HC17
     try clear c3b0; try clear c40b0; try clear hcz19_0; try clear hcz21_0; try clear hcz25_0; try clear hcz30_0; try clear hcz38_0; try clear hcz5_0; try clear hfz19_0; try clear hfz21_0; try clear hfz25_0; try clear hfz30_0; try clear hfz38_0; try clear hfz5_0
     obtain ⟨kq, x42_16, rfl, HA, HJ16, HO_4, HO_6, HO_532000, BK520, BK531, HB⟩ := hcut
     have hl532000_16 := (Kd.R_reads' HO_532000.out).1
     rw [hl532000_16] at HO_532000
     (try simp only [hl532000_16])
     (try simp only [hl532000_16] at BK520)
     (try simp only [hl532000_16] at BK531)
     (try simp only [hl532000_16] at HO_4)
     (try simp only [hl532000_16] at HO_6)
     cases kq with
     | zero => exact absurd HA.out (by simp [laws_FnExactCanonicalGens.j0])
     | succ kj16 =>
      have H := HA.out
      clear HA
      simp only [laws_FnExactCanonicalGens.j0] at H
      replace H := gb H; obtain ⟨rfl, H⟩ | ⟨rfl, H⟩ := H
      ·exact absurd (Option.some.inj H) (by decide)
      ·replace H := ga H; obtain ⟨⟨t543, t544⟩, A43, H⟩ := H
       replace H : ((laws_heldIntS.f kj16 t544 1).bind fun t545 => (if t545 < 0 then (some false) else (if t545 = t543 then ((laws_toSemigroup.f kj16 l0_0).bind fun t546 => ((impl_CanonicalGens.f kj16 t546).bind fun t549 => ((laws_eqIntS.f kj16 t549 t525).bind fun t552 => (if t552 = true then ((laws_heldIntS.f kj16 t544 1).bind fun t553 => (if t553 < 0 then (some false) else (if t553 = t543 then (some true) else (some false)))) else (some false))))) else (some false)))) = some true := H
       replace H := ga H; obtain ⟨t545, A44, H⟩ := H
       replace H := gi H; obtain ⟨c45b0, H⟩ | ⟨c45b0, H⟩ := H
       ·exact absurd (Option.some.inj H) (by decide)
       ·by_cases c47 : t545 = t543
        ·rw [if_pos c47] at H
         have c47b0 : (t545 == t543) = true := beq_iff_eq.mpr c47
         have c47b1 : (t545 != t543) = false := bne_eq_false_iff_eq.mpr c47
         clear c47
         replace H := ga H; obtain ⟨t546, A48, H⟩ := H
         replace H := ga H; obtain ⟨t549, A49, H⟩ := H
         replace H := ga H; obtain ⟨t552, A50, H⟩ := H
         replace H := gb H; obtain ⟨rfl, H⟩ | ⟨rfl, H⟩ := H
         ·replace H := ga H; obtain ⟨t553, A52, H⟩ := H
          replace H := gi H; obtain ⟨c53b0, H⟩ | ⟨c53b0, H⟩ := H
          ·exact absurd (Option.some.inj H) (by decide)
          ·by_cases c61 : t553 = t543
           ·rw [if_pos c61] at H
            have c61b0 : (t553 == t543) = true := beq_iff_eq.mpr c61
            have c61b1 : (t553 != t543) = false := bne_eq_false_iff_eq.mpr c61
            clear c61
            skip
            go_wp2_with (first | ((with_reducible refine gate_callee (f := 23) rfl ?_); refine gl (some 45) Try.func23 #[.slice Ao32 t532.length co32, .int .i64 1] ?_; (with_reducible refine (laws_markIntS.calls kj16 (fun k_ => some k_ = (.slice Ao32 t532.length co32 : Value).ownBlock) (.slice Ao32 t532.length co32) t532 1 t543 t544 w _ ?side1 ?side2 A43.out).mono ?_); (case side1 => repeat (first | (with_reducible first | exact HB.out | apply below_alloc | apply pw_below_drewN | apply below_drew1 | refine below_set ?_ GE520.out | refine below_set ?_ GE531.out) | exact HB.out)); (case side2 => exact Kd.R_tight rfl HO_6.out); rintro e w62 ⟨rfl, hy0, hb, hkp⟩; refine ⟨_, rfl, ?_⟩; replace HO_4 := Aside0.mk (Kd.R_mono (ok' := fun k_ => some k_ ≠ (.slice Ao32 t532.length co32 : Value).ownBlock ∧ some k_ ≠ (.slice Ao28 t541.length co28 : Value).ownBlock) (Kd.R_keptB (HO_4.out) hkp (fun k_ hk_ hs_ => by first | exact (hk_.1) hs_ | simp_all)) (fun k_ hk_ => by first | exact ⟨hk_.1.1, hk_.1.2⟩ | simp_all)); replace HO_532000 := Aside0.mk (Kd.R_mono (ok' := fun k_ => some k_ ≠ (.slice Ao33 t525.length co33 : Value).ownBlock ∧ some k_ ≠ (.slice Ao32 t532.length co32 : Value).ownBlock) (Kd.R_keptB (HO_532000.out) hkp (fun k_ hk_ hs_ => by first | exact (hk_.2) hs_ | simp_all)) (fun k_ hk_ => by first | exact ⟨hk_.1.1, hk_.1.2⟩ | simp_all)); replace BK520 := Aside0.mk (blk_kept (bo BK520.out) hkp (fun hs_ => (fun e_ => (Kd.R_ne HO_6.out BK520.out (by decide)) e_) hs_)); replace BK531 := Aside0.mk (blk_kept (bo BK531.out) hkp (fun hs_ => (fun e_ => (Kd.R_ne HO_6.out BK531.out (by decide)) e_) hs_)); replace HO_6 := Aside0.mk (Kd.R_reok rfl hy0 (fun k_ e_ => HO_6.out.1 k_ e_)); replace HB := Aside0.mk (hb); clear hb hkp hy0) | ((with_reducible refine gate_callee (f := 24) rfl ?_); refine goesL_ (some 48) rfl rfl Try.func24 (by kernel_rfl) rfl #[.slice Ao32 t544.length co32, .int .i64 1] rfl (by (try simp only [List.map_toArray, List.map_cons, List.map_nil]); first | done | (rw [show t544.length = t532.length from (Kd.R_reads' HO_6.out).1.symm] <;> rfl) | rfl | (simp only [List.length_drop, List.length_take]; rfl)) ?_; (with_reducible refine (laws_heldIntS.calls kj16 _ _ t544 1 t545 _ ?side1 ?side2 A44.out).mono ?_); (case side1 => exact co (Kd.R_reads' HO_6.out).2.2); (case side2 => rw [show t544.length = t532.length from (Kd.R_reads' HO_6.out).1.symm]; exact (Kd.R_reads' HO_6.out).2.1); rintro e w' ⟨rfl, ⟨nd, rfl⟩⟩; refine ⟨_, rfl, ?_⟩; have hnb63 := NB520_531.out; have hnc63 := NB531_520.out; have hcz64_0 := bc BK520 0 (.slice A0_0 l0_0.length c0_0); have hfz64_0 := blk_frozen BK520.out 0) | ((with_reducible refine gate_callee (f := 17) rfl ?_); refine gl (some 55) Try.func17 #[.agg #[.slice A0_0 l0_0.length c0_0]] ?_; (with_reducible refine (laws_toSemigroup.calls kj16 _ _ l0_0 t546 _ ?side1 ?side2 A48.out).mono ?_); (case side1 => exact co (Kd.C_below HR0_0.out bw)); (case side2 => exact HC0_0.out); rintro e w65 ⟨v547, rfl, ho0, hb⟩; refine ⟨_, rfl, ?_⟩; have HO548 := Aside0.mk (Kd.R_lower (Kd.R_new' (Kd.R_new' (Kd.R_new' ho0 (Kd.R_lt (ro HO_4.out))) (Kd.R_lt (ro HO_6.out))) (Kd.R_lt (ro HO_532000.out))) (below_size bw)); replace HO_4 := Aside0.mk (Kd.R_elder' (ro HO_4.out) (Kd.R_base ho0) hb); replace HO_6 := Aside0.mk (Kd.R_elder' (ro HO_6.out) (Kd.R_base ho0) hb); replace HO_532000 := Aside0.mk (Kd.R_elder' (ro HO_532000.out) (Kd.R_base ho0) hb); replace BK520 := Aside0.mk (blk_below (g := gb520) (o := .cells #[.slice A0_0 l0_0.length c0_0] 24 (0, 0)) (bo BK520.out) hb); replace BK531 := Aside0.mk (blk_below (g := gb531) (o := .cells #[.slice Ao28 t541.length co28] 27 (0, 0)) (bo BK531.out) hb); replace HB := Aside0.mk (below_step bw hb); clear hb ho0; obtain ⟨Ao66, co66, eo66⟩ := Kd.R_slice HO548.out; subst eo66) | ((with_reducible refine gate_callee (f := 42) rfl ?_); refine gl (some 56) Try.func42 #[.agg #[.slice Ao66 t546.length co66]] ?_; (with_reducible refine (impl_CanonicalGens.calls kj16 _ _ t546 t549 _ ?side1 ?side2 A49.out).mono ?_); (case side1 => exact co (Kd.R_reads' HO548.out).2.2); (case side2 => exact (Kd.R_reads' HO548.out).2.1); rintro e w67 ⟨v550, rfl, ho0, hb⟩; refine ⟨_, rfl, ?_⟩; have HO551 := Aside0.mk (Kd.R_lower (Kd.R_new' (Kd.R_new' (Kd.R_new' (Kd.R_new' ho0 (Kd.R_lt (ro HO_4.out))) (Kd.R_lt (ro HO_6.out))) (Kd.R_lt (ro HO_532000.out))) (Kd.R_lt (ro HO548.out))) (below_size bw)); replace HO_4 := Aside0.mk (Kd.R_elder' (ro HO_4.out) (Kd.R_base ho0) hb); replace HO_6 := Aside0.mk (Kd.R_elder' (ro HO_6.out) (Kd.R_base ho0) hb); replace HO_532000 := Aside0.mk (Kd.R_elder' (ro HO_532000.out) (Kd.R_base ho0) hb); replace HO548 := Aside0.mk (Kd.R_elder' (ro HO548.out) (Kd.R_base ho0) hb); replace BK520 := Aside0.mk (blk_below (g := gb520) (o := .cells #[.slice A0_0 l0_0.length c0_0] 24 (0, 0)) (bo BK520.out) hb); replace BK531 := Aside0.mk (blk_below (g := gb531) (o := .cells #[.slice Ao28 t541.length co28] 27 (0, 0)) (bo BK531.out) hb); replace HB := Aside0.mk (below_step bw hb); clear hb ho0; obtain ⟨Ao68, co68, eo68⟩ := Kd.R_slice HO551.out; subst eo68) | ((with_reducible refine gate_callee (f := 20) rfl ?_); refine gl (some 59) Try.func20 #[.slice Ao68 t549.length co68, .slice Ao33 t525.length co33] ?_; (with_reducible refine (laws_eqIntS.calls kj16 _ _ t549 _ _ t525 true _ ?side1 ?side2 ?side3 ?side4 A50.out).mono ?_); (case side1 => exact co (Kd.R_reads' HO551.out).2.2); (case side2 => exact (Kd.R_reads' HO551.out).2.1); (case side3 => exact co (Kd.R_reads' HO_4.out).2.2); (case side4 => exact (Kd.R_reads' HO_4.out).2.1); rintro e w' ⟨rfl, ⟨nd, rfl⟩⟩; refine ⟨_, rfl, ?_⟩) | ((with_reducible refine gate_callee (f := 24) rfl ?_); refine goesL_ (some 63) rfl rfl Try.func24 (by kernel_rfl) rfl #[.slice Ao32 t544.length co32, .int .i64 1] rfl (by (try simp only [List.map_toArray, List.map_cons, List.map_nil]); first | done | (rw [show t544.length = t532.length from (Kd.R_reads' HO_6.out).1.symm] <;> rfl) | rfl | (simp only [List.length_drop, List.length_take]; rfl)) ?_; (with_reducible refine (laws_heldIntS.calls kj16 _ _ t544 1 t553 _ ?side1 ?side2 A52.out).mono ?_); (case side1 => exact co (Kd.R_reads' HO_6.out).2.2); (case side2 => rw [show t544.length = t532.length from (Kd.R_reads' HO_6.out).1.symm]; exact (Kd.R_reads' HO_6.out).2.1); rintro e w' ⟨rfl, ⟨nd, rfl⟩⟩; refine ⟨_, rfl, ?_⟩))
            go_ret
            exact ⟨re, bw⟩
           ·rw [if_neg c61] at H
            have c61b0 : (t553 == t543) = false := beq_eq_false_iff_ne.mpr c61
            have c61b1 : (t553 != t543) = true := bne_iff_ne.mpr c61
            exact absurd (Option.some.inj H) (by decide)
         ·exact absurd (Option.some.inj H) (by decide)
        ·rw [if_neg c47] at H
         have c47b0 : (t545 == t543) = false := beq_eq_false_iff_ne.mpr c47
         have c47b1 : (t545 != t543) = true := bne_iff_ne.mpr c47
         exact absurd (Option.some.inj H) (by decide)
   ·exact absurd (Option.some.inj H) (by decide)
  ·exact absurd (Option.some.inj H) (by decide)
end Go.Proofs.Ytiejmnnnjmmifaa.C
