/- Contracts of functions of the program: spec_DrawIsWithin, impl_IsWithin, spec_IsWithin. -/
import Derived.Test.YtkfplkdchkmgbaaC0
import Derived.Test.YtkfplkdchkmgbaaC1
import Derived.Test.YtkfplkdchkmgbaaC3
import Derived.Test.YtkfplkdchkmgbaaC4
import Derived.Test.YtkfplkdchkmgbaaC5
import Derived.Test.YtkfplkdchkmgbaaC6
import Derived.Test.YtkfplkdchkmgbaaC7
import Derived.Test.YtkfplkdchkmgbaaC14
namespace Go.Proofs.Ytkfplkdchkmgbaa.C
open Go.RowKit Go.Proofs.YtkfplkdchkmgbaaW.PrintWords Go.Proofs.YtkfplkdchkmgbaaW.PrintLast Go.Proofs.YtkfplkdchkmgbaaW.PrintMore
attribute [local go_sem] max2_int min2_int max_two min_two max_three min_three max_four min_four
set_option linter.unusedVariables false
set_option linter.unusedSimpArgs false

/-! ### spec_DrawIsWithin: function 114 -/
def spec_DrawIsWithin.f (k : Nat) (l0 : List Int) : Option (List Int × List Int) := (spec_l1New.f k l0).bind fun bt778 => ((spec_l3Bent.f k bt778.1 bt778.2.1 bt778.2.2).bind fun bt782 => ((spec_l3Bent.f k bt778.1 bt782.2.1 bt782.2.2).bind fun bt788 => ((spec_l1Once.f bt778.1 bt788.2.1 bt788.2.2 2).bind fun bt794 => (if bt794.1 = true then ((spec_AddOf.f k bt782.1 bt788.1).bind fun bt797 => (if bt797.2 = true then (some (bt782.1, bt797.1)) else (some (bt782.1, bt788.1)))) else (some (bt782.1, bt788.1))))))
set_option maxHeartbeats 8000000 in
set_option maxRecDepth 100000 in
theorem spec_DrawIsWithin.calls (k : Nat) (A0 : Option Addr) (c0 : Nat) (l0 : List Int) (r1 : List Int) (r2 : List Int) (w : World) (hr0 : Kd.C (Kd.int .u8) w A0 l0.length l0) (hc0 : l0.length ≤ c0) (h : spec_DrawIsWithin.f k l0 = some (r1, r2)) :
  Calls Try.prog 114 #[.slice A0 l0.length c0] w fun e w' => ∃ v0_ v1_ : Value, e = .returned (.tuple #[.agg #[v0_], .agg #[v1_]]) ∧ Kd.Q (Kd.int .i64) 3 w' w.heap.size (fun k_ => some k_ ≠ (v1_ : Value).ownBlock) v0_ r1 ∧ Kd.Q (Kd.int .i64) 3 w' w.heap.size (fun k_ => some k_ ≠ (v0_ : Value).ownBlock) v1_ r2 ∧ Below w.heap.size w w' := by
 have hu26 := Try.underlying26
 have HR0 := am hr0
 have HC0 := am hc0
 clear hr0 hc0
 have HB := am (Below.refl w.heap.size w)
 have H : ((spec_l1New.f k l0).bind fun bt778 => ((spec_l3Bent.f k bt778.1 bt778.2.1 bt778.2.2).bind fun bt782 => ((spec_l3Bent.f k bt778.1 bt782.2.1 bt782.2.2).bind fun bt788 => ((spec_l1Once.f bt778.1 bt788.2.1 bt788.2.2 2).bind fun bt794 => (if bt794.1 = true then ((spec_AddOf.f k bt782.1 bt788.1).bind fun bt797 => (if bt797.2 = true then (some (bt782.1, bt797.1)) else (some (bt782.1, bt788.1)))) else (some (bt782.1, bt788.1))))))) = some (r1, r2) := h
 clear h
 replace H := ga H; obtain ⟨⟨t778, t779, t780⟩, A2, H⟩ := H
 replace H : ((spec_l3Bent.f k t778 t779 t780).bind fun bt782 => ((spec_l3Bent.f k t778 bt782.2.1 bt782.2.2).bind fun bt788 => ((spec_l1Once.f t778 bt788.2.1 bt788.2.2 2).bind fun bt794 => (if bt794.1 = true then ((spec_AddOf.f k bt782.1 bt788.1).bind fun bt797 => (if bt797.2 = true then (some (bt782.1, bt797.1)) else (some (bt782.1, bt788.1)))) else (some (bt782.1, bt788.1)))))) = some (r1, r2) := H
 replace H := ga H; obtain ⟨⟨t782, t785, t786⟩, A3, H⟩ := H
 replace H : ((spec_l3Bent.f k t778 t785 t786).bind fun bt788 => ((spec_l1Once.f t778 bt788.2.1 bt788.2.2 2).bind fun bt794 => (if bt794.1 = true then ((spec_AddOf.f k t782 bt788.1).bind fun bt797 => (if bt797.2 = true then (some (t782, bt797.1)) else (some (t782, bt788.1)))) else (some (t782, bt788.1))))) = some (r1, r2) := H
 replace H := ga H; obtain ⟨⟨t788, t791, t792⟩, A4, H⟩ := H
 replace H : ((spec_l1Once.f t778 t791 t792 2).bind fun bt794 => (if bt794.1 = true then ((spec_AddOf.f k t782 t788).bind fun bt797 => (if bt797.2 = true then (some (t782, bt797.1)) else (some (t782, t788)))) else (some (t782, t788)))) = some (r1, r2) := H
 replace H := ga H; obtain ⟨⟨t794, t795, t796⟩, A5, H⟩ := H
 replace H : (if t794 = true then ((spec_AddOf.f k t782 t788).bind fun bt797 => (if bt797.2 = true then (some (t782, bt797.1)) else (some (t782, t788)))) else (some (t782, t788))) = some (r1, r2) := H
 replace H := gb H; obtain ⟨rfl, H⟩ | ⟨rfl, H⟩ := H
 ·replace H := ga H; obtain ⟨⟨t797, t800⟩, A7, H⟩ := H
  replace H : (if t800 = true then (some (t782, t797)) else (some (t782, t788))) = some (r1, r2) := H
  replace H := gb H; obtain ⟨rfl, H⟩ | ⟨rfl, H⟩ := H
  ·simp only [Option.some.injEq, Prod.mk.injEq] at H
   obtain ⟨rfl, rfl⟩ := H
   go_enter Try.func114, Try.ntmps114
   try go_wp2_with (first | ((with_reducible refine gate_dst (N := 2) rfl ?_); refine bx 2 #[.slice none 0 0] 26 ?_; intro gb776 hg w9 hbox hb; have BK776 := am (hbox); have GW776 := am (gs hg : w.heap.size ≤ gb776); have GE776 := GW776; replace HB := am (below_step bw hb); clear hb hbox hg) | ((with_reducible refine gate_dst (N := 3) rfl ?_); refine bx 3 #[.slice none 0 0] 26 ?_; intro gb777 hg w10 hbox hb; have BK777 := am (hbox); have GW777 := am (gs hg : w.heap.size ≤ gb777); have GE777 := GW777; replace HB := am (below_step bw hb); have NB776_777 := nl hg BK776; have NB777_776 := ns NB776_777; replace BK776 := kb BK776 hb; clear hb hbox hg) | ((with_reducible refine gate_callee (f := 131) rfl ?_); refine gl (some 10) Try.func131 #[.slice A0 l0.length c0] ?_; (with_reducible refine (spec_l1New.calls k _ _ l0 t778 t779 t780 w _ ?side1 ?side2 ?side3 A2.out).mono ?_); (case side1 => exact bw); (case side2 => exact HR0.out); (case side3 => exact HC0.out); rintro e w11 ⟨g781, rfl, hi, hb, hb2⟩; refine ⟨_, rfl, ?_⟩; replace HB := am (hb); have HI781 := am (hi); have NB781_776 := am (IsS132.ne_blk hi (blk_below (g := gb776) (o := .cells #[.slice none 0 0] 26 (0, 0)) (bo BK776.out) hb2) (by decide)); have NB776_781 := ns NB781_776; replace BK776 := kb BK776 hb2; have NB781_777 := am (IsS132.ne_blk hi (blk_below (g := gb777) (o := .cells #[.slice none 0 0] 26 (0, 0)) (bo BK777.out) hb2) (by decide)); have NB777_781 := ns NB781_777; replace BK777 := kb BK777 hb2; clear hb hb2 hi) | ((with_reducible refine gate_callee (f := 130) rfl ?_); refine gl (some 12) Try.func130 #[.pointer (some ⟨g781, 0, none⟩)] ?_; (with_reducible refine (spec_l3Bent.calls k g781 t778 t779 t780 t782 t785 t786 w _ ?side1 ?side2 A3.out).mono ?_); (case side1 => exact iw HI781.out); (case side2 => exact bv); rintro e w12 ⟨v783, rfl, ho0, hi, hb, hk⟩; refine ⟨_, rfl, ?_⟩; replace BK776 := kk hk BK776 NB776_781; replace BK777 := kk hk BK777 NB777_781; have HO784 := am (Kd.Q_lower ho0 (below_size bv)); replace HB := am (hb); replace HI781 := am (hi); clear hb hk hi ho0) | ((with_reducible refine gate_dst (N := 5) rfl ?_); refine bx 5 #[.slice none 0 0] 26 ?_; intro gb787 hg w13 hbox hb; replace HO784 := qK HO784 hb; have BK787 := am (hbox); have GW787 := am ((by rw [hg]; exact (below_size bv) : w.heap.size ≤ gb787)); have GE787 := GW787; replace HB := am (below_step bv hb); have NB776_787 := nl hg BK776; have NB787_776 := ns NB776_787; replace BK776 := kb BK776 hb; have NB777_787 := nl hg BK777; have NB787_777 := ns NB777_787; replace BK777 := kb BK777 hb; have NB781_787 := am ((by rw [hg]; exact Nat.ne_of_lt (IsS132.lt (show IsS132 w _ g781 t778 t785 t786 from (iw HI781.out))) : g781 ≠ gb787)); have NB787_781 := ns NB781_787; replace HI781 := am (IsS132.below (iw HI781.out) hb); clear hb hbox hg; obtain ⟨Ao14, co14, eo14, _⟩ := Kd.Q_slice HO784.out; subst eo14; have hnb15 := NB787_776.out; have hnc15 := NB776_787.out; have hnb16 := NB787_777.out; have hnc16 := NB777_787.out; have hnb17 := NB787_781.out; have hnc17 := NB781_787.out; have hcz18_0 := bc BK787 0 (.slice none 0 0); have hfz18_0 := blk_frozen BK787.out 0) | ((with_reducible refine gate_callee (f := 130) rfl ?_); refine gl (some 14) Try.func130 #[.pointer (some ⟨g781, 0, none⟩)] ?_; (with_reducible refine (spec_l3Bent.calls k g781 t778 t785 t786 t788 t791 t792 w _ ?side1 ?side2 A4.out).mono ?_); (case side1 => exact iw HI781.out); (case side2 => exact bv); rintro e w19 ⟨v789, rfl, ho0, hi, hb, hk⟩; refine ⟨_, rfl, ?_⟩; replace BK776 := kk hk BK776 NB776_781; replace BK777 := kk hk BK777 NB777_781; have HO790 := am (Kd.Q_lower (Kd.Q_new' ho0 (Kd.Q_lt (qF HO784 BK787 (.slice Ao14 t782.length co14)))) (below_size bv)); replace HO784 := am (Kd.Q_mono (Kd.Q_told (Kd.Q_oldK (IsS132.apartQ (show IsS132 w _ g781 t778 t785 t786 from (iw HI781.out)) (qF HO784 BK787 (.slice Ao14 t782.length co14)) (by decide)) hk) (Kd.Q_base ho0)) (fun _ h_ => h_.1)); replace BK787 := am (KeepBut.blk hk (g' := gb787) (o := .cells #[.slice Ao14 t782.length co14] 26 (0, 0)) (by (with_reducible repeat (first | refine blk_drewN ?_ _ | refine blk_drew ?_ | refine blk_alloc ?_ _)); refine blk_put (cs := #[.slice none 0 0]) ?_ 0 _ rfl; (with_reducible repeat (first | refine blk_drewN ?_ _ | refine blk_drew ?_ | refine blk_alloc ?_ _)); exact BK787.out) NB787_781.out (by simp)); replace HB := am (hb); replace HI781 := am (hi); clear hb hk hi ho0) | ((with_reducible refine gate_dst (N := 6) rfl ?_); refine bx 6 #[.slice none 0 0] 26 ?_; intro gb793 hg w20 hbox hb; replace HO784 := qK HO784 hb; replace HO790 := qK HO790 hb; have BK793 := am (hbox); have GW793 := am ((by rw [hg]; exact (below_size bv) : w.heap.size ≤ gb793)); have GE793 := GW793; replace HB := am (below_step bv hb); have NB776_793 := nl hg BK776; have NB793_776 := ns NB776_793; replace BK776 := kb BK776 hb; have NB777_793 := nl hg BK777; have NB793_777 := ns NB777_793; replace BK777 := kb BK777 hb; have NB787_793 := nl hg BK787; have NB793_787 := ns NB787_793; replace BK787 := kb BK787 hb; have NB781_793 := am ((by rw [hg]; exact Nat.ne_of_lt (IsS132.lt (show IsS132 w _ g781 t778 t791 t792 from (iw HI781.out))) : g781 ≠ gb793)); have NB793_781 := ns NB781_793; replace HI781 := am (IsS132.below (iw HI781.out) hb); clear hb hbox hg; obtain ⟨Ao21, co21, eo21, _⟩ := Kd.Q_slice HO790.out; subst eo21; have hnb22 := NB793_776.out; have hnc22 := NB776_793.out; have hnb23 := NB793_777.out; have hnc23 := NB777_793.out; have hnb24 := NB793_787.out; have hnc24 := NB787_793.out; have hnb25 := NB793_781.out; have hnc25 := NB781_793.out; have hcz26_0 := bc BK793 0 (.slice none 0 0); have hfz26_0 := blk_frozen BK793.out 0) | ((with_reducible refine gate_callee (f := 163) rfl ?_); refine gl (some 16) Try.func163 #[.pointer (some ⟨g781, 0, none⟩), .int .i64 2] ?_; (with_reducible refine (spec_l1Once.calls g781 t778 t791 t792 2 true t795 t796 w _ ?side1 ?side2 A5.out).mono ?_); (case side1 => exact iw HI781.out); (case side2 => exact bv); rintro e w27 ⟨rfl, hi, hb, hk⟩; refine ⟨_, rfl, ?_⟩; replace BK776 := kk hk BK776 NB776_781; replace BK777 := kk hk BK777 NB777_781; replace HO784 := am (Kd.Q_mono (Kd.Q_keep (IsS132.apartQ (show IsS132 w _ g781 t778 t791 t792 from (iw HI781.out)) (qF HO784 BK793 (.slice Ao21 t788.length co21)) (by decide)) hk (fun _ h => h.2)) (fun _ h => h.1)); replace BK787 := kk hk BK787 NB787_781; replace HO790 := am (Kd.Q_mono (Kd.Q_keep (IsS132.apartQ (show IsS132 w _ g781 t778 t791 t792 from (iw HI781.out)) (qF HO790 BK793 (.slice Ao21 t788.length co21)) (by decide)) hk (fun _ h => h.2)) (fun _ h => h.1)); replace BK793 := am (KeepBut.blk hk (g' := gb793) (o := .cells #[.slice Ao21 t788.length co21] 26 (0, 0)) (by (with_reducible repeat (first | refine blk_drewN ?_ _ | refine blk_drew ?_ | refine blk_alloc ?_ _)); refine blk_put (cs := #[.slice none 0 0]) ?_ 0 _ rfl; (with_reducible repeat (first | refine blk_drewN ?_ _ | refine blk_drew ?_ | refine blk_alloc ?_ _)); exact BK793.out) NB793_781.out (by simp)); replace HB := am (hb); replace HI781 := am (hi); clear hb hk hi; have hcz28_0 := bc BK787 0 (.slice Ao14 t782.length co14); have hfz28_0 := blk_frozen BK787.out 0; have hcz29_0 := bc BK793 0 (.slice Ao21 t788.length co21); have hfz29_0 := blk_frozen BK793.out 0) | ((with_reducible refine gate_callee (f := 113) rfl ?_); refine gl (some 20) Try.func113 #[.agg #[.slice Ao14 t782.length co14], .agg #[.slice Ao21 t788.length co21]] ?_; (with_reducible refine (spec_AddOf.calls k _ _ t782 _ _ t788 t797 true _ ?side1 ?side2 ?side3 ?side4 A7.out).mono ?_); (case side1 => exact co (Kd.Q_reads' HO784.out).2.2); (case side2 => exact (Kd.Q_reads' HO784.out).2.1); (case side3 => exact co (Kd.Q_reads' HO790.out).2.2); (case side4 => exact (Kd.Q_reads' HO790.out).2.1); rintro e w30 ⟨v798, rfl, ho0, hb⟩; refine ⟨_, rfl, ?_⟩; have HO799 := am (Kd.R_lower (Kd.R_new' (Kd.R_new' ho0 (Kd.Q_lt (qo HO784.out))) (Kd.Q_lt (qo HO790.out))) (below_size bv)); replace HO784 := am (Kd.Q_elder' (qo HO784.out) (Kd.R_base ho0) hb); replace HO790 := am (Kd.Q_elder' (qo HO790.out) (Kd.R_base ho0) hb); replace BK776 := kb BK776 hb; replace BK777 := kb BK777 hb; replace BK787 := kb BK787 hb; replace BK793 := kb BK793 hb; replace HB := am (below_step bv hb); replace HI781 := am (IsS132.below (iw HI781.out) hb); clear hb ho0) | ((with_reducible refine gate_dst (N := 7) rfl ?_); refine bx 7 #[.slice none 0 0] 26 ?_; intro gb801 hg w31 hbox hb; replace HO784 := qK HO784 hb; replace HO790 := qK HO790 hb; replace HO799 := rK HO799 hb; have BK801 := am (hbox); have GW801 := am ((by rw [hg]; exact (below_size bv) : w.heap.size ≤ gb801)); have GE801 := GW801; replace HB := am (below_step bv hb); have NB776_801 := nl hg BK776; have NB801_776 := ns NB776_801; replace BK776 := kb BK776 hb; have NB777_801 := nl hg BK777; have NB801_777 := ns NB777_801; replace BK777 := kb BK777 hb; have NB787_801 := nl hg BK787; have NB801_787 := ns NB787_801; replace BK787 := kb BK787 hb; have NB793_801 := nl hg BK793; have NB801_793 := ns NB793_801; replace BK793 := kb BK793 hb; have NB781_801 := am ((by rw [hg]; exact Nat.ne_of_lt (IsS132.lt (show IsS132 w _ g781 t778 t795 t796 from (iw HI781.out))) : g781 ≠ gb801)); have NB801_781 := ns NB781_801; replace HI781 := am (IsS132.below (iw HI781.out) hb); clear hb hbox hg; obtain ⟨Ao32, co32, eo32⟩ := Kd.R_slice HO799.out; subst eo32; have hnb33 := NB801_776.out; have hnc33 := NB776_801.out; have hnb34 := NB801_777.out; have hnc34 := NB777_801.out; have hnb35 := NB801_787.out; have hnc35 := NB787_801.out; have hnb36 := NB801_793.out; have hnc36 := NB793_801.out; have hnb37 := NB801_781.out; have hnc37 := NB781_801.out; have hcz38_0 := bc BK801 0 (.slice none 0 0); have hfz38_0 := blk_frozen BK801.out 0))
   have n0_ : Aside0 (Kd.Q (Kd.int .i64) 3 (w31.setCell ⟨gb801, 0, none⟩ (.slice Ao32 t797.length co32)) w.heap.size (fun k_ => nb k_ Ao21 t788 co21 ∧ nb k_ Ao32 t797 co32) (.slice Ao14 t782.length co14) t782) := ⟨by (with_reducible repeat (first | apply Kd.Q_alloc | apply Kd.Q_drewN | apply Kd.Q_drew)); exact Kd.Q_mono (Kd.Q_far (p := ⟨gb801, 0, none⟩) (Kd.Q_types HO784.out BK801.out (by decide)) (fun _ hk => hk.2) (.slice Ao32 t797.length co32)) (fun _ hk => by first | exact ⟨hk.1.1.2, hk.1.2⟩ | simp_all)⟩
   have n1_ : Aside0 (Kd.Q (Kd.int .i64) 3 (w31.setCell ⟨gb801, 0, none⟩ (.slice Ao32 t797.length co32)) w.heap.size (fun k_ => nb k_ Ao14 t782 co14 ∧ nb k_ Ao32 t797 co32) (.slice Ao21 t788.length co21) t788) := ⟨by (with_reducible repeat (first | apply Kd.Q_alloc | apply Kd.Q_drewN | apply Kd.Q_drew)); exact Kd.Q_mono (Kd.Q_far (p := ⟨gb801, 0, none⟩) (Kd.Q_types HO790.out BK801.out (by decide)) (fun _ hk => hk.2) (.slice Ao32 t797.length co32)) (fun _ hk => by first | exact ⟨hk.1.1.2, hk.1.2⟩ | simp_all)⟩
   have n2_ : Aside0 (Kd.R (Kd.int .i64) 3 (w31.setCell ⟨gb801, 0, none⟩ (.slice Ao32 t797.length co32)) w.heap.size (fun k_ => nb k_ Ao14 t782 co14 ∧ nb k_ Ao21 t788 co21) (.slice Ao32 t797.length co32) t797) := ⟨by (with_reducible repeat (first | apply Kd.R_alloc | apply Kd.R_drewN | apply Kd.R_drew)); exact Kd.R_mono (Kd.R_far (p := ⟨gb801, 0, none⟩) (Kd.R_types HO799.out BK801.out (by decide)) (fun _ hk => hk.2) (.slice Ao32 t797.length co32)) (fun _ hk => by first | exact ⟨hk.1.1.2, hk.1.2⟩ | simp_all)⟩
   have n3_ : Aside0 ((w31.setCell ⟨gb801, 0, none⟩ (.slice Ao32 t797.length co32)).heap[gb776]? = some (.cells #[.slice none 0 0] 26 (0, 0))) := ⟨bf BK776.out⟩
   have n4_ : Aside0 ((w31.setCell ⟨gb801, 0, none⟩ (.slice Ao32 t797.length co32)).heap[gb777]? = some (.cells #[.slice none 0 0] 26 (0, 0))) := ⟨bf BK777.out⟩
   have n5_ : Aside0 ((w31.setCell ⟨gb801, 0, none⟩ (.slice Ao32 t797.length co32)).heap[gb787]? = some (.cells #[.slice Ao14 t782.length co14] 26 (0, 0))) := ⟨bf BK787.out⟩
   have n6_ : Aside0 ((w31.setCell ⟨gb801, 0, none⟩ (.slice Ao32 t797.length co32)).heap[gb793]? = some (.cells #[.slice Ao21 t788.length co21] 26 (0, 0))) := ⟨bf BK793.out⟩
   have n7_ : Aside0 ((w31.setCell ⟨gb801, 0, none⟩ (.slice Ao32 t797.length co32)).heap[gb801]? = some (.cells #[.slice Ao32 t797.length co32] 26 (0, 0))) := ⟨by (with_reducible repeat (first | refine blk_drewN ?_ _ | refine blk_drew ?_ | refine blk_alloc ?_ _)); refine blk_put (cs := #[.slice none 0 0]) ?_ 0 _ rfl; (with_reducible repeat (first | refine blk_drewN ?_ _ | refine blk_drew ?_ | refine blk_alloc ?_ _)); exact BK801.out⟩
   have n8_ : Aside0 (IsS132 w (w31.setCell ⟨gb801, 0, none⟩ (.slice Ao32 t797.length co32)) g781 t778 t795 t796) := ⟨(iw HI781.out)⟩
   have n9_ : Aside0 (Below w.heap.size w (w31.setCell ⟨gb801, 0, none⟩ (.slice Ao32 t797.length co32))) := ⟨bv⟩
   (try clear HO784); (try clear HO790); (try clear HO799); (try clear BK776); (try clear BK777); (try clear BK787); (try clear BK793); (try clear BK801); (try clear HI781); (try clear HB)
   generalize (w31.setCell ⟨gb801, 0, none⟩ (.slice Ao32 t797.length co32)) = w39 at n0_ n1_ n2_ n3_ n4_ n5_ n6_ n7_ n8_ n9_ ⊢
   have HO784 := n0_
   have HO790 := n1_
   have HO799 := n2_
   have BK776 := n3_
   have BK777 := n4_
   have BK787 := n5_
   have BK793 := n6_
   have BK801 := n7_
   have HI781 := n8_
   have HB := n9_
   clear n0_ n1_ n2_ n3_ n4_ n5_ n6_ n7_ n8_ n9_
   replace HO784 := am (Kd.Q_drew HO784.out)
   replace HO790 := am (Kd.Q_drew HO790.out)
   replace HO799 := am (Kd.R_drew HO799.out)
   replace BK776 := bd BK776
   replace BK777 := bd BK777
   replace BK787 := bd BK787
   replace BK793 := bd BK793
   replace BK801 := bd BK801
   replace HI781 := am (IsS132.drew HI781.out)
   replace HB := am (below_drew1 HB.out)
   refine start_ (n := 4) (S := fun w' => w'.cell? ⟨gb787, 0, none⟩ = some (.slice Ao14 t782.length co14) ∧ w'.cell? ⟨gb801, 0, none⟩ = some (.slice Ao32 t797.length co32)) (ds := []) (yz 4 0) (by kernel_rfl) rfl rfl ⟨bc BK787 0 _, bc BK801 0 _⟩ (fun hHeld => ?_)
   generalize w39.drew = w40 at HO784 HO790 HO799 BK776 BK777 BK787 BK793 BK801 HI781 HB hHeld ⊢
   refine tq 0 (some 24) (yz 4 1) hHeld ?_
   refine tq 1 (some 25) (yz 4 3) hHeld ?_
   refine one_ (i := 2) (N := none) (yz 4 7) rfl rfl (by kernel_rfl) (by decide) (fun K hK => ?_)
   have hs41 := bc BK776 0 (.slice none 0 0)
   have hfs41 := blk_frozen BK776.out 0
   have hns41_1 := NB777_776.out
   have hns41_2 := NB787_776.out
   have hns41_3 := NB793_776.out
   have hns41_4 := NB801_776.out
   have hms41_1 := NB776_777.out
   have hms41_2 := NB776_787.out
   have hms41_3 := NB776_793.out
   have hms41_4 := NB776_801.out
   refine skip_ (w1 := ?_) (by rfl) rfl ?_ ?_
   rotate_left
   ·go_simp
    rfl
   refine hK.out _ _ ⟨((cell_far (p := ⟨gb776, _, none⟩) NB787_776.out _).trans (hHeld.1)), ((cell_far (p := ⟨gb776, _, none⟩) NB801_776.out _).trans (hHeld.2))⟩ (fun hHeld => ?_)
   clear hK K
   refine one_ (i := 3) (N := none) (yz 4 15) rfl rfl (by kernel_rfl) (by decide) (fun K hK => ?_)
   have hs42 := bc BK777 0 (.slice none 0 0)
   have hfs42 := blk_frozen BK777.out 0
   have hns42_0 := NB776_777.out
   have hns42_2 := NB787_777.out
   have hns42_3 := NB793_777.out
   have hns42_4 := NB801_777.out
   have hms42_0 := NB777_776.out
   have hms42_2 := NB777_787.out
   have hms42_3 := NB777_793.out
   have hms42_4 := NB777_801.out
   refine skip_ (w1 := ?_) (by rfl) rfl ?_ ?_
   rotate_left
   ·go_simp
    rfl
   refine hK.out _ _ ⟨((cell_far (p := ⟨gb777, _, none⟩) NB787_777.out _).trans (hHeld.1)), ((cell_far (p := ⟨gb777, _, none⟩) NB801_777.out _).trans (hHeld.2))⟩ (fun hHeld => ?_)
   clear hK K
   refine done_ (by kernel_rfl) ?_
   try go_wp2
   refine bodyPost_ret (results_cc rfl _ _ gb776 gb777 26 26 #[.slice Ao14 t782.length co14] #[.slice Ao32 t797.length co32] (0, 0) (0, 0) _ _ rfl (by (with_reducible repeat (first | refine blk_drewN ?_ _ | refine blk_drew ?_ | refine blk_alloc ?_ _)); refine blk_far ?_ NB776_777.out _; (with_reducible repeat (first | refine blk_drewN ?_ _ | refine blk_drew ?_ | refine blk_alloc ?_ _)); refine blk_put (cs := #[.slice none 0 0]) ?_ 0 _ rfl; (with_reducible repeat (first | refine blk_drewN ?_ _ | refine blk_drew ?_ | refine blk_alloc ?_ _)); exact BK776.out) Try.underlying26 rfl (by kernel_rfl) rfl (by (with_reducible repeat (first | refine blk_drewN ?_ _ | refine blk_drew ?_ | refine blk_alloc ?_ _)); refine blk_put (cs := #[.slice none 0 0]) ?_ 0 _ rfl; (with_reducible repeat (first | refine blk_drewN ?_ _ | refine blk_drew ?_ | refine blk_alloc ?_ _)); refine blk_far ?_ NB777_776.out _; (with_reducible repeat (first | refine blk_drewN ?_ _ | refine blk_drew ?_ | refine blk_alloc ?_ _)); exact BK777.out) Try.underlying26 rfl (by kernel_rfl)) rfl ?_
   exact ⟨_, _, re, by (with_reducible repeat (first | apply Kd.Q_alloc | apply Kd.Q_drewN | apply Kd.Q_drew)); exact Kd.Q_mono (Kd.Q_far (p := ⟨gb777, 0, none⟩) (Kd.Q_far (p := ⟨gb776, 0, none⟩) (Kd.Q_types (Kd.Q_types HO784.out BK776.out (by decide)) BK777.out (by decide)) (fun _ hk => by first | exact hk.1.2 | simp_all) (.slice Ao14 t782.length co14)) (fun _ hk => hk.2) (.slice Ao32 t797.length co32)) (fun _ hk => by first | exact hk.1.1.2 | simp_all), Kd.Q_of_R (by (with_reducible repeat (first | apply Kd.R_alloc | apply Kd.R_drewN | apply Kd.R_drew)); exact Kd.R_mono (Kd.R_far (p := ⟨gb777, 0, none⟩) (Kd.R_far (p := ⟨gb776, 0, none⟩) (Kd.R_types (Kd.R_types HO799.out BK776.out (by decide)) BK777.out (by decide)) (fun _ hk => by first | exact hk.1.2 | simp_all) (.slice Ao14 t782.length co14)) (fun _ hk => hk.2) (.slice Ao32 t797.length co32)) (fun _ hk => by first | exact hk.1.1.1 | simp_all)), bv⟩
  simp only [Option.some.injEq, Prod.mk.injEq] at H
  obtain ⟨rfl, rfl⟩ := H
  go_enter Try.func114, Try.ntmps114
  try go_wp2_with (first | ((with_reducible refine gate_dst (N := 2) rfl ?_); refine bx 2 #[.slice none 0 0] 26 ?_; intro gb776 hg w43 hbox hb; have BK776 := am (hbox); have GW776 := am (gs hg : w.heap.size ≤ gb776); have GE776 := GW776; replace HB := am (below_step bw hb); clear hb hbox hg) | ((with_reducible refine gate_dst (N := 3) rfl ?_); refine bx 3 #[.slice none 0 0] 26 ?_; intro gb777 hg w44 hbox hb; have BK777 := am (hbox); have GW777 := am (gs hg : w.heap.size ≤ gb777); have GE777 := GW777; replace HB := am (below_step bw hb); have NB776_777 := nl hg BK776; have NB777_776 := ns NB776_777; replace BK776 := kb BK776 hb; clear hb hbox hg) | ((with_reducible refine gate_callee (f := 131) rfl ?_); refine gl (some 10) Try.func131 #[.slice A0 l0.length c0] ?_; (with_reducible refine (spec_l1New.calls k _ _ l0 t778 t779 t780 w _ ?side1 ?side2 ?side3 A2.out).mono ?_); (case side1 => exact bw); (case side2 => exact HR0.out); (case side3 => exact HC0.out); rintro e w45 ⟨g781, rfl, hi, hb, hb2⟩; refine ⟨_, rfl, ?_⟩; replace HB := am (hb); have HI781 := am (hi); have NB781_776 := am (IsS132.ne_blk hi (blk_below (g := gb776) (o := .cells #[.slice none 0 0] 26 (0, 0)) (bo BK776.out) hb2) (by decide)); have NB776_781 := ns NB781_776; replace BK776 := kb BK776 hb2; have NB781_777 := am (IsS132.ne_blk hi (blk_below (g := gb777) (o := .cells #[.slice none 0 0] 26 (0, 0)) (bo BK777.out) hb2) (by decide)); have NB777_781 := ns NB781_777; replace BK777 := kb BK777 hb2; clear hb hb2 hi) | ((with_reducible refine gate_callee (f := 130) rfl ?_); refine gl (some 12) Try.func130 #[.pointer (some ⟨g781, 0, none⟩)] ?_; (with_reducible refine (spec_l3Bent.calls k g781 t778 t779 t780 t782 t785 t786 w _ ?side1 ?side2 A3.out).mono ?_); (case side1 => exact iw HI781.out); (case side2 => exact bv); rintro e w46 ⟨v783, rfl, ho0, hi, hb, hk⟩; refine ⟨_, rfl, ?_⟩; replace BK776 := kk hk BK776 NB776_781; replace BK777 := kk hk BK777 NB777_781; have HO784 := am (Kd.Q_lower ho0 (below_size bv)); replace HB := am (hb); replace HI781 := am (hi); clear hb hk hi ho0) | ((with_reducible refine gate_dst (N := 5) rfl ?_); refine bx 5 #[.slice none 0 0] 26 ?_; intro gb787 hg w47 hbox hb; replace HO784 := qK HO784 hb; have BK787 := am (hbox); have GW787 := am ((by rw [hg]; exact (below_size bv) : w.heap.size ≤ gb787)); have GE787 := GW787; replace HB := am (below_step bv hb); have NB776_787 := nl hg BK776; have NB787_776 := ns NB776_787; replace BK776 := kb BK776 hb; have NB777_787 := nl hg BK777; have NB787_777 := ns NB777_787; replace BK777 := kb BK777 hb; have NB781_787 := am ((by rw [hg]; exact Nat.ne_of_lt (IsS132.lt (show IsS132 w _ g781 t778 t785 t786 from (iw HI781.out))) : g781 ≠ gb787)); have NB787_781 := ns NB781_787; replace HI781 := am (IsS132.below (iw HI781.out) hb); clear hb hbox hg; obtain ⟨Ao48, co48, eo48, _⟩ := Kd.Q_slice HO784.out; subst eo48; have hnb49 := NB787_776.out; have hnc49 := NB776_787.out; have hnb50 := NB787_777.out; have hnc50 := NB777_787.out; have hnb51 := NB787_781.out; have hnc51 := NB781_787.out; have hcz52_0 := bc BK787 0 (.slice none 0 0); have hfz52_0 := blk_frozen BK787.out 0) | ((with_reducible refine gate_callee (f := 130) rfl ?_); refine gl (some 14) Try.func130 #[.pointer (some ⟨g781, 0, none⟩)] ?_; (with_reducible refine (spec_l3Bent.calls k g781 t778 t785 t786 t788 t791 t792 w _ ?side1 ?side2 A4.out).mono ?_); (case side1 => exact iw HI781.out); (case side2 => exact bv); rintro e w53 ⟨v789, rfl, ho0, hi, hb, hk⟩; refine ⟨_, rfl, ?_⟩; replace BK776 := kk hk BK776 NB776_781; replace BK777 := kk hk BK777 NB777_781; have HO790 := am (Kd.Q_lower (Kd.Q_new' ho0 (Kd.Q_lt (qF HO784 BK787 (.slice Ao48 t782.length co48)))) (below_size bv)); replace HO784 := am (Kd.Q_mono (Kd.Q_told (Kd.Q_oldK (IsS132.apartQ (show IsS132 w _ g781 t778 t785 t786 from (iw HI781.out)) (qF HO784 BK787 (.slice Ao48 t782.length co48)) (by decide)) hk) (Kd.Q_base ho0)) (fun _ h_ => h_.1)); replace BK787 := am (KeepBut.blk hk (g' := gb787) (o := .cells #[.slice Ao48 t782.length co48] 26 (0, 0)) (by (with_reducible repeat (first | refine blk_drewN ?_ _ | refine blk_drew ?_ | refine blk_alloc ?_ _)); refine blk_put (cs := #[.slice none 0 0]) ?_ 0 _ rfl; (with_reducible repeat (first | refine blk_drewN ?_ _ | refine blk_drew ?_ | refine blk_alloc ?_ _)); exact BK787.out) NB787_781.out (by simp)); replace HB := am (hb); replace HI781 := am (hi); clear hb hk hi ho0) | ((with_reducible refine gate_dst (N := 6) rfl ?_); refine bx 6 #[.slice none 0 0] 26 ?_; intro gb793 hg w54 hbox hb; replace HO784 := qK HO784 hb; replace HO790 := qK HO790 hb; have BK793 := am (hbox); have GW793 := am ((by rw [hg]; exact (below_size bv) : w.heap.size ≤ gb793)); have GE793 := GW793; replace HB := am (below_step bv hb); have NB776_793 := nl hg BK776; have NB793_776 := ns NB776_793; replace BK776 := kb BK776 hb; have NB777_793 := nl hg BK777; have NB793_777 := ns NB777_793; replace BK777 := kb BK777 hb; have NB787_793 := nl hg BK787; have NB793_787 := ns NB787_793; replace BK787 := kb BK787 hb; have NB781_793 := am ((by rw [hg]; exact Nat.ne_of_lt (IsS132.lt (show IsS132 w _ g781 t778 t791 t792 from (iw HI781.out))) : g781 ≠ gb793)); have NB793_781 := ns NB781_793; replace HI781 := am (IsS132.below (iw HI781.out) hb); clear hb hbox hg; obtain ⟨Ao55, co55, eo55, _⟩ := Kd.Q_slice HO790.out; subst eo55; have hnb56 := NB793_776.out; have hnc56 := NB776_793.out; have hnb57 := NB793_777.out; have hnc57 := NB777_793.out; have hnb58 := NB793_787.out; have hnc58 := NB787_793.out; have hnb59 := NB793_781.out; have hnc59 := NB781_793.out; have hcz60_0 := bc BK793 0 (.slice none 0 0); have hfz60_0 := blk_frozen BK793.out 0) | ((with_reducible refine gate_callee (f := 163) rfl ?_); refine gl (some 16) Try.func163 #[.pointer (some ⟨g781, 0, none⟩), .int .i64 2] ?_; (with_reducible refine (spec_l1Once.calls g781 t778 t791 t792 2 true t795 t796 w _ ?side1 ?side2 A5.out).mono ?_); (case side1 => exact iw HI781.out); (case side2 => exact bv); rintro e w61 ⟨rfl, hi, hb, hk⟩; refine ⟨_, rfl, ?_⟩; replace BK776 := kk hk BK776 NB776_781; replace BK777 := kk hk BK777 NB777_781; replace HO784 := am (Kd.Q_mono (Kd.Q_keep (IsS132.apartQ (show IsS132 w _ g781 t778 t791 t792 from (iw HI781.out)) (qF HO784 BK793 (.slice Ao55 t788.length co55)) (by decide)) hk (fun _ h => h.2)) (fun _ h => h.1)); replace BK787 := kk hk BK787 NB787_781; replace HO790 := am (Kd.Q_mono (Kd.Q_keep (IsS132.apartQ (show IsS132 w _ g781 t778 t791 t792 from (iw HI781.out)) (qF HO790 BK793 (.slice Ao55 t788.length co55)) (by decide)) hk (fun _ h => h.2)) (fun _ h => h.1)); replace BK793 := am (KeepBut.blk hk (g' := gb793) (o := .cells #[.slice Ao55 t788.length co55] 26 (0, 0)) (by (with_reducible repeat (first | refine blk_drewN ?_ _ | refine blk_drew ?_ | refine blk_alloc ?_ _)); refine blk_put (cs := #[.slice none 0 0]) ?_ 0 _ rfl; (with_reducible repeat (first | refine blk_drewN ?_ _ | refine blk_drew ?_ | refine blk_alloc ?_ _)); exact BK793.out) NB793_781.out (by simp)); replace HB := am (hb); replace HI781 := am (hi); clear hb hk hi; have hcz62_0 := bc BK787 0 (.slice Ao48 t782.length co48); have hfz62_0 := blk_frozen BK787.out 0; have hcz63_0 := bc BK793 0 (.slice Ao55 t788.length co55); have hfz63_0 := blk_frozen BK793.out 0) | ((with_reducible refine gate_callee (f := 113) rfl ?_); refine gl (some 20) Try.func113 #[.agg #[.slice Ao48 t782.length co48], .agg #[.slice Ao55 t788.length co55]] ?_; (with_reducible refine (spec_AddOf.calls k _ _ t782 _ _ t788 t797 false _ ?side1 ?side2 ?side3 ?side4 A7.out).mono ?_); (case side1 => exact co (Kd.Q_reads' HO784.out).2.2); (case side2 => exact (Kd.Q_reads' HO784.out).2.1); (case side3 => exact co (Kd.Q_reads' HO790.out).2.2); (case side4 => exact (Kd.Q_reads' HO790.out).2.1); rintro e w64 ⟨v798, rfl, ho0, hb⟩; refine ⟨_, rfl, ?_⟩; have HO799 := am (Kd.R_lower (Kd.R_new' (Kd.R_new' ho0 (Kd.Q_lt (qo HO784.out))) (Kd.Q_lt (qo HO790.out))) (below_size bv)); replace HO784 := am (Kd.Q_elder' (qo HO784.out) (Kd.R_base ho0) hb); replace HO790 := am (Kd.Q_elder' (qo HO790.out) (Kd.R_base ho0) hb); replace BK776 := kb BK776 hb; replace BK777 := kb BK777 hb; replace BK787 := kb BK787 hb; replace BK793 := kb BK793 hb; replace HB := am (below_step bv hb); replace HI781 := am (IsS132.below (iw HI781.out) hb); clear hb ho0) | ((with_reducible refine gate_dst (N := 7) rfl ?_); refine bx 7 #[.slice none 0 0] 26 ?_; intro gb801 hg w65 hbox hb; replace HO784 := qK HO784 hb; replace HO790 := qK HO790 hb; replace HO799 := rK HO799 hb; have BK801 := am (hbox); have GW801 := am ((by rw [hg]; exact (below_size bv) : w.heap.size ≤ gb801)); have GE801 := GW801; replace HB := am (below_step bv hb); have NB776_801 := nl hg BK776; have NB801_776 := ns NB776_801; replace BK776 := kb BK776 hb; have NB777_801 := nl hg BK777; have NB801_777 := ns NB777_801; replace BK777 := kb BK777 hb; have NB787_801 := nl hg BK787; have NB801_787 := ns NB787_801; replace BK787 := kb BK787 hb; have NB793_801 := nl hg BK793; have NB801_793 := ns NB793_801; replace BK793 := kb BK793 hb; have NB781_801 := am ((by rw [hg]; exact Nat.ne_of_lt (IsS132.lt (show IsS132 w _ g781 t778 t795 t796 from (iw HI781.out))) : g781 ≠ gb801)); have NB801_781 := ns NB781_801; replace HI781 := am (IsS132.below (iw HI781.out) hb); clear hb hbox hg; obtain ⟨Ao66, co66, eo66⟩ := Kd.R_slice HO799.out; subst eo66; have hnb67 := NB801_776.out; have hnc67 := NB776_801.out; have hnb68 := NB801_777.out; have hnc68 := NB777_801.out; have hnb69 := NB801_787.out; have hnc69 := NB787_801.out; have hnb70 := NB801_793.out; have hnc70 := NB793_801.out; have hnb71 := NB801_781.out; have hnc71 := NB781_801.out; have hcz72_0 := bc BK801 0 (.slice none 0 0); have hfz72_0 := blk_frozen BK801.out 0))
  have n0_ : Aside0 (Kd.Q (Kd.int .i64) 3 (w65.setCell ⟨gb801, 0, none⟩ (.slice Ao66 t797.length co66)) w.heap.size (fun k_ => nb k_ Ao55 t788 co55 ∧ nb k_ Ao66 t797 co66) (.slice Ao48 t782.length co48) t782) := ⟨by (with_reducible repeat (first | apply Kd.Q_alloc | apply Kd.Q_drewN | apply Kd.Q_drew)); exact Kd.Q_mono (Kd.Q_far (p := ⟨gb801, 0, none⟩) (Kd.Q_types HO784.out BK801.out (by decide)) (fun _ hk => hk.2) (.slice Ao66 t797.length co66)) (fun _ hk => by first | exact ⟨hk.1.1.2, hk.1.2⟩ | simp_all)⟩
  have n1_ : Aside0 (Kd.Q (Kd.int .i64) 3 (w65.setCell ⟨gb801, 0, none⟩ (.slice Ao66 t797.length co66)) w.heap.size (fun k_ => nb k_ Ao48 t782 co48 ∧ nb k_ Ao66 t797 co66) (.slice Ao55 t788.length co55) t788) := ⟨by (with_reducible repeat (first | apply Kd.Q_alloc | apply Kd.Q_drewN | apply Kd.Q_drew)); exact Kd.Q_mono (Kd.Q_far (p := ⟨gb801, 0, none⟩) (Kd.Q_types HO790.out BK801.out (by decide)) (fun _ hk => hk.2) (.slice Ao66 t797.length co66)) (fun _ hk => by first | exact ⟨hk.1.1.2, hk.1.2⟩ | simp_all)⟩
  have n2_ : Aside0 (Kd.R (Kd.int .i64) 3 (w65.setCell ⟨gb801, 0, none⟩ (.slice Ao66 t797.length co66)) w.heap.size (fun k_ => nb k_ Ao48 t782 co48 ∧ nb k_ Ao55 t788 co55) (.slice Ao66 t797.length co66) t797) := ⟨by (with_reducible repeat (first | apply Kd.R_alloc | apply Kd.R_drewN | apply Kd.R_drew)); exact Kd.R_mono (Kd.R_far (p := ⟨gb801, 0, none⟩) (Kd.R_types HO799.out BK801.out (by decide)) (fun _ hk => hk.2) (.slice Ao66 t797.length co66)) (fun _ hk => by first | exact ⟨hk.1.1.2, hk.1.2⟩ | simp_all)⟩
  have n3_ : Aside0 ((w65.setCell ⟨gb801, 0, none⟩ (.slice Ao66 t797.length co66)).heap[gb776]? = some (.cells #[.slice none 0 0] 26 (0, 0))) := ⟨bf BK776.out⟩
  have n4_ : Aside0 ((w65.setCell ⟨gb801, 0, none⟩ (.slice Ao66 t797.length co66)).heap[gb777]? = some (.cells #[.slice none 0 0] 26 (0, 0))) := ⟨bf BK777.out⟩
  have n5_ : Aside0 ((w65.setCell ⟨gb801, 0, none⟩ (.slice Ao66 t797.length co66)).heap[gb787]? = some (.cells #[.slice Ao48 t782.length co48] 26 (0, 0))) := ⟨bf BK787.out⟩
  have n6_ : Aside0 ((w65.setCell ⟨gb801, 0, none⟩ (.slice Ao66 t797.length co66)).heap[gb793]? = some (.cells #[.slice Ao55 t788.length co55] 26 (0, 0))) := ⟨bf BK793.out⟩
  have n7_ : Aside0 ((w65.setCell ⟨gb801, 0, none⟩ (.slice Ao66 t797.length co66)).heap[gb801]? = some (.cells #[.slice Ao66 t797.length co66] 26 (0, 0))) := ⟨by (with_reducible repeat (first | refine blk_drewN ?_ _ | refine blk_drew ?_ | refine blk_alloc ?_ _)); refine blk_put (cs := #[.slice none 0 0]) ?_ 0 _ rfl; (with_reducible repeat (first | refine blk_drewN ?_ _ | refine blk_drew ?_ | refine blk_alloc ?_ _)); exact BK801.out⟩
  have n8_ : Aside0 (IsS132 w (w65.setCell ⟨gb801, 0, none⟩ (.slice Ao66 t797.length co66)) g781 t778 t795 t796) := ⟨(iw HI781.out)⟩
  have n9_ : Aside0 (Below w.heap.size w (w65.setCell ⟨gb801, 0, none⟩ (.slice Ao66 t797.length co66))) := ⟨bv⟩
  (try clear HO784); (try clear HO790); (try clear HO799); (try clear BK776); (try clear BK777); (try clear BK787); (try clear BK793); (try clear BK801); (try clear HI781); (try clear HB)
  generalize (w65.setCell ⟨gb801, 0, none⟩ (.slice Ao66 t797.length co66)) = w73 at n0_ n1_ n2_ n3_ n4_ n5_ n6_ n7_ n8_ n9_ ⊢
  have HO784 := n0_
  have HO790 := n1_
  have HO799 := n2_
  have BK776 := n3_
  have BK777 := n4_
  have BK787 := n5_
  have BK793 := n6_
  have BK801 := n7_
  have HI781 := n8_
  have HB := n9_
  clear n0_ n1_ n2_ n3_ n4_ n5_ n6_ n7_ n8_ n9_
  replace HO784 := am (Kd.Q_drew HO784.out)
  replace HO790 := am (Kd.Q_drew HO790.out)
  replace HO799 := am (Kd.R_drew HO799.out)
  replace BK776 := bd BK776
  replace BK777 := bd BK777
  replace BK787 := bd BK787
  replace BK793 := bd BK793
  replace BK801 := bd BK801
  replace HI781 := am (IsS132.drew HI781.out)
  replace HB := am (below_drew1 HB.out)
  refine start_ (n := 4) (S := fun w' => w'.cell? ⟨gb787, 0, none⟩ = some (.slice Ao48 t782.length co48) ∧ w'.cell? ⟨gb793, 0, none⟩ = some (.slice Ao55 t788.length co55)) (ds := []) (yz 4 0) (by kernel_rfl) rfl rfl ⟨bc BK787 0 _, bc BK793 0 _⟩ (fun hHeld => ?_)
  generalize w73.drew = w74 at HO784 HO790 HO799 BK776 BK777 BK787 BK793 BK801 HI781 HB hHeld ⊢
  refine tq 0 (some 26) (yz 4 1) hHeld ?_
  refine tq 1 (some 27) (yz 4 3) hHeld ?_
  refine one_ (i := 2) (N := none) (yz 4 7) rfl rfl (by kernel_rfl) (by decide) (fun K hK => ?_)
  have hs75 := bc BK776 0 (.slice none 0 0)
  have hfs75 := blk_frozen BK776.out 0
  have hns75_1 := NB777_776.out
  have hns75_2 := NB787_776.out
  have hns75_3 := NB793_776.out
  have hns75_4 := NB801_776.out
  have hms75_1 := NB776_777.out
  have hms75_2 := NB776_787.out
  have hms75_3 := NB776_793.out
  have hms75_4 := NB776_801.out
  refine skip_ (w1 := ?_) (by rfl) rfl ?_ ?_
  rotate_left
  ·go_simp
   rfl
  refine hK.out _ _ ⟨((cell_far (p := ⟨gb776, _, none⟩) NB787_776.out _).trans (hHeld.1)), ((cell_far (p := ⟨gb776, _, none⟩) NB793_776.out _).trans (hHeld.2))⟩ (fun hHeld => ?_)
  clear hK K
  refine one_ (i := 3) (N := none) (yz 4 15) rfl rfl (by kernel_rfl) (by decide) (fun K hK => ?_)
  have hs76 := bc BK777 0 (.slice none 0 0)
  have hfs76 := blk_frozen BK777.out 0
  have hns76_0 := NB776_777.out
  have hns76_2 := NB787_777.out
  have hns76_3 := NB793_777.out
  have hns76_4 := NB801_777.out
  have hms76_0 := NB777_776.out
  have hms76_2 := NB777_787.out
  have hms76_3 := NB777_793.out
  have hms76_4 := NB777_801.out
  refine skip_ (w1 := ?_) (by rfl) rfl ?_ ?_
  rotate_left
  ·go_simp
   rfl
  refine hK.out _ _ ⟨((cell_far (p := ⟨gb777, _, none⟩) NB787_777.out _).trans (hHeld.1)), ((cell_far (p := ⟨gb777, _, none⟩) NB793_777.out _).trans (hHeld.2))⟩ (fun hHeld => ?_)
  clear hK K
  refine done_ (by kernel_rfl) ?_
  try go_wp2
  refine bodyPost_ret (results_cc rfl _ _ gb776 gb777 26 26 #[.slice Ao48 t782.length co48] #[.slice Ao55 t788.length co55] (0, 0) (0, 0) _ _ rfl (by (with_reducible repeat (first | refine blk_drewN ?_ _ | refine blk_drew ?_ | refine blk_alloc ?_ _)); refine blk_far ?_ NB776_777.out _; (with_reducible repeat (first | refine blk_drewN ?_ _ | refine blk_drew ?_ | refine blk_alloc ?_ _)); refine blk_put (cs := #[.slice none 0 0]) ?_ 0 _ rfl; (with_reducible repeat (first | refine blk_drewN ?_ _ | refine blk_drew ?_ | refine blk_alloc ?_ _)); exact BK776.out) Try.underlying26 rfl (by kernel_rfl) rfl (by (with_reducible repeat (first | refine blk_drewN ?_ _ | refine blk_drew ?_ | refine blk_alloc ?_ _)); refine blk_put (cs := #[.slice none 0 0]) ?_ 0 _ rfl; (with_reducible repeat (first | refine blk_drewN ?_ _ | refine blk_drew ?_ | refine blk_alloc ?_ _)); refine blk_far ?_ NB777_776.out _; (with_reducible repeat (first | refine blk_drewN ?_ _ | refine blk_drew ?_ | refine blk_alloc ?_ _)); exact BK777.out) Try.underlying26 rfl (by kernel_rfl)) rfl ?_
  exact ⟨_, _, re, by (with_reducible repeat (first | apply Kd.Q_alloc | apply Kd.Q_drewN | apply Kd.Q_drew)); exact Kd.Q_mono (Kd.Q_far (p := ⟨gb777, 0, none⟩) (Kd.Q_far (p := ⟨gb776, 0, none⟩) (Kd.Q_types (Kd.Q_types HO784.out BK776.out (by decide)) BK777.out (by decide)) (fun _ hk => by first | exact hk.1.2 | simp_all) (.slice Ao48 t782.length co48)) (fun _ hk => hk.2) (.slice Ao55 t788.length co55)) (fun _ hk => by first | exact hk.1.1.1 | simp_all), by (with_reducible repeat (first | apply Kd.Q_alloc | apply Kd.Q_drewN | apply Kd.Q_drew)); exact Kd.Q_mono (Kd.Q_far (p := ⟨gb777, 0, none⟩) (Kd.Q_far (p := ⟨gb776, 0, none⟩) (Kd.Q_types (Kd.Q_types HO790.out BK776.out (by decide)) BK777.out (by decide)) (fun _ hk => by first | exact hk.1.2 | simp_all) (.slice Ao48 t782.length co48)) (fun _ hk => hk.2) (.slice Ao55 t788.length co55)) (fun _ hk => by first | exact hk.1.1.1 | simp_all), bv⟩
 simp only [Option.some.injEq, Prod.mk.injEq] at H
 obtain ⟨rfl, rfl⟩ := H
 go_enter Try.func114, Try.ntmps114
 try go_wp2_with (first | ((with_reducible refine gate_dst (N := 2) rfl ?_); refine bx 2 #[.slice none 0 0] 26 ?_; intro gb776 hg w77 hbox hb; have BK776 := am (hbox); have GW776 := am (gs hg : w.heap.size ≤ gb776); have GE776 := GW776; replace HB := am (below_step bw hb); clear hb hbox hg) | ((with_reducible refine gate_dst (N := 3) rfl ?_); refine bx 3 #[.slice none 0 0] 26 ?_; intro gb777 hg w78 hbox hb; have BK777 := am (hbox); have GW777 := am (gs hg : w.heap.size ≤ gb777); have GE777 := GW777; replace HB := am (below_step bw hb); have NB776_777 := nl hg BK776; have NB777_776 := ns NB776_777; replace BK776 := kb BK776 hb; clear hb hbox hg) | ((with_reducible refine gate_callee (f := 131) rfl ?_); refine gl (some 10) Try.func131 #[.slice A0 l0.length c0] ?_; (with_reducible refine (spec_l1New.calls k _ _ l0 t778 t779 t780 w _ ?side1 ?side2 ?side3 A2.out).mono ?_); (case side1 => exact bw); (case side2 => exact HR0.out); (case side3 => exact HC0.out); rintro e w79 ⟨g781, rfl, hi, hb, hb2⟩; refine ⟨_, rfl, ?_⟩; replace HB := am (hb); have HI781 := am (hi); have NB781_776 := am (IsS132.ne_blk hi (blk_below (g := gb776) (o := .cells #[.slice none 0 0] 26 (0, 0)) (bo BK776.out) hb2) (by decide)); have NB776_781 := ns NB781_776; replace BK776 := kb BK776 hb2; have NB781_777 := am (IsS132.ne_blk hi (blk_below (g := gb777) (o := .cells #[.slice none 0 0] 26 (0, 0)) (bo BK777.out) hb2) (by decide)); have NB777_781 := ns NB781_777; replace BK777 := kb BK777 hb2; clear hb hb2 hi) | ((with_reducible refine gate_callee (f := 130) rfl ?_); refine gl (some 12) Try.func130 #[.pointer (some ⟨g781, 0, none⟩)] ?_; (with_reducible refine (spec_l3Bent.calls k g781 t778 t779 t780 t782 t785 t786 w _ ?side1 ?side2 A3.out).mono ?_); (case side1 => exact iw HI781.out); (case side2 => exact bv); rintro e w80 ⟨v783, rfl, ho0, hi, hb, hk⟩; refine ⟨_, rfl, ?_⟩; replace BK776 := kk hk BK776 NB776_781; replace BK777 := kk hk BK777 NB777_781; have HO784 := am (Kd.Q_lower ho0 (below_size bv)); replace HB := am (hb); replace HI781 := am (hi); clear hb hk hi ho0) | ((with_reducible refine gate_dst (N := 5) rfl ?_); refine bx 5 #[.slice none 0 0] 26 ?_; intro gb787 hg w81 hbox hb; replace HO784 := qK HO784 hb; have BK787 := am (hbox); have GW787 := am ((by rw [hg]; exact (below_size bv) : w.heap.size ≤ gb787)); have GE787 := GW787; replace HB := am (below_step bv hb); have NB776_787 := nl hg BK776; have NB787_776 := ns NB776_787; replace BK776 := kb BK776 hb; have NB777_787 := nl hg BK777; have NB787_777 := ns NB777_787; replace BK777 := kb BK777 hb; have NB781_787 := am ((by rw [hg]; exact Nat.ne_of_lt (IsS132.lt (show IsS132 w _ g781 t778 t785 t786 from (iw HI781.out))) : g781 ≠ gb787)); have NB787_781 := ns NB781_787; replace HI781 := am (IsS132.below (iw HI781.out) hb); clear hb hbox hg; obtain ⟨Ao82, co82, eo82, _⟩ := Kd.Q_slice HO784.out; subst eo82; have hnb83 := NB787_776.out; have hnc83 := NB776_787.out; have hnb84 := NB787_777.out; have hnc84 := NB777_787.out; have hnb85 := NB787_781.out; have hnc85 := NB781_787.out; have hcz86_0 := bc BK787 0 (.slice none 0 0); have hfz86_0 := blk_frozen BK787.out 0) | ((with_reducible refine gate_callee (f := 130) rfl ?_); refine gl (some 14) Try.func130 #[.pointer (some ⟨g781, 0, none⟩)] ?_; (with_reducible refine (spec_l3Bent.calls k g781 t778 t785 t786 t788 t791 t792 w _ ?side1 ?side2 A4.out).mono ?_); (case side1 => exact iw HI781.out); (case side2 => exact bv); rintro e w87 ⟨v789, rfl, ho0, hi, hb, hk⟩; refine ⟨_, rfl, ?_⟩; replace BK776 := kk hk BK776 NB776_781; replace BK777 := kk hk BK777 NB777_781; have HO790 := am (Kd.Q_lower (Kd.Q_new' ho0 (Kd.Q_lt (qF HO784 BK787 (.slice Ao82 t782.length co82)))) (below_size bv)); replace HO784 := am (Kd.Q_mono (Kd.Q_told (Kd.Q_oldK (IsS132.apartQ (show IsS132 w _ g781 t778 t785 t786 from (iw HI781.out)) (qF HO784 BK787 (.slice Ao82 t782.length co82)) (by decide)) hk) (Kd.Q_base ho0)) (fun _ h_ => h_.1)); replace BK787 := am (KeepBut.blk hk (g' := gb787) (o := .cells #[.slice Ao82 t782.length co82] 26 (0, 0)) (by (with_reducible repeat (first | refine blk_drewN ?_ _ | refine blk_drew ?_ | refine blk_alloc ?_ _)); refine blk_put (cs := #[.slice none 0 0]) ?_ 0 _ rfl; (with_reducible repeat (first | refine blk_drewN ?_ _ | refine blk_drew ?_ | refine blk_alloc ?_ _)); exact BK787.out) NB787_781.out (by simp)); replace HB := am (hb); replace HI781 := am (hi); clear hb hk hi ho0) | ((with_reducible refine gate_dst (N := 6) rfl ?_); refine bx 6 #[.slice none 0 0] 26 ?_; intro gb793 hg w88 hbox hb; replace HO784 := qK HO784 hb; replace HO790 := qK HO790 hb; have BK793 := am (hbox); have GW793 := am ((by rw [hg]; exact (below_size bv) : w.heap.size ≤ gb793)); have GE793 := GW793; replace HB := am (below_step bv hb); have NB776_793 := nl hg BK776; have NB793_776 := ns NB776_793; replace BK776 := kb BK776 hb; have NB777_793 := nl hg BK777; have NB793_777 := ns NB777_793; replace BK777 := kb BK777 hb; have NB787_793 := nl hg BK787; have NB793_787 := ns NB787_793; replace BK787 := kb BK787 hb; have NB781_793 := am ((by rw [hg]; exact Nat.ne_of_lt (IsS132.lt (show IsS132 w _ g781 t778 t791 t792 from (iw HI781.out))) : g781 ≠ gb793)); have NB793_781 := ns NB781_793; replace HI781 := am (IsS132.below (iw HI781.out) hb); clear hb hbox hg; obtain ⟨Ao89, co89, eo89, _⟩ := Kd.Q_slice HO790.out; subst eo89; have hnb90 := NB793_776.out; have hnc90 := NB776_793.out; have hnb91 := NB793_777.out; have hnc91 := NB777_793.out; have hnb92 := NB793_787.out; have hnc92 := NB787_793.out; have hnb93 := NB793_781.out; have hnc93 := NB781_793.out; have hcz94_0 := bc BK793 0 (.slice none 0 0); have hfz94_0 := blk_frozen BK793.out 0) | ((with_reducible refine gate_callee (f := 163) rfl ?_); refine gl (some 16) Try.func163 #[.pointer (some ⟨g781, 0, none⟩), .int .i64 2] ?_; (with_reducible refine (spec_l1Once.calls g781 t778 t791 t792 2 false t795 t796 w _ ?side1 ?side2 A5.out).mono ?_); (case side1 => exact iw HI781.out); (case side2 => exact bv); rintro e w95 ⟨rfl, hi, hb, hk⟩; refine ⟨_, rfl, ?_⟩; replace BK776 := kk hk BK776 NB776_781; replace BK777 := kk hk BK777 NB777_781; replace HO784 := am (Kd.Q_mono (Kd.Q_keep (IsS132.apartQ (show IsS132 w _ g781 t778 t791 t792 from (iw HI781.out)) (qF HO784 BK793 (.slice Ao89 t788.length co89)) (by decide)) hk (fun _ h => h.2)) (fun _ h => h.1)); replace BK787 := kk hk BK787 NB787_781; replace HO790 := am (Kd.Q_mono (Kd.Q_keep (IsS132.apartQ (show IsS132 w _ g781 t778 t791 t792 from (iw HI781.out)) (qF HO790 BK793 (.slice Ao89 t788.length co89)) (by decide)) hk (fun _ h => h.2)) (fun _ h => h.1)); replace BK793 := am (KeepBut.blk hk (g' := gb793) (o := .cells #[.slice Ao89 t788.length co89] 26 (0, 0)) (by (with_reducible repeat (first | refine blk_drewN ?_ _ | refine blk_drew ?_ | refine blk_alloc ?_ _)); refine blk_put (cs := #[.slice none 0 0]) ?_ 0 _ rfl; (with_reducible repeat (first | refine blk_drewN ?_ _ | refine blk_drew ?_ | refine blk_alloc ?_ _)); exact BK793.out) NB793_781.out (by simp)); replace HB := am (hb); replace HI781 := am (hi); clear hb hk hi))
 replace HO784 := am (Kd.Q_drew HO784.out)
 replace HO790 := am (Kd.Q_drew HO790.out)
 replace BK776 := bd BK776
 replace BK777 := bd BK777
 replace BK787 := bd BK787
 replace BK793 := bd BK793
 replace HI781 := am (IsS132.drew HI781.out)
 replace HB := am (below_drew1 HB.out)
 refine start_ (n := 4) (S := fun w' => w'.cell? ⟨gb787, 0, none⟩ = some (.slice Ao82 t782.length co82) ∧ w'.cell? ⟨gb793, 0, none⟩ = some (.slice Ao89 t788.length co89)) (ds := []) (yz 4 0) (by kernel_rfl) rfl rfl ⟨bc BK787 0 _, bc BK793 0 _⟩ (fun hHeld => ?_)
 generalize w95.drew = w96 at HO784 HO790 BK776 BK777 BK787 BK793 HI781 HB hHeld ⊢
 refine tq 0 (some 26) (yz 4 1) hHeld ?_
 refine tq 1 (some 27) (yz 4 3) hHeld ?_
 refine one_ (i := 2) (N := none) (yz 4 7) rfl rfl (by kernel_rfl) (by decide) (fun K hK => ?_)
 have hs97 := bc BK776 0 (.slice none 0 0)
 have hfs97 := blk_frozen BK776.out 0
 have hns97_1 := NB777_776.out
 have hns97_2 := NB787_776.out
 have hns97_3 := NB793_776.out
 have hms97_1 := NB776_777.out
 have hms97_2 := NB776_787.out
 have hms97_3 := NB776_793.out
 refine skip_ (w1 := ?_) (by rfl) rfl ?_ ?_
 rotate_left
 ·go_simp
  rfl
 refine hK.out _ _ ⟨((cell_far (p := ⟨gb776, _, none⟩) NB787_776.out _).trans (hHeld.1)), ((cell_far (p := ⟨gb776, _, none⟩) NB793_776.out _).trans (hHeld.2))⟩ (fun hHeld => ?_)
 clear hK K
 refine one_ (i := 3) (N := none) (yz 4 15) rfl rfl (by kernel_rfl) (by decide) (fun K hK => ?_)
 have hs98 := bc BK777 0 (.slice none 0 0)
 have hfs98 := blk_frozen BK777.out 0
 have hns98_0 := NB776_777.out
 have hns98_2 := NB787_777.out
 have hns98_3 := NB793_777.out
 have hms98_0 := NB777_776.out
 have hms98_2 := NB777_787.out
 have hms98_3 := NB777_793.out
 refine skip_ (w1 := ?_) (by rfl) rfl ?_ ?_
 rotate_left
 ·go_simp
  rfl
 refine hK.out _ _ ⟨((cell_far (p := ⟨gb777, _, none⟩) NB787_777.out _).trans (hHeld.1)), ((cell_far (p := ⟨gb777, _, none⟩) NB793_777.out _).trans (hHeld.2))⟩ (fun hHeld => ?_)
 clear hK K
 refine done_ (by kernel_rfl) ?_
 try go_wp2
 refine bodyPost_ret (results_cc rfl _ _ gb776 gb777 26 26 #[.slice Ao82 t782.length co82] #[.slice Ao89 t788.length co89] (0, 0) (0, 0) _ _ rfl (by (with_reducible repeat (first | refine blk_drewN ?_ _ | refine blk_drew ?_ | refine blk_alloc ?_ _)); refine blk_far ?_ NB776_777.out _; (with_reducible repeat (first | refine blk_drewN ?_ _ | refine blk_drew ?_ | refine blk_alloc ?_ _)); refine blk_put (cs := #[.slice none 0 0]) ?_ 0 _ rfl; (with_reducible repeat (first | refine blk_drewN ?_ _ | refine blk_drew ?_ | refine blk_alloc ?_ _)); exact BK776.out) Try.underlying26 rfl (by kernel_rfl) rfl (by (with_reducible repeat (first | refine blk_drewN ?_ _ | refine blk_drew ?_ | refine blk_alloc ?_ _)); refine blk_put (cs := #[.slice none 0 0]) ?_ 0 _ rfl; (with_reducible repeat (first | refine blk_drewN ?_ _ | refine blk_drew ?_ | refine blk_alloc ?_ _)); refine blk_far ?_ NB777_776.out _; (with_reducible repeat (first | refine blk_drewN ?_ _ | refine blk_drew ?_ | refine blk_alloc ?_ _)); exact BK777.out) Try.underlying26 rfl (by kernel_rfl)) rfl ?_
 exact ⟨_, _, re, by (with_reducible repeat (first | apply Kd.Q_alloc | apply Kd.Q_drewN | apply Kd.Q_drew)); exact Kd.Q_mono (Kd.Q_far (p := ⟨gb777, 0, none⟩) (Kd.Q_far (p := ⟨gb776, 0, none⟩) (Kd.Q_types (Kd.Q_types HO784.out BK776.out (by decide)) BK777.out (by decide)) (fun _ hk => by first | exact hk.1.2 | simp_all) (.slice Ao82 t782.length co82)) (fun _ hk => hk.2) (.slice Ao89 t788.length co89)) (fun _ hk => by first | exact hk.1.1.2 | simp_all), by (with_reducible repeat (first | apply Kd.Q_alloc | apply Kd.Q_drewN | apply Kd.Q_drew)); exact Kd.Q_mono (Kd.Q_far (p := ⟨gb777, 0, none⟩) (Kd.Q_far (p := ⟨gb776, 0, none⟩) (Kd.Q_types (Kd.Q_types HO790.out BK776.out (by decide)) BK777.out (by decide)) (fun _ hk => by first | exact hk.1.2 | simp_all) (.slice Ao82 t782.length co82)) (fun _ hk => hk.2) (.slice Ao89 t788.length co89)) (fun _ hk => by first | exact hk.1.1.2 | simp_all), bv⟩


/-! ### impl_IsWithin: function 115 -/
mutual
def impl_IsWithin.j0 : Nat → Bool → List Int → List Int → Option (Bool)
 | 0, _, _, _ => none
 | k + 1, x14, x803000, x804000 => if x14 = true then (some false) else (impl_IsWithin.l0 k x803000 (x803000.length : Int) 0 x804000)
def impl_IsWithin.l0 : Nat → List Int → Int → Int → List Int → Option (Bool)
 | 0, _, _, _, _ => none
 | k + 1, x16, x17, x18, x804000 => if x18 < x17 then (if 0 ≤ x18 then (if x18 < (x16.length : Int) then ((impl_Contains.f k x804000 (rd x16 x18)).bind fun t807 => (if t807 = true then (impl_IsWithin.l0 k x16 x17 (wrap64 (x18 + 1)) x804000) else (some false))) else (none)) else (none)) else (some true)
end
def impl_IsWithin.f (k : Nat) (l0_0 : List Int) (l1_0 : List Int) : Option (Bool) := (impl_IsSemigroup.f k l0_0).bind fun t804 => (if t804 = true then ((impl_IsSemigroup.f k l1_0).bind fun t805 => (impl_IsWithin.j0 k (!t805) l0_0 l1_0)) else (impl_IsWithin.j0 k true l0_0 l1_0))
set_option maxHeartbeats 8000000 in
set_option maxRecDepth 100000 in
theorem impl_IsWithin.calls (k : Nat) (A0_0 : Option Addr) (c0_0 : Nat) (l0_0 : List Int) (A1_0 : Option Addr) (c1_0 : Nat) (l1_0 : List Int) (r : Bool) (w : World) (hr0_0 : Kd.C (Kd.int .i64) w A0_0 l0_0.length l0_0) (hc0_0 : l0_0.length ≤ c0_0) (hr1_0 : Kd.C (Kd.int .i64) w A1_0 l1_0.length l1_0) (hc1_0 : l1_0.length ≤ c1_0) (h : impl_IsWithin.f k l0_0 l1_0 = some r) :
  Calls Try.prog 115 #[.agg #[.slice A0_0 l0_0.length c0_0], .agg #[.slice A1_0 l1_0.length c1_0]] w fun e w' => e = .returned (.bool r) ∧ Below w.heap.size w w' := by
 have hu26 := Try.underlying26
 have HR0_0 := am hr0_0
 have HC0_0 := am hc0_0
 clear hr0_0 hc0_0
 have HR1_0 := am hr1_0
 have HC1_0 := am hc1_0
 clear hr1_0 hc1_0
 have HB := am (Below.refl w.heap.size w)
 have H : ((impl_IsSemigroup.f k l0_0).bind fun t804 => (if t804 = true then ((impl_IsSemigroup.f k l1_0).bind fun t805 => (impl_IsWithin.j0 k (!t805) l0_0 l1_0)) else (impl_IsWithin.j0 k true l0_0 l1_0))) = some r := h
 clear h
 have HC3 := am H
 clear H
 go_enter Try.func115, Try.ntmps115
 go_upto_region 1 with (first | ((with_reducible refine gate_dst (N := 2) rfl ?_); refine bx 2 #[.slice A0_0 l0_0.length c0_0] 26 ?_; intro gb802 hg w4 hbox hb; have BK802 := am (hbox); have GW802 := am (gs hg : w.heap.size ≤ gb802); have GE802 := GW802; replace HB := am (below_step bw hb); clear hb hbox hg) | ((with_reducible refine gate_dst (N := 3) rfl ?_); refine bx 3 #[.slice A1_0 l1_0.length c1_0] 26 ?_; intro gb803 hg w5 hbox hb; have BK803 := am (hbox); have GW803 := am (gs hg : w.heap.size ≤ gb803); have GE803 := GW803; replace HB := am (below_step bw hb); have NB802_803 := nl hg BK802; have NB803_802 := ns NB802_803; replace BK802 := kb BK802 hb; clear hb hbox hg))
 (try simp only [Act.put, List.setIfInBounds_toArray, List.set_cons_zero, List.set_cons_succ])
 go_cut [14] (fun v14 wc => ∃ (kq : Nat) (x14_2 : Bool), v14 = .bool x14_2 ∧ Aside0 (impl_IsWithin.j0 kq x14_2 l0_0 l1_0 = some r) ∧ Aside0 (kq ≤ k) ∧ Aside0 (wc.heap[gb802]? = some (.cells #[(.slice A0_0 l0_0.length c0_0)] 26 (0, 0))) ∧ Aside0 (wc.heap[gb803]? = some (.cells #[(.slice A1_0 l1_0.length c1_0)] 26 (0, 0))) ∧ Aside0 (Below w.heap.size w wc))
 case first =>
  have H := HC3.out
  clear HC3
  replace H := ga H; obtain ⟨t804, A6, H⟩ := H
  replace H := gb H; obtain ⟨rfl, H⟩ | ⟨rfl, H⟩ := H
  ·replace H := ga H; obtain ⟨t805, A8, H⟩ := H
   have H' := am H
   clear H
   have hnb9 := NB802_803.out
   have hnc9 := NB803_802.out
   have hcz10_0 := bc BK802 0 (.slice A0_0 l0_0.length c0_0)
   have hfz10_0 := blk_frozen BK802.out 0
   go_wp2_with (first | ((with_reducible refine gate_callee (f := 151) rfl ?_); refine gl (some 8) Try.func151 #[.agg #[.slice A0_0 l0_0.length c0_0]] ?_; (with_reducible refine (impl_IsSemigroup.calls k _ _ l0_0 true _ ?side1 ?side2 A6.out).mono ?_); (case side1 => exact co (Kd.C_below HR0_0.out HB.out)); (case side2 => exact HC0_0.out); rintro e w11 ⟨rfl, hb⟩; refine ⟨_, rfl, ?_⟩; replace BK802 := kb BK802 hb; replace BK803 := kb BK803 hb; replace HB := am (below_step bw hb); clear hb; have hcz12_0 := bc BK803 0 (.slice A1_0 l1_0.length c1_0); have hfz12_0 := blk_frozen BK803.out 0) | (go_at_call 151; (with_reducible refine (impl_IsSemigroup.calls k _ _ l1_0 t805 _ ?side1 ?side2 A8.out).mono ?_); (case side1 => exact co (Kd.C_below HR1_0.out HB.out)); (case side2 => exact HC1_0.out); rintro e w13 ⟨rfl, hb⟩; replace BK802 := kb BK802 hb; replace BK803 := kb BK803 hb; replace HB := am (below_step bw hb); clear hb))
   go_meet
   case rel => exact ⟨_, (!t805), rr, H', ⟨om⟩, ⟨bo BK802.out⟩, ⟨bo BK803.out⟩, ⟨bw⟩⟩
  have H' := am H
  clear H
  have hnb14 := NB802_803.out
  have hnc14 := NB803_802.out
  have hcz15_0 := bc BK802 0 (.slice A0_0 l0_0.length c0_0)
  have hfz15_0 := blk_frozen BK802.out 0
  go_wp2_with (first | ((with_reducible refine gate_callee (f := 151) rfl ?_); refine gl (some 8) Try.func151 #[.agg #[.slice A0_0 l0_0.length c0_0]] ?_; (with_reducible refine (impl_IsSemigroup.calls k _ _ l0_0 false _ ?side1 ?side2 A6.out).mono ?_); (case side1 => exact co (Kd.C_below HR0_0.out HB.out)); (case side2 => exact HC0_0.out); rintro e w16 ⟨rfl, hb⟩; refine ⟨_, rfl, ?_⟩; replace BK802 := kb BK802 hb; replace BK803 := kb BK803 hb; replace HB := am (below_step bw hb); clear hb))
  go_meet
  case rel => exact ⟨_, (true), rr, H', ⟨om⟩, ⟨bo BK802.out⟩, ⟨bo BK803.out⟩, ⟨bw⟩⟩
 case rest =>
  clear HC3
  try clear hcz10_0; try clear hcz12_0; try clear hcz15_0; try clear hfz10_0; try clear hfz12_0; try clear hfz15_0
  obtain ⟨kq, x14_2, rfl, HA, HJ2, BK802, BK803, HB⟩ := hcut
  cases kq with
  | zero => exact absurd HA.out (by simp [impl_IsWithin.j0])
  | succ kj2 =>
   have H := HA.out
   clear HA
   simp only [impl_IsWithin.j0] at H
   replace H := gb H; obtain ⟨rfl, H⟩ | ⟨rfl, H⟩ := H
   ·obtain rfl := Option.some.inj H
    go_wp2
    go_ret
    exact ⟨re, bw⟩
   have H' := am H
   clear H
   have hnb18 := NB802_803.out
   have hnc18 := NB803_802.out
   have hcz19_0 := bc BK802 0 (.slice A0_0 l0_0.length c0_0)
   have hfz19_0 := blk_frozen BK802.out 0
   go_wp2
   go_loopg [18] kj2 (fun kq v18 w' => ∃ (x18_2 : Int), v18 = .int .i64 x18_2 ∧ Aside0 (impl_IsWithin.l0 kq l0_0 (l0_0.length : Int) x18_2 l1_0 = some r) ∧ Aside0 (kq ≤ kj2) ∧ Aside0 (w'.heap[gb802]? = some (.cells #[(.slice A0_0 l0_0.length c0_0)] 26 (0, 0))) ∧ Aside0 (w'.heap[gb803]? = some (.cells #[(.slice A1_0 l1_0.length c1_0)] 26 (0, 0))) ∧ Aside0 (Below w.heap.size w w'))
   case atStart => exact ⟨(0), rr, H', ⟨Nat.le_refl _⟩, ⟨bo BK802.out⟩, ⟨bo BK803.out⟩, ⟨bw⟩⟩
   case round =>
    clear H'
    try clear hcz10_0; try clear hcz12_0; try clear hcz15_0; try clear hcz19_0; try clear hfz10_0; try clear hfz12_0; try clear hfz15_0; try clear hfz19_0
    obtain ⟨x18_2, rfl, HA, HK2, BK802, BK803, HB⟩ := hrel
    cases gk with
    | zero => exact absurd HA.out (by simp [impl_IsWithin.l0])
    | succ k2 =>
     have H := HA.out
     clear HA
     simp only [impl_IsWithin.l0] at H
     replace H := gi H; obtain ⟨c20b0, H⟩ | ⟨c20b0, H⟩ := H
     ·replace H := gd H; obtain ⟨c21b0, H⟩ := H
      replace H := gd H; obtain ⟨c22b0, H⟩ := H
      replace H := ga H; obtain ⟨t807, A23, H⟩ := H
      replace H := gb H; obtain ⟨rfl, H⟩ | ⟨rfl, H⟩ := H
      ·have H' := am H
       clear H
       obtain ⟨⟨ad806, e806, hx806_0⟩, p806, q806⟩ := pq (Kd.at_int HR0_0.out x18_2)
       cases e806
       replace hx806_0 := hw HB hx806_0
       have hnb25 := NB803_802.out
       have hnc25 := NB802_803.out
       have hcz26_0 := bc BK803 0 (.slice A1_0 l1_0.length c1_0)
       have hfz26_0 := blk_frozen BK803.out 0
       go_wp2_with (first | ((with_reducible refine gate_callee (f := 32) rfl ?_); refine gl (some 24) Try.func32 #[.agg #[.slice A1_0 l1_0.length c1_0], .int .i64 (rd l0_0 x18_2)] ?_; (with_reducible refine (impl_Contains.calls k2 _ _ l1_0 (rd l0_0 x18_2) true _ ?side1 ?side2 A23.out).mono ?_); (case side1 => exact co (Kd.C_below HR1_0.out HB.out)); (case side2 => exact HC1_0.out); rintro e w27 ⟨rfl, hb⟩; refine ⟨_, rfl, ?_⟩; replace BK802 := kb BK802 hb; replace BK803 := kb BK803 hb; replace HB := am (below_step bw hb); clear hb))
       go_roundg k2
       case measure => have := HJ2.out; have := HK2.out; omega
       case rel => exact ⟨(wrap64 (x18_2 + 1)), rr, H', ⟨by have := HJ2.out; have := HK2.out; omega⟩, ⟨bo BK802.out⟩, ⟨bo BK803.out⟩, ⟨bw⟩⟩
      obtain rfl := Option.some.inj H
      obtain ⟨⟨ad806, e806, hx806_0⟩, p806, q806⟩ := pq (Kd.at_int HR0_0.out x18_2)
      cases e806
      replace hx806_0 := hw HB hx806_0
      have hnb28 := NB803_802.out
      have hnc28 := NB802_803.out
      have hcz29_0 := bc BK803 0 (.slice A1_0 l1_0.length c1_0)
      have hfz29_0 := blk_frozen BK803.out 0
      go_wp2_with (first | ((with_reducible refine gate_callee (f := 32) rfl ?_); refine gl (some 24) Try.func32 #[.agg #[.slice A1_0 l1_0.length c1_0], .int .i64 (rd l0_0 x18_2)] ?_; (with_reducible refine (impl_Contains.calls k2 _ _ l1_0 (rd l0_0 x18_2) false _ ?side1 ?side2 A23.out).mono ?_); (case side1 => exact co (Kd.C_below HR1_0.out HB.out)); (case side2 => exact HC1_0.out); rintro e w30 ⟨rfl, hb⟩; refine ⟨_, rfl, ?_⟩; replace BK802 := kb BK802 hb; replace BK803 := kb BK803 hb; replace HB := am (below_step bw hb); clear hb))
      go_ret
      exact ⟨re, bw⟩
     obtain rfl := Option.some.inj H
     go_wp2
     go_ret
     exact ⟨re, bw⟩


/-! ### spec_IsWithin: function 116 -/
mutual
def spec_IsWithin.j0 : Nat → Bool → List Int → List Int → Option (Bool)
 | 0, _, _, _ => none
 | k + 1, x13, x809000, x810000 => if x13 = true then (some false) else (spec_IsWithin.l0 k 0 x809000 x810000)
def spec_IsWithin.l0 : Nat → Int → List Int → List Int → Option (Bool)
 | 0, _, _, _ => none
 | k + 1, x5, x809000, x810000 => if x5 < (x809000.length : Int) then (if 0 ≤ x5 then ((spec_l3Has.f k x810000 (rd x809000 x5)).bind fun t813 => (if t813 = true then (spec_IsWithin.l0 k (wrap64 (x5 + 1)) x809000 x810000) else (some false))) else (none)) else (some true)
end
def spec_IsWithin.f (k : Nat) (l0_0 : List Int) (l1_0 : List Int) : Option (Bool) := (spec_IsSemigroup.f k l0_0).bind fun t810 => (if t810 = true then ((spec_IsSemigroup.f k l1_0).bind fun t811 => (spec_IsWithin.j0 k (!t811) l0_0 l1_0)) else (spec_IsWithin.j0 k true l0_0 l1_0))
def spec_IsWithin.T6 : Bool × List (List Nat × List Nat) := (true, [([], []), ([], []), ([1], [1]), ([], []), ([2, 3], [2, 3]), ([4], [4]), ([0, 5], [0, 5]), ([6], [6])])
def spec_IsWithin.B6 : List Nat := [0, 0, 2, 0, 14, 30, 63, 127]
theorem spec_IsWithin.tab6 : rtab .any (opsOf Try.f116 6) = spec_IsWithin.T6 := by kernel_rfl
theorem spec_IsWithin.bits6 : waitsOk spec_IsWithin.T6.2 spec_IsWithin.B6 = true := by kernel_rfl
set_option maxHeartbeats 8000000 in
set_option maxRecDepth 100000 in
theorem spec_IsWithin.calls (k : Nat) (A0_0 : Option Addr) (c0_0 : Nat) (l0_0 : List Int) (A1_0 : Option Addr) (c1_0 : Nat) (l1_0 : List Int) (r : Bool) (w : World) (hr0_0 : Kd.C (Kd.int .i64) w A0_0 l0_0.length l0_0) (hc0_0 : l0_0.length ≤ c0_0) (hr1_0 : Kd.C (Kd.int .i64) w A1_0 l1_0.length l1_0) (hc1_0 : l1_0.length ≤ c1_0) (h : spec_IsWithin.f k l0_0 l1_0 = some r) :
  Calls Try.prog 116 #[.agg #[.slice A0_0 l0_0.length c0_0], .agg #[.slice A1_0 l1_0.length c1_0]] w fun e w' => e = .returned (.bool r) ∧ Below w.heap.size w w' := by
 have hu26 := Try.underlying26
 have HR0_0 := am hr0_0
 have HC0_0 := am hc0_0
 clear hr0_0 hc0_0
 have HR1_0 := am hr1_0
 have HC1_0 := am hc1_0
 clear hr1_0 hc1_0
 have HB := am (Below.refl w.heap.size w)
 have H : ((spec_IsSemigroup.f k l0_0).bind fun t810 => (if t810 = true then ((spec_IsSemigroup.f k l1_0).bind fun t811 => (spec_IsWithin.j0 k (!t811) l0_0 l1_0)) else (spec_IsWithin.j0 k true l0_0 l1_0))) = some r := h
 clear h
 have HC3 := am H
 clear H
 go_enter Try.func116, Try.ntmps116
 go_upto_region 1 with (first | ((with_reducible refine gate_dst (N := 2) rfl ?_); refine bx 2 #[.slice A0_0 l0_0.length c0_0] 26 ?_; intro gb808 hg w4 hbox hb; have BK808 := am (hbox); have GW808 := am (gs hg : w.heap.size ≤ gb808); have GE808 := GW808; replace HB := am (below_step bw hb); clear hb hbox hg) | ((with_reducible refine gate_dst (N := 3) rfl ?_); refine bx 3 #[.slice A1_0 l1_0.length c1_0] 26 ?_; intro gb809 hg w5 hbox hb; have BK809 := am (hbox); have GW809 := am (gs hg : w.heap.size ≤ gb809); have GE809 := GW809; replace HB := am (below_step bw hb); have NB808_809 := nl hg BK808; have NB809_808 := ns NB808_809; replace BK808 := kb BK808 hb; clear hb hbox hg))
 (try simp only [Act.put, List.setIfInBounds_toArray, List.set_cons_zero, List.set_cons_succ])
 go_cut [13] (fun v13 wc => ∃ (kq : Nat) (x13_2 : Bool), v13 = .bool x13_2 ∧ Aside0 (spec_IsWithin.j0 kq x13_2 l0_0 l1_0 = some r) ∧ Aside0 (kq ≤ k) ∧ Aside0 (wc.heap[gb808]? = some (.cells #[(.slice A0_0 l0_0.length c0_0)] 26 (0, 0))) ∧ Aside0 (wc.heap[gb809]? = some (.cells #[(.slice A1_0 l1_0.length c1_0)] 26 (0, 0))) ∧ Aside0 (Below w.heap.size w wc))
 case first =>
  have H := HC3.out
  clear HC3
  replace H := ga H; obtain ⟨t810, A6, H⟩ := H
  replace H := gb H; obtain ⟨rfl, H⟩ | ⟨rfl, H⟩ := H
  ·replace H := ga H; obtain ⟨t811, A8, H⟩ := H
   have H' := am H
   clear H
   have hnb9 := NB808_809.out
   have hnc9 := NB809_808.out
   have hcz10_0 := bc BK808 0 (.slice A0_0 l0_0.length c0_0)
   have hfz10_0 := blk_frozen BK808.out 0
   go_wp2_with (first | ((with_reducible refine gate_callee (f := 23) rfl ?_); refine gl (some 7) Try.func23 #[.agg #[.slice A0_0 l0_0.length c0_0]] ?_; (with_reducible refine (spec_IsSemigroup.calls k _ _ l0_0 true _ ?side1 ?side2 A6.out).mono ?_); (case side1 => exact co (Kd.C_below HR0_0.out HB.out)); (case side2 => exact HC0_0.out); rintro e w11 ⟨rfl, hb⟩; refine ⟨_, rfl, ?_⟩; replace BK808 := kb BK808 hb; replace BK809 := kb BK809 hb; replace HB := am (below_step bw hb); clear hb; have hcz12_0 := bc BK809 0 (.slice A1_0 l1_0.length c1_0); have hfz12_0 := blk_frozen BK809.out 0) | (go_at_call 23; (with_reducible refine (spec_IsSemigroup.calls k _ _ l1_0 t811 _ ?side1 ?side2 A8.out).mono ?_); (case side1 => exact co (Kd.C_below HR1_0.out HB.out)); (case side2 => exact HC1_0.out); rintro e w13 ⟨rfl, hb⟩; replace BK808 := kb BK808 hb; replace BK809 := kb BK809 hb; replace HB := am (below_step bw hb); clear hb))
   go_meet
   case rel => exact ⟨_, (!t811), rr, H', ⟨om⟩, ⟨bo BK808.out⟩, ⟨bo BK809.out⟩, ⟨bw⟩⟩
  have H' := am H
  clear H
  have hnb14 := NB808_809.out
  have hnc14 := NB809_808.out
  have hcz15_0 := bc BK808 0 (.slice A0_0 l0_0.length c0_0)
  have hfz15_0 := blk_frozen BK808.out 0
  go_wp2_with (first | ((with_reducible refine gate_callee (f := 23) rfl ?_); refine gl (some 7) Try.func23 #[.agg #[.slice A0_0 l0_0.length c0_0]] ?_; (with_reducible refine (spec_IsSemigroup.calls k _ _ l0_0 false _ ?side1 ?side2 A6.out).mono ?_); (case side1 => exact co (Kd.C_below HR0_0.out HB.out)); (case side2 => exact HC0_0.out); rintro e w16 ⟨rfl, hb⟩; refine ⟨_, rfl, ?_⟩; replace BK808 := kb BK808 hb; replace BK809 := kb BK809 hb; replace HB := am (below_step bw hb); clear hb))
  go_meet
  case rel => exact ⟨_, (true), rr, H', ⟨om⟩, ⟨bo BK808.out⟩, ⟨bo BK809.out⟩, ⟨bw⟩⟩
 case rest =>
  clear HC3
  try clear hcz10_0; try clear hcz12_0; try clear hcz15_0; try clear hfz10_0; try clear hfz12_0; try clear hfz15_0
  obtain ⟨kq, x13_2, rfl, HA, HJ2, BK808, BK809, HB⟩ := hcut
  cases kq with
  | zero => exact absurd HA.out (by simp [spec_IsWithin.j0])
  | succ kj2 =>
   have H := HA.out
   clear HA
   simp only [spec_IsWithin.j0] at H
   replace H := gb H; obtain ⟨rfl, H⟩ | ⟨rfl, H⟩ := H
   ·obtain rfl := Option.some.inj H
    go_wp2
    go_ret
    exact ⟨re, bw⟩
   have H' := am H
   clear H
   go_wp2
   go_loopg [5] kj2 (fun kq v5 w' => ∃ (x5_2 : Int), v5 = .int .i64 x5_2 ∧ Aside0 (spec_IsWithin.l0 kq x5_2 l0_0 l1_0 = some r) ∧ Aside0 (kq ≤ kj2) ∧ Aside0 (w'.heap[gb808]? = some (.cells #[(.slice A0_0 l0_0.length c0_0)] 26 (0, 0))) ∧ Aside0 (w'.heap[gb809]? = some (.cells #[(.slice A1_0 l1_0.length c1_0)] 26 (0, 0))) ∧ Aside0 (Below w.heap.size w w'))
   case atStart => exact ⟨(0), rr, H', ⟨Nat.le_refl _⟩, ⟨bo BK808.out⟩, ⟨bo BK809.out⟩, ⟨bw⟩⟩
   case round =>
    clear H'
    try clear hcz10_0; try clear hcz12_0; try clear hcz15_0; try clear hfz10_0; try clear hfz12_0; try clear hfz15_0
    obtain ⟨x5_2, rfl, HA, HK2, BK808, BK809, HB⟩ := hrel
    cases gk with
    | zero => exact absurd HA.out (by simp [spec_IsWithin.l0])
    | succ k2 =>
     have H := HA.out
     clear HA
     simp only [spec_IsWithin.l0] at H
     replace H := gi H; obtain ⟨c18b0, H⟩ | ⟨c18b0, H⟩ := H
     ·replace H := gd H; obtain ⟨c19b0, H⟩ := H
      replace H := ga H; obtain ⟨t813, A20, H⟩ := H
      replace H := gb H; obtain ⟨rfl, H⟩ | ⟨rfl, H⟩ := H
      ·have H' := am H
       clear H
       have hnb22 := NB808_809.out
       have hnc22 := NB809_808.out
       have hcz23_0 := bc BK808 0 (.slice A0_0 l0_0.length c0_0)
       have hfz23_0 := blk_frozen BK808.out 0
       try go_wp2
       replace BK808 := bd BK808
       replace BK809 := bd BK809
       replace HB := am (below_drew1 HB.out)
       obtain ⟨⟨ad812, e812, hx812_0⟩, p812, q812⟩ := pq (Kd.at_int HR0_0.out x5_2)
       have hw812_0 := hx812_0
       cases e812
       replace hx812_0 := hw HB hx812_0
       refine start_ (n := 8) (S := fun w' => w'.cell? ⟨gb809, 0, none⟩ = some (.slice A1_0 l1_0.length c1_0) ∧ w'.cell? ⟨gb808, 0, none⟩ = some (.slice (some ad812) l0_0.length c0_0) ∧ w'.cell? (ad812.add (x5_2).toNat) = some (.int .i64 (rd l0_0 x5_2))) (ds := []) (yz 8 0) (by kernel_rfl) rfl rfl ⟨bc BK809 0 _, bc BK808 0 _, ((HB.out.cell (World.block_lt_of_cell? w _ hw812_0)).trans hw812_0)⟩ (fun hHeld => ?_); refine with_tabW spec_IsWithin.tab6 spec_IsWithin.bits6 (fun HT_ HW_ => ?_)
       generalize wr.drew = w24 at BK808 BK809 HB hx812_0 hHeld ⊢
       refine pa 1 (some 22) (yz 8 2) HT_ ?_
       refine pa 3 (some 24) (yz 8 10) HT_ ?_
       refine tk 0 (some 21) (yz 8 11) HT_ HW_ hHeld ?_
       refine tk 2 (some 23) (yz 8 15) HT_ HW_ hHeld ?_
       refine pa 4 (some 25) (yz 8 31) HT_ ?_
       refine tk 5 (some 26) (yz 8 63) HT_ HW_ hHeld ?_
       refine oa 6 (some 27) (yz 8 127) HT_ (fun K hK => ?_)
       refine gm Try.func154 #[.agg #[.slice A1_0 l1_0.length c1_0], .int .i64 (rd l0_0 x5_2)] ?_
       with_reducible refine (spec_l3Has.calls k2 _ _ l1_0 (rd l0_0 x5_2) true _ ?side1 ?side2 A20.out).mono ?_
       (case side1 => exact co (Kd.C_below HR1_0.out HB.out))
       (case side2 => exact HC1_0.out)
       rintro e w25 ⟨rfl, hb⟩
       refine ⟨_, rfl, ?_⟩
       replace BK808 := kb BK808 hb
       replace BK809 := kb BK809 hb
       replace HB := am (below_step bw hb)
       clear hb
       refine hK.out _ _ ⟨bc BK809 0 _, bc BK808 0 _, ((HB.out.cell (World.block_lt_of_cell? w _ hw812_0)).trans hw812_0)⟩ (fun hHeld => ?_)
       clear hK K
       refine nm (some 27) ?_
       refine pa 7 (some 28) (yz 8 255) HT_ ?_
       refine done_ (done_of HT_.out (by kernel_rfl)) ?_
       try go_wp2
       go_roundg k2
       case measure => have := HJ2.out; have := HK2.out; omega
       case rel => exact ⟨(wrap64 (x5_2 + 1)), rr, H', ⟨by have := HJ2.out; have := HK2.out; omega⟩, ⟨bo BK808.out⟩, ⟨bo BK809.out⟩, ⟨bw⟩⟩
      obtain rfl := Option.some.inj H
      have hnb26 := NB808_809.out
      have hnc26 := NB809_808.out
      have hcz27_0 := bc BK808 0 (.slice A0_0 l0_0.length c0_0)
      have hfz27_0 := blk_frozen BK808.out 0
      try go_wp2
      replace BK808 := bd BK808
      replace BK809 := bd BK809
      replace HB := am (below_drew1 HB.out)
      obtain ⟨⟨ad812, e812, hx812_0⟩, p812, q812⟩ := pq (Kd.at_int HR0_0.out x5_2)
      have hw812_0 := hx812_0
      cases e812
      replace hx812_0 := hw HB hx812_0
      refine start_ (n := 8) (S := fun w' => w'.cell? ⟨gb809, 0, none⟩ = some (.slice A1_0 l1_0.length c1_0) ∧ w'.cell? ⟨gb808, 0, none⟩ = some (.slice (some ad812) l0_0.length c0_0) ∧ w'.cell? (ad812.add (x5_2).toNat) = some (.int .i64 (rd l0_0 x5_2))) (ds := []) (yz 8 0) (by kernel_rfl) rfl rfl ⟨bc BK809 0 _, bc BK808 0 _, ((HB.out.cell (World.block_lt_of_cell? w _ hw812_0)).trans hw812_0)⟩ (fun hHeld => ?_); refine with_tabW spec_IsWithin.tab6 spec_IsWithin.bits6 (fun HT_ HW_ => ?_)
      generalize wr.drew = w28 at BK808 BK809 HB hx812_0 hHeld ⊢
      refine pa 1 (some 22) (yz 8 2) HT_ ?_
      refine pa 3 (some 24) (yz 8 10) HT_ ?_
      refine tk 0 (some 21) (yz 8 11) HT_ HW_ hHeld ?_
      refine tk 2 (some 23) (yz 8 15) HT_ HW_ hHeld ?_
      refine pa 4 (some 25) (yz 8 31) HT_ ?_
      refine tk 5 (some 26) (yz 8 63) HT_ HW_ hHeld ?_
      refine oa 6 (some 27) (yz 8 127) HT_ (fun K hK => ?_)
      refine gm Try.func154 #[.agg #[.slice A1_0 l1_0.length c1_0], .int .i64 (rd l0_0 x5_2)] ?_
      with_reducible refine (spec_l3Has.calls k2 _ _ l1_0 (rd l0_0 x5_2) false _ ?side1 ?side2 A20.out).mono ?_
      (case side1 => exact co (Kd.C_below HR1_0.out HB.out))
      (case side2 => exact HC1_0.out)
      rintro e w29 ⟨rfl, hb⟩
      refine ⟨_, rfl, ?_⟩
      replace BK808 := kb BK808 hb
      replace BK809 := kb BK809 hb
      replace HB := am (below_step bw hb)
      clear hb
      refine hK.out _ _ ⟨bc BK809 0 _, bc BK808 0 _, ((HB.out.cell (World.block_lt_of_cell? w _ hw812_0)).trans hw812_0)⟩ (fun hHeld => ?_)
      clear hK K
      refine nm (some 27) ?_
      refine pa 7 (some 28) (yz 8 255) HT_ ?_
      refine done_ (done_of HT_.out (by kernel_rfl)) ?_
      try go_wp2
      go_ret
      exact ⟨re, bw⟩
     obtain rfl := Option.some.inj H
     have hnb30 := NB808_809.out
     have hnc30 := NB809_808.out
     have hcz31_0 := bc BK808 0 (.slice A0_0 l0_0.length c0_0)
     have hfz31_0 := blk_frozen BK808.out 0
     go_wp2
     go_ret
     exact ⟨re, bw⟩

end Go.Proofs.Ytkfplkdchkmgbaa.C
