/- Contracts of functions of the program: spec_DrawMeetOf, impl_MeetOf, spec_HasNumber, spec_l8Gaps, spec_GapClash. -/
import Derived.Test.YtkfplkdchkmgbaaC0
import Derived.Test.YtkfplkdchkmgbaaC1
import Derived.Test.YtkfplkdchkmgbaaC2
import Derived.Test.YtkfplkdchkmgbaaC4
import Derived.Test.YtkfplkdchkmgbaaC5
import Derived.Test.YtkfplkdchkmgbaaC6
import Derived.Test.YtkfplkdchkmgbaaC7
namespace Go.Proofs.Ytkfplkdchkmgbaa.C
open Go.RowKit Go.Proofs.YtkfplkdchkmgbaaW.PrintWords Go.Proofs.YtkfplkdchkmgbaaW.PrintLast Go.Proofs.YtkfplkdchkmgbaaW.PrintMore
attribute [local go_sem] max2_int min2_int max_two min_two max_three min_three max_four min_four
set_option linter.unusedVariables false
set_option linter.unusedSimpArgs false

/-! ### spec_DrawMeetOf: function 108 -/
def spec_DrawMeetOf.f (k : Nat) (l0 : List Int) : Option (List Int × List Int) := (spec_l1New.f k l0).bind fun bt410 => ((spec_l3Bent.f k bt410.1 bt410.2.1 bt410.2.2).bind fun bt414 => ((spec_l3Bent.f k bt410.1 bt414.2.1 bt414.2.2).bind fun bt420 => (some (bt414.1, bt420.1))))
set_option maxHeartbeats 8000000 in
set_option maxRecDepth 100000 in
theorem spec_DrawMeetOf.calls (k : Nat) (A0 : Option Addr) (c0 : Nat) (l0 : List Int) (r1 : List Int) (r2 : List Int) (w : World) (hr0 : Kd.C (Kd.int .u8) w A0 l0.length l0) (hc0 : l0.length ≤ c0) (h : spec_DrawMeetOf.f k l0 = some (r1, r2)) :
  Calls Try.prog 108 #[.slice A0 l0.length c0] w fun e w' => ∃ v0_ v1_ : Value, e = .returned (.tuple #[.agg #[v0_], .agg #[v1_]]) ∧ Kd.Q (Kd.int .i64) 3 w' w.heap.size (fun k_ => some k_ ≠ (v1_ : Value).ownBlock) v0_ r1 ∧ Kd.Q (Kd.int .i64) 3 w' w.heap.size (fun k_ => some k_ ≠ (v0_ : Value).ownBlock) v1_ r2 ∧ Below w.heap.size w w' := by
 have hu26 := Try.underlying26
 have HR0 := am hr0
 have HC0 := am hc0
 clear hr0 hc0
 have HB := am (Below.refl w.heap.size w)
 have H : ((spec_l1New.f k l0).bind fun bt410 => ((spec_l3Bent.f k bt410.1 bt410.2.1 bt410.2.2).bind fun bt414 => ((spec_l3Bent.f k bt410.1 bt414.2.1 bt414.2.2).bind fun bt420 => (some (bt414.1, bt420.1))))) = some (r1, r2) := h
 clear h
 replace H := ga H; obtain ⟨⟨t410, t411, t412⟩, A2, H⟩ := H
 replace H : ((spec_l3Bent.f k t410 t411 t412).bind fun bt414 => ((spec_l3Bent.f k t410 bt414.2.1 bt414.2.2).bind fun bt420 => (some (bt414.1, bt420.1)))) = some (r1, r2) := H
 replace H := ga H; obtain ⟨⟨t414, t417, t418⟩, A3, H⟩ := H
 replace H : ((spec_l3Bent.f k t410 t417 t418).bind fun bt420 => (some (t414, bt420.1))) = some (r1, r2) := H
 replace H := ga H; obtain ⟨⟨t420, t423, t424⟩, A4, H⟩ := H
 replace H : (some (t414, t420)) = some (r1, r2) := H
 simp only [Option.some.injEq, Prod.mk.injEq] at H
 obtain ⟨rfl, rfl⟩ := H
 go_enter Try.func108, Try.ntmps108
 try go_wp2_with (first | ((with_reducible refine gate_dst (N := 2) rfl ?_); refine bx 2 #[.slice none 0 0] 26 ?_; intro gb408 hg w5 hbox hb; have BK408 := am (hbox); have GW408 := am (gs hg : w.heap.size ≤ gb408); have GE408 := GW408; replace HB := am (below_step bw hb); clear hb hbox hg) | ((with_reducible refine gate_dst (N := 3) rfl ?_); refine bx 3 #[.slice none 0 0] 26 ?_; intro gb409 hg w6 hbox hb; have BK409 := am (hbox); have GW409 := am (gs hg : w.heap.size ≤ gb409); have GE409 := GW409; replace HB := am (below_step bw hb); have NB408_409 := nl hg BK408; have NB409_408 := ns NB408_409; replace BK408 := kb BK408 hb; clear hb hbox hg) | ((with_reducible refine gate_callee (f := 131) rfl ?_); refine gl (some 7) Try.func131 #[.slice A0 l0.length c0] ?_; (with_reducible refine (spec_l1New.calls k _ _ l0 t410 t411 t412 w _ ?side1 ?side2 ?side3 A2.out).mono ?_); (case side1 => exact bw); (case side2 => exact HR0.out); (case side3 => exact HC0.out); rintro e w7 ⟨g413, rfl, hi, hb, hb2⟩; refine ⟨_, rfl, ?_⟩; replace HB := am (hb); have HI413 := am (hi); have NB413_408 := am (IsS132.ne_blk hi (blk_below (g := gb408) (o := .cells #[.slice none 0 0] 26 (0, 0)) (bo BK408.out) hb2) (by decide)); have NB408_413 := ns NB413_408; replace BK408 := kb BK408 hb2; have NB413_409 := am (IsS132.ne_blk hi (blk_below (g := gb409) (o := .cells #[.slice none 0 0] 26 (0, 0)) (bo BK409.out) hb2) (by decide)); have NB409_413 := ns NB413_409; replace BK409 := kb BK409 hb2; clear hb hb2 hi) | ((with_reducible refine gate_callee (f := 130) rfl ?_); refine gl (some 9) Try.func130 #[.pointer (some ⟨g413, 0, none⟩)] ?_; (with_reducible refine (spec_l3Bent.calls k g413 t410 t411 t412 t414 t417 t418 w _ ?side1 ?side2 A3.out).mono ?_); (case side1 => exact iw HI413.out); (case side2 => exact bv); rintro e w8 ⟨v415, rfl, ho0, hi, hb, hk⟩; refine ⟨_, rfl, ?_⟩; replace BK408 := kk hk BK408 NB408_413; replace BK409 := kk hk BK409 NB409_413; have HO416 := am (Kd.Q_lower ho0 (below_size bv)); replace HB := am (hb); replace HI413 := am (hi); clear hb hk hi ho0) | ((with_reducible refine gate_dst (N := 5) rfl ?_); refine bx 5 #[.slice none 0 0] 26 ?_; intro gb419 hg w9 hbox hb; replace HO416 := qK HO416 hb; have BK419 := am (hbox); have GW419 := am ((by rw [hg]; exact (below_size bv) : w.heap.size ≤ gb419)); have GE419 := GW419; replace HB := am (below_step bv hb); have NB408_419 := nl hg BK408; have NB419_408 := ns NB408_419; replace BK408 := kb BK408 hb; have NB409_419 := nl hg BK409; have NB419_409 := ns NB409_419; replace BK409 := kb BK409 hb; have NB413_419 := am ((by rw [hg]; exact Nat.ne_of_lt (IsS132.lt (show IsS132 w _ g413 t410 t417 t418 from (iw HI413.out))) : g413 ≠ gb419)); have NB419_413 := ns NB413_419; replace HI413 := am (IsS132.below (iw HI413.out) hb); clear hb hbox hg; obtain ⟨Ao10, co10, eo10, _⟩ := Kd.Q_slice HO416.out; subst eo10; have hnb11 := NB419_408.out; have hnc11 := NB408_419.out; have hnb12 := NB419_409.out; have hnc12 := NB409_419.out; have hnb13 := NB419_413.out; have hnc13 := NB413_419.out; have hcz14_0 := bc BK419 0 (.slice none 0 0); have hfz14_0 := blk_frozen BK419.out 0))
 have n0_ : Aside0 (Kd.Q (Kd.int .i64) 3 (w9.setCell ⟨gb419, 0, none⟩ (.slice Ao10 t414.length co10)) w.heap.size (fun _ => True) (.slice Ao10 t414.length co10) t414) := ⟨by (with_reducible repeat (first | apply Kd.Q_alloc | apply Kd.Q_drewN | apply Kd.Q_drew)); exact Kd.Q_mono (Kd.Q_far (p := ⟨gb419, 0, none⟩) (Kd.Q_types HO416.out BK419.out (by decide)) (fun _ hk => hk.2) (.slice Ao10 t414.length co10)) (fun _ hk => trivial)⟩
 have n1_ : Aside0 ((w9.setCell ⟨gb419, 0, none⟩ (.slice Ao10 t414.length co10)).heap[gb408]? = some (.cells #[.slice none 0 0] 26 (0, 0))) := ⟨bf BK408.out⟩
 have n2_ : Aside0 ((w9.setCell ⟨gb419, 0, none⟩ (.slice Ao10 t414.length co10)).heap[gb409]? = some (.cells #[.slice none 0 0] 26 (0, 0))) := ⟨bf BK409.out⟩
 have n3_ : Aside0 ((w9.setCell ⟨gb419, 0, none⟩ (.slice Ao10 t414.length co10)).heap[gb419]? = some (.cells #[.slice Ao10 t414.length co10] 26 (0, 0))) := ⟨by (with_reducible repeat (first | refine blk_drewN ?_ _ | refine blk_drew ?_ | refine blk_alloc ?_ _)); refine blk_put (cs := #[.slice none 0 0]) ?_ 0 _ rfl; (with_reducible repeat (first | refine blk_drewN ?_ _ | refine blk_drew ?_ | refine blk_alloc ?_ _)); exact BK419.out⟩
 have n4_ : Aside0 (IsS132 w (w9.setCell ⟨gb419, 0, none⟩ (.slice Ao10 t414.length co10)) g413 t410 t417 t418) := ⟨(iw HI413.out)⟩
 have n5_ : Aside0 (Below w.heap.size w (w9.setCell ⟨gb419, 0, none⟩ (.slice Ao10 t414.length co10))) := ⟨bv⟩
 (try clear HO416); (try clear BK408); (try clear BK409); (try clear BK419); (try clear HI413); (try clear HB)
 generalize (w9.setCell ⟨gb419, 0, none⟩ (.slice Ao10 t414.length co10)) = w15 at n0_ n1_ n2_ n3_ n4_ n5_ ⊢
 have HO416 := n0_
 have BK408 := n1_
 have BK409 := n2_
 have BK419 := n3_
 have HI413 := n4_
 have HB := n5_
 clear n0_ n1_ n2_ n3_ n4_ n5_
 replace HO416 := am (Kd.Q_drew HO416.out)
 replace BK408 := bd BK408
 replace BK409 := bd BK409
 replace BK419 := bd BK419
 replace HI413 := am (IsS132.drew HI413.out)
 replace HB := am (below_drew1 HB.out)
 refine start_ (n := 5) (S := fun w' => w'.cell? ⟨gb419, 0, none⟩ = some (.slice Ao10 t414.length co10)) (ds := []) (yz 5 0) (by kernel_rfl) rfl rfl (bc BK419 0 _) (fun hHeld => ?_)
 generalize w15.drew = w16 at HO416 BK408 BK409 BK419 HI413 HB hHeld ⊢
 refine pure_ (i := 1) (N := some 11) (v := ?_) (a' := ?_) (yz 5 2) rfl rfl (by kernel_rfl) (fun _ _ _ h => h) (Or.inl ⟨by rfl, ?_⟩) ?_ ?_
 rotate_left
 ·intro w'
  go_simp
  with_reducible rfl
 rotate_left
 ·simp only [Act.put, qa, qb, qc, i64_w, i32_w]
  rfl
 refine tQ 0 (some 10) (yz 5 3) hHeld ?_
 refine one_ (i := 2) (N := some 12) (yz 5 7) rfl rfl (by kernel_rfl) (by decide) (fun K hK => ?_)
 refine gm Try.func130 #[.pointer (some ⟨g413, 0, none⟩)] ?_
 with_reducible refine (spec_l3Bent.calls k g413 t410 t417 t418 t420 t423 t424 w _ ?side1 ?side2 A4.out).mono ?_
 (case side1 => exact iw HI413.out)
 (case side2 => exact bv)
 rintro e w17 ⟨v421, rfl, ho0, hi, hb, hk⟩
 refine ⟨_, rfl, ?_⟩
 replace BK408 := kk hk BK408 NB408_413
 replace BK409 := kk hk BK409 NB409_413
 replace BK419 := kk hk BK419 NB419_413
 have HO422 := am (Kd.Q_lower (Kd.Q_new' ho0 (Kd.Q_lt (qo HO416.out))) (below_size bv))
 replace HO416 := am (Kd.Q_mono (Kd.Q_told (Kd.Q_oldK (IsS132.apartQ (show IsS132 w _ g413 t410 t417 t418 from (iw HI413.out)) (qo HO416.out) (by decide)) hk) (Kd.Q_base ho0)) (fun _ h_ => h_.1))
 replace HB := am (hb)
 replace HI413 := am (hi)
 clear hb hk hi ho0
 obtain ⟨Ao19, co19, eo19, _⟩ := Kd.Q_slice HO422.out
 (first | subst eo19 | (injection eo19 with f1_ f2_ f3_; have f4_ := f1_.symm; have f5_ := f3_.symm; clear f1_ f2_ f3_; subst f4_; subst f5_))
 refine hK.out _ _ (bc BK419 0 _) (fun hHeld => ?_)
 clear hK K
 refine nm (some 12) ?_
 refine one_ (i := 3) (N := none) (yz 5 15) rfl rfl (by kernel_rfl) (by decide) (fun K hK => ?_)
 have hs18 := bc BK408 0 (.slice none 0 0)
 have hfs18 := blk_frozen BK408.out 0
 have hns18_1 := NB409_408.out
 have hns18_2 := NB419_408.out
 have hms18_1 := NB408_409.out
 have hms18_2 := NB408_419.out
 refine skip_ (w1 := ?_) (by rfl) rfl ?_ ?_
 rotate_left
 ·go_simp
  rfl
 refine hK.out _ _ (((cell_far (p := ⟨gb408, _, none⟩) NB419_408.out _).trans (hHeld))) (fun hHeld => ?_)
 clear hK K
 refine one_ (i := 4) (N := none) (yz 5 31) rfl rfl (by kernel_rfl) (by decide) (fun K hK => ?_)
 have hs20 := bc BK409 0 (.slice none 0 0)
 have hfs20 := blk_frozen BK409.out 0
 have hns20_0 := NB408_409.out
 have hns20_2 := NB419_409.out
 have hms20_0 := NB409_408.out
 have hms20_2 := NB409_419.out
 refine skip_ (w1 := ?_) (by rfl) rfl ?_ ?_
 rotate_left
 ·go_simp
  rfl
 refine hK.out _ _ (((cell_far (p := ⟨gb409, _, none⟩) NB419_409.out _).trans (hHeld))) (fun hHeld => ?_)
 clear hK K
 refine done_ (by kernel_rfl) ?_
 try go_wp2
 refine bodyPost_ret (results_cc rfl _ _ gb408 gb409 26 26 #[.slice Ao10 t414.length co10] #[.slice Ao19 t420.length co19] (0, 0) (0, 0) _ _ rfl (by (with_reducible repeat (first | refine blk_drewN ?_ _ | refine blk_drew ?_ | refine blk_alloc ?_ _)); refine blk_far ?_ NB408_409.out _; (with_reducible repeat (first | refine blk_drewN ?_ _ | refine blk_drew ?_ | refine blk_alloc ?_ _)); refine blk_put (cs := #[.slice none 0 0]) ?_ 0 _ rfl; (with_reducible repeat (first | refine blk_drewN ?_ _ | refine blk_drew ?_ | refine blk_alloc ?_ _)); exact BK408.out) Try.underlying26 rfl (by kernel_rfl) rfl (by (with_reducible repeat (first | refine blk_drewN ?_ _ | refine blk_drew ?_ | refine blk_alloc ?_ _)); refine blk_put (cs := #[.slice none 0 0]) ?_ 0 _ rfl; (with_reducible repeat (first | refine blk_drewN ?_ _ | refine blk_drew ?_ | refine blk_alloc ?_ _)); refine blk_far ?_ NB409_408.out _; (with_reducible repeat (first | refine blk_drewN ?_ _ | refine blk_drew ?_ | refine blk_alloc ?_ _)); exact BK409.out) Try.underlying26 rfl (by kernel_rfl)) rfl ?_
 exact ⟨_, _, re, by (with_reducible repeat (first | apply Kd.Q_alloc | apply Kd.Q_drewN | apply Kd.Q_drew)); exact Kd.Q_mono (Kd.Q_far (p := ⟨gb409, 0, none⟩) (Kd.Q_far (p := ⟨gb408, 0, none⟩) (Kd.Q_types (Kd.Q_types HO416.out BK408.out (by decide)) BK409.out (by decide)) (fun _ hk => by first | exact hk.1.2 | simp_all) (.slice Ao10 t414.length co10)) (fun _ hk => hk.2) (.slice Ao19 t420.length co19)) (fun _ hk => by first | exact hk.1.1.2 | simp_all), by (with_reducible repeat (first | apply Kd.Q_alloc | apply Kd.Q_drewN | apply Kd.Q_drew)); exact Kd.Q_mono (Kd.Q_far (p := ⟨gb409, 0, none⟩) (Kd.Q_far (p := ⟨gb408, 0, none⟩) (Kd.Q_types (Kd.Q_types HO422.out BK408.out (by decide)) BK409.out (by decide)) (fun _ hk => by first | exact hk.1.2 | simp_all) (.slice Ao10 t414.length co10)) (fun _ hk => hk.2) (.slice Ao19 t420.length co19)) (fun _ hk => by first | exact hk.1.1.2 | simp_all), bv⟩


/-! ### impl_MeetOf: function 109 -/
def impl_MeetOf.j0 : Nat → Bool → List Int → List Int → Option (List Int × Bool)
 | 0, _, _, _ => none
 | k + 1, x13, x616000, x617000 => if x13 = true then (some (([] : List Int), false)) else ((impl_Gaps.f k x616000).bind fun t620 => ((impl_Gaps.f k x617000).bind fun t623 => (if t620.length + t623.length < 17592186044416 then ((impl_SortList.f (t620 ++ t623)).bind fun t629 => ((impl_FromGaps.f k t629).bind fun bt632 => (some (bt632.1, bt632.2)))) else (none))))
def impl_MeetOf.f (k : Nat) (l0_0 : List Int) (l1_0 : List Int) : Option (List Int × Bool) := (impl_IsSemigroup.f k l0_0).bind fun t618 => (if t618 = true then ((impl_IsSemigroup.f k l1_0).bind fun t619 => (impl_MeetOf.j0 k (!t619) l0_0 l1_0)) else (impl_MeetOf.j0 k true l0_0 l1_0))
def impl_MeetOf.T3 : Bool × List (List Nat × List Nat) := (true, [([], []), ([0], [0]), ([], []), ([2, 1], [2]), ([1, 3, 3], [1, 3]), ([4, 4], [4]), ([5, 5], [5]), ([6], [6]), ([6], [6]), ([7, 6, 0, 1, 2, 3, 4, 5, 6, 7, 8], [7]), ([8, 9, 0, 1, 2, 3, 4, 5, 6, 7, 8, 9], [8])])
def impl_MeetOf.B3 : List Nat := [0, 1, 0, 7, 15, 31, 63, 127, 127, 511, 1023]
theorem impl_MeetOf.tab3 : rtab .any (opsOf Try.f109 3) = impl_MeetOf.T3 := by kernel_rfl
theorem impl_MeetOf.bits3 : waitsOk impl_MeetOf.T3.2 impl_MeetOf.B3 = true := by kernel_rfl
set_option maxHeartbeats 8000000 in
set_option maxRecDepth 100000 in
theorem impl_MeetOf.calls (k : Nat) (A0_0 : Option Addr) (c0_0 : Nat) (l0_0 : List Int) (A1_0 : Option Addr) (c1_0 : Nat) (l1_0 : List Int) (r1 : List Int) (r2 : Bool) (w : World) (hr0_0 : Kd.C (Kd.int .i64) w A0_0 l0_0.length l0_0) (hc0_0 : l0_0.length ≤ c0_0) (hr1_0 : Kd.C (Kd.int .i64) w A1_0 l1_0.length l1_0) (hc1_0 : l1_0.length ≤ c1_0) (h : impl_MeetOf.f k l0_0 l1_0 = some (r1, r2)) :
  Calls Try.prog 109 #[.agg #[.slice A0_0 l0_0.length c0_0], .agg #[.slice A1_0 l1_0.length c1_0]] w fun e w' => ∃ v0_ : Value, e = .returned (.tuple #[.agg #[v0_], .bool r2]) ∧ Kd.R (Kd.int .i64) 3 w' w.heap.size (fun _ => True) v0_ r1 ∧ Below w.heap.size w w' := by
 have hu26 := Try.underlying26
 have HR0_0 := am hr0_0
 have HC0_0 := am hc0_0
 clear hr0_0 hc0_0
 have HR1_0 := am hr1_0
 have HC1_0 := am hc1_0
 clear hr1_0 hc1_0
 have HB := am (Below.refl w.heap.size w)
 have H : ((impl_IsSemigroup.f k l0_0).bind fun t618 => (if t618 = true then ((impl_IsSemigroup.f k l1_0).bind fun t619 => (impl_MeetOf.j0 k (!t619) l0_0 l1_0)) else (impl_MeetOf.j0 k true l0_0 l1_0))) = some (r1, r2) := h
 clear h
 have HC3 := am H
 clear H
 go_enter Try.func109, Try.ntmps109
 go_upto_region 1 with (first | ((with_reducible refine gate_dst (N := 2) rfl ?_); refine bx 2 #[.slice A0_0 l0_0.length c0_0] 26 ?_; intro gb615 hg w4 hbox hb; have BK615 := am (hbox); have GW615 := am (gs hg : w.heap.size ≤ gb615); have GE615 := GW615; replace HB := am (below_step bw hb); clear hb hbox hg) | ((with_reducible refine gate_dst (N := 3) rfl ?_); refine bx 3 #[.slice A1_0 l1_0.length c1_0] 26 ?_; intro gb616 hg w5 hbox hb; have BK616 := am (hbox); have GW616 := am (gs hg : w.heap.size ≤ gb616); have GE616 := GW616; replace HB := am (below_step bw hb); have NB615_616 := nl hg BK615; have NB616_615 := ns NB615_616; replace BK615 := kb BK615 hb; clear hb hbox hg) | ((with_reducible refine gate_dst (N := 4) rfl ?_); refine bx 4 #[.slice none 0 0] 26 ?_; intro gb617 hg w6 hbox hb; have BK617 := am (hbox); have GW617 := am (gs hg : w.heap.size ≤ gb617); have GE617 := GW617; replace HB := am (below_step bw hb); have NB615_617 := nl hg BK615; have NB617_615 := ns NB615_617; replace BK615 := kb BK615 hb; have NB616_617 := nl hg BK616; have NB617_616 := ns NB616_617; replace BK616 := kb BK616 hb; clear hb hbox hg))
 (try simp only [Act.put, List.setIfInBounds_toArray, List.set_cons_zero, List.set_cons_succ])
 go_cut [13] (fun v13 wc => ∃ (kq : Nat) (x13_2 : Bool), v13 = .bool x13_2 ∧ Aside0 (impl_MeetOf.j0 kq x13_2 l0_0 l1_0 = some (r1, r2)) ∧ Aside0 (kq ≤ k) ∧ Aside0 (wc.heap[gb615]? = some (.cells #[(.slice A0_0 l0_0.length c0_0)] 26 (0, 0))) ∧ Aside0 (wc.heap[gb616]? = some (.cells #[(.slice A1_0 l1_0.length c1_0)] 26 (0, 0))) ∧ Aside0 (wc.heap[gb617]? = some (.cells #[(.slice none 0 0)] 26 (0, 0))) ∧ Aside0 (Below w.heap.size w wc))
 case first =>
  have H := HC3.out
  clear HC3
  replace H := ga H; obtain ⟨t618, A7, H⟩ := H
  replace H := gb H; obtain ⟨rfl, H⟩ | ⟨rfl, H⟩ := H
  ·replace H := ga H; obtain ⟨t619, A9, H⟩ := H
   have H' := am H
   clear H
   have hnb10 := NB615_616.out
   have hnc10 := NB616_615.out
   have hnb11 := NB615_617.out
   have hnc11 := NB617_615.out
   have hcz12_0 := bc BK615 0 (.slice A0_0 l0_0.length c0_0)
   have hfz12_0 := blk_frozen BK615.out 0
   go_wp2_with (first | ((with_reducible refine gate_callee (f := 151) rfl ?_); refine gl (some 7) Try.func151 #[.agg #[.slice A0_0 l0_0.length c0_0]] ?_; (with_reducible refine (impl_IsSemigroup.calls k _ _ l0_0 true _ ?side1 ?side2 A7.out).mono ?_); (case side1 => exact co (Kd.C_below HR0_0.out HB.out)); (case side2 => exact HC0_0.out); rintro e w13 ⟨rfl, hb⟩; refine ⟨_, rfl, ?_⟩; replace BK615 := kb BK615 hb; replace BK616 := kb BK616 hb; replace BK617 := kb BK617 hb; replace HB := am (below_step bw hb); clear hb; have hnb14 := NB616_617.out; have hnc14 := NB617_616.out; have hcz15_0 := bc BK616 0 (.slice A1_0 l1_0.length c1_0); have hfz15_0 := blk_frozen BK616.out 0) | (go_at_call 151; (with_reducible refine (impl_IsSemigroup.calls k _ _ l1_0 t619 _ ?side1 ?side2 A9.out).mono ?_); (case side1 => exact co (Kd.C_below HR1_0.out HB.out)); (case side2 => exact HC1_0.out); rintro e w16 ⟨rfl, hb⟩; replace BK615 := kb BK615 hb; replace BK616 := kb BK616 hb; replace BK617 := kb BK617 hb; replace HB := am (below_step bw hb); clear hb))
   go_meet
   case rel => exact ⟨_, (!t619), rr, H', ⟨om⟩, ⟨bo BK615.out⟩, ⟨bo BK616.out⟩, ⟨bo BK617.out⟩, ⟨bw⟩⟩
  have H' := am H
  clear H
  have hnb17 := NB615_616.out
  have hnc17 := NB616_615.out
  have hnb18 := NB615_617.out
  have hnc18 := NB617_615.out
  have hcz19_0 := bc BK615 0 (.slice A0_0 l0_0.length c0_0)
  have hfz19_0 := blk_frozen BK615.out 0
  go_wp2_with (first | ((with_reducible refine gate_callee (f := 151) rfl ?_); refine gl (some 7) Try.func151 #[.agg #[.slice A0_0 l0_0.length c0_0]] ?_; (with_reducible refine (impl_IsSemigroup.calls k _ _ l0_0 false _ ?side1 ?side2 A7.out).mono ?_); (case side1 => exact co (Kd.C_below HR0_0.out HB.out)); (case side2 => exact HC0_0.out); rintro e w20 ⟨rfl, hb⟩; refine ⟨_, rfl, ?_⟩; replace BK615 := kb BK615 hb; replace BK616 := kb BK616 hb; replace BK617 := kb BK617 hb; replace HB := am (below_step bw hb); clear hb))
  go_meet
  case rel => exact ⟨_, (true), rr, H', ⟨om⟩, ⟨bo BK615.out⟩, ⟨bo BK616.out⟩, ⟨bo BK617.out⟩, ⟨bw⟩⟩
 case rest =>
  clear HC3
  try clear hcz12_0; try clear hcz15_0; try clear hcz19_0; try clear hfz12_0; try clear hfz15_0; try clear hfz19_0
  obtain ⟨kq, x13_2, rfl, HA, HJ2, BK615, BK616, BK617, HB⟩ := hcut
  cases kq with
  | zero => exact absurd HA.out (by simp [impl_MeetOf.j0])
  | succ kj2 =>
   have H := HA.out
   clear HA
   simp only [impl_MeetOf.j0] at H
   replace H := gb H; obtain ⟨rfl, H⟩ | ⟨rfl, H⟩ := H
   ·simp only [Option.some.injEq, Prod.mk.injEq] at H
    obtain ⟨rfl, rfl⟩ := H
    have hnb22 := NB617_615.out
    have hnc22 := NB615_617.out
    have hnb23 := NB617_616.out
    have hnc23 := NB616_617.out
    have hcz24_0 := bc BK617 0 (.slice none 0 0)
    have hfz24_0 := blk_frozen BK617.out 0
    go_wp2
    refine bodyPost_ret (results_ct rfl _ _ gb617 26 #[.slice none 0 0] (0, 0) _ rfl (by (with_reducible repeat (first | refine blk_drewN ?_ _ | refine blk_drew ?_ | refine blk_alloc ?_ _)); refine blk_put (cs := #[.slice none 0 0]) ?_ 0 _ rfl; (with_reducible repeat (first | refine blk_drewN ?_ _ | refine blk_drew ?_ | refine blk_alloc ?_ _)); exact BK617.out) Try.underlying26 rfl (by kernel_rfl)) rfl ?_
    exact ⟨_, re, by first | exact Kd.R_nil _ _ _ _ _ | exact Kd.N_nil _ _ _ _ _ | exact Kd.V_nil _ _ _ _ _ | exact Kd.Q_nil _ _ _ _ _ | exact Kd.S_nil _ _ _ _ _, bw⟩
   replace H := ga H; obtain ⟨t620, A25, H⟩ := H
   replace H := ga H; obtain ⟨t623, A26, H⟩ := H
   by_cases c27 : t620.length + t623.length < 17592186044416
   rotate_left
   ·rw [if_neg c27] at H
    exact absurd H (by simp)
   rw [if_pos c27] at H
   have LMc27 := am c27
   clear c27
   obtain ⟨y626, hy626⟩ : ∃ y_ : List Int, y_ = (t620 ++ t623) := ⟨_, rfl⟩
   replace H : ((impl_SortList.f y626).bind fun t629 => ((impl_FromGaps.f kj2 t629).bind fun bt632 => (some (bt632.1, bt632.2)))) = some (r1, r2) := by first | (rw [hy626]; with_reducible first | exact H | exact bs H) | (with_reducible first | exact bs H | exact H) | (rw [hy626]; exact H) | exact H
   have Ny626 := am hy626
   clear hy626
   replace H := ga H; obtain ⟨t629, A28, H⟩ := H
   replace H := ga H; obtain ⟨⟨t632, t635⟩, A29, H⟩ := H
   replace H : (some (t632, t635)) = some (r1, r2) := H
   simp only [Option.some.injEq, Prod.mk.injEq] at H
   obtain ⟨rfl, rfl⟩ := H
   try go_wp2
   replace BK615 := bd BK615
   replace BK616 := bd BK616
   replace BK617 := bd BK617
   replace HB := am (below_drew1 HB.out)
   refine start_ (n := 11) (S := fun w' => w'.cell? ⟨gb615, 0, none⟩ = some (.slice A0_0 l0_0.length c0_0) ∧ w'.cell? ⟨gb616, 0, none⟩ = some (.slice A1_0 l1_0.length c1_0)) (ds := []) (yz 11 0) (by kernel_rfl) rfl rfl ⟨bc BK615 0 _, bc BK616 0 _⟩ (fun hHeld => ?_); refine with_tabW impl_MeetOf.tab3 impl_MeetOf.bits3 (fun HT_ HW_ => ?_)
   generalize wc.drew = w30 at BK615 BK616 BK617 HB hHeld ⊢
   refine tk 0 (some 15) (yz 11 1) HT_ HW_ hHeld ?_
   refine tk 2 (some 17) (yz 11 5) HT_ HW_ hHeld ?_
   refine oa 1 (some 16) (yz 11 7) HT_ (fun K hK => ?_)
   refine gm Try.func90 #[.agg #[.slice A0_0 l0_0.length c0_0]] ?_
   with_reducible refine (impl_Gaps.calls kj2 _ _ l0_0 t620 _ ?side1 ?side2 A25.out).mono ?_
   (case side1 => exact co (Kd.C_below HR0_0.out HB.out))
   (case side2 => exact HC0_0.out)
   rintro e w31 ⟨v621, rfl, ho0, hb⟩
   refine ⟨_, rfl, ?_⟩
   have HO622 := am (Kd.R_lower ho0 (below_size bw))
   replace BK615 := kb BK615 hb
   replace BK616 := kb BK616 hb
   replace BK617 := kb BK617 hb
   replace HB := am (below_step bw hb)
   clear hb ho0
   refine hK.out _ _ ⟨bc BK615 0 _, bc BK616 0 _⟩ (fun hHeld => ?_)
   clear hK K
   refine nm (some 16) ?_
   refine oa 3 (some 18) (yz 11 15) HT_ (fun K hK => ?_)
   refine gm Try.func90 #[.agg #[.slice A1_0 l1_0.length c1_0]] ?_
   with_reducible refine (impl_Gaps.calls kj2 _ _ l1_0 t623 _ ?side1 ?side2 A26.out).mono ?_
   (case side1 => exact co (Kd.C_below HR1_0.out HB.out))
   (case side2 => exact HC1_0.out)
   rintro e w32 ⟨v624, rfl, ho0, hb⟩
   refine ⟨_, rfl, ?_⟩
   have HO625 := am (Kd.R_lower (Kd.R_new' ho0 (Kd.R_lt (ro HO622.out))) (below_size bw))
   replace HO622 := am (Kd.R_elder' (ro HO622.out) (Kd.R_base ho0) hb)
   replace BK615 := kb BK615 hb
   replace BK616 := kb BK616 hb
   replace BK617 := kb BK617 hb
   replace HB := am (below_step bw hb)
   clear hb ho0
   obtain ⟨Ao34, co34, eo34⟩ := Kd.R_slice HO625.out
   (first | subst eo34 | (injection eo34 with f1_ f2_ f3_; have f4_ := f1_.symm; have f5_ := f3_.symm; clear f1_ f2_ f3_; subst f4_; subst f5_))
   refine hK.out _ _ ⟨bc BK615 0 _, bc BK616 0 _⟩ (fun hHeld => ?_)
   clear hK K
   refine nm (some 18) ?_
   refine oa 4 (some 19) (yz 11 31) HT_ (fun K hK => ?_)
   refine Kd.R_append_rows_step (Kd.int .i64) (w0 := w) w.heap.size (by rfl) (.tmp 16) (.tmp 18) 24 3 (.int .i64 0) 8 rfl Try.underlying24 info3 rfl (by decide) (by omega) v621 t620 t623 _ _ _ (fun k_ => nb k_ Ao34 t623 co34) (fun _ => False) rfl rfl ?aO ?aR (fun _ _ h => h) (fun _ h => h.elim) ?aF ?aB ?aS ?aL ?_
   (case aR => exact co (Kd.R_reads' HO625.out).2.2)
   (case aB => exact bw)
   (case aF => exact (fun k_ hk => Kd.fresh' (Kd.R_lt (ro HO625.out)) k_ hk))
   (case aO => exact (by (with_reducible repeat (first | apply Kd.R_alloc | apply Kd.R_drewN | apply Kd.R_drew)); exact Kd.R_mono HO622.out (fun _ hk => hk.2)))
   (case aS => exact (below_size bw))
   (case aL => have := LMc27.out; omega)
   intro v627 w33 ho hb hg hat
   rw [← Ny626.out] at ho
   replace BK615 := am (blk_grown (g := gb615) (o := .cells #[.slice A0_0 l0_0.length c0_0] 26 (0, 0)) (bo BK615.out) hg (Kd.R_ne HO622.out BK615.out (by decide)))
   replace BK616 := am (blk_grown (g := gb616) (o := .cells #[.slice A1_0 l1_0.length c1_0] 26 (0, 0)) (bo BK616.out) hg (Kd.R_ne HO622.out BK616.out (by decide)))
   replace BK617 := am (blk_grown (g := gb617) (o := .cells #[.slice none 0 0] 26 (0, 0)) (bo BK617.out) hg (Kd.R_ne HO622.out BK617.out (by decide)))
   replace HO625 := am (Kd.R_after (ok := (fun _ => True)) (ro HO625.out) hg hat)
   replace HB := am (hb)
   have HO628 := am (ho)
   clear HO622 ho hb hg hat
   obtain ⟨Ao35, co35, eo35⟩ := Kd.R_slice HO628.out
   (first | subst eo35 | (injection eo35 with f1_ f2_ f3_; have f4_ := f1_.symm; have f5_ := f3_.symm; clear f1_ f2_ f3_; subst f4_; subst f5_))
   refine hK.out _ _ ⟨bc BK615 0 _, bc BK616 0 _⟩ (fun hHeld => ?_)
   clear hK K
   refine nm (some 19) ?_
   refine oa 5 (some 20) (yz 11 63) HT_ (fun K hK => ?_)
   refine gm Try.func89 #[.slice Ao35 y626.length co35] ?_
   with_reducible refine (impl_SortList.calls _ _ y626 t629 _ ?side1 ?side2 A28.out).mono ?_
   (case side1 => exact co (Kd.R_reads' HO628.out).2.2)
   (case side2 => exact (Kd.R_reads' HO628.out).2.1)
   rintro e w36 ⟨v630, rfl, ho0, hb⟩
   refine ⟨_, rfl, ?_⟩
   have HO631 := am (Kd.R_lower (Kd.R_new' (Kd.R_new' ho0 (Kd.R_lt (ro HO625.out))) (Kd.R_lt (ro HO628.out))) (below_size bw))
   replace HO625 := am (Kd.R_elder' (ro HO625.out) (Kd.R_base ho0) hb)
   replace HO628 := am (Kd.R_elder' (ro HO628.out) (Kd.R_base ho0) hb)
   replace BK615 := kb BK615 hb
   replace BK616 := kb BK616 hb
   replace BK617 := kb BK617 hb
   replace HB := am (below_step bw hb)
   clear hb ho0
   obtain ⟨Ao37, co37, eo37⟩ := Kd.R_slice HO631.out
   (first | subst eo37 | (injection eo37 with f1_ f2_ f3_; have f4_ := f1_.symm; have f5_ := f3_.symm; clear f1_ f2_ f3_; subst f4_; subst f5_))
   refine hK.out _ _ ⟨bc BK615 0 _, bc BK616 0 _⟩ (fun hHeld => ?_)
   clear hK K
   refine nm (some 20) ?_
   refine oa 6 (some 21) (yz 11 127) HT_ (fun K hK => ?_)
   refine gm Try.func153 #[.slice Ao37 t629.length co37] ?_
   with_reducible refine (impl_FromGaps.calls kj2 _ _ t629 t632 t635 _ ?side1 ?side2 A29.out).mono ?_
   (case side1 => exact co (Kd.R_reads' HO631.out).2.2)
   (case side2 => exact (Kd.R_reads' HO631.out).2.1)
   rintro e w38 ⟨v633, rfl, ho0, hb⟩
   refine ⟨_, rfl, ?_⟩
   have HO634 := am (Kd.R_lower (Kd.R_new' (Kd.R_new' (Kd.R_new' ho0 (Kd.R_lt (ro HO625.out))) (Kd.R_lt (ro HO628.out))) (Kd.R_lt (ro HO631.out))) (below_size bw))
   replace HO625 := am (Kd.R_elder' (ro HO625.out) (Kd.R_base ho0) hb)
   replace HO628 := am (Kd.R_elder' (ro HO628.out) (Kd.R_base ho0) hb)
   replace HO631 := am (Kd.R_elder' (ro HO631.out) (Kd.R_base ho0) hb)
   replace BK615 := kb BK615 hb
   replace BK616 := kb BK616 hb
   replace BK617 := kb BK617 hb
   replace HB := am (below_step bw hb)
   clear hb ho0
   obtain ⟨Ao39, co39, eo39⟩ := Kd.R_slice HO634.out
   (first | subst eo39 | (injection eo39 with f1_ f2_ f3_; have f4_ := f1_.symm; have f5_ := f3_.symm; clear f1_ f2_ f3_; subst f4_; subst f5_))
   refine hK.out _ _ ⟨bc BK615 0 _, bc BK616 0 _⟩ (fun hHeld => ?_)
   clear hK K
   refine nm (some 21) ?_
   refine pa 7 (some 22) (yz 11 255) HT_ ?_
   refine pa 8 (some 23) (yz 11 511) HT_ ?_
   refine oa 9 none (yz 11 1023) HT_ (fun K hK => ?_)
   have hs40 := bc BK617 0 (.slice none 0 0)
   have hfs40 := blk_frozen BK617.out 0
   have hns40_0 := NB615_617.out
   have hns40_1 := NB616_617.out
   have hms40_0 := NB617_615.out
   have hms40_1 := NB617_616.out
   refine skip_ (w1 := ?_) (by rfl) rfl ?_ ?_
   rotate_left
   ·go_simp
    rfl
   refine hK.out _ _ ⟨((cell_far (p := ⟨gb617, _, none⟩) NB615_617.out _).trans (hHeld.1)), ((cell_far (p := ⟨gb617, _, none⟩) NB616_617.out _).trans (hHeld.2))⟩ (fun hHeld => ?_)
   clear hK K
   refine pa 10 (some 5) (yz 11 2047) HT_ ?_
   refine done_ (done_of HT_.out (by kernel_rfl)) ?_
   try go_wp2
   refine bodyPost_ret (results_ct rfl _ _ gb617 26 #[.slice Ao39 t632.length co39] (0, 0) _ rfl (by (with_reducible repeat (first | refine blk_drewN ?_ _ | refine blk_drew ?_ | refine blk_alloc ?_ _)); refine blk_put (cs := #[.slice none 0 0]) ?_ 0 _ rfl; (with_reducible repeat (first | refine blk_drewN ?_ _ | refine blk_drew ?_ | refine blk_alloc ?_ _)); exact BK617.out) Try.underlying26 rfl (by kernel_rfl)) rfl ?_
   exact ⟨_, re, by (with_reducible repeat (first | apply Kd.R_alloc | apply Kd.R_drewN | apply Kd.R_drew)); exact Kd.R_mono (Kd.R_far (p := ⟨gb617, 0, none⟩) (Kd.R_types HO634.out BK617.out (by decide)) (fun _ hk => hk.2) (.slice Ao39 t632.length co39)) (fun _ hk => trivial), bw⟩


/-! ### spec_HasNumber: function 117 -/
def spec_HasNumber.l0 : Nat → List Int → Int → Int → Option (Bool)
 | 0, _, _, _ => none
 | k + 1, x0, x1, x5 => if x5 < (x0.length : Int) then (if 0 ≤ x5 then (if (rd x0 x5) = x1 then (some true) else (spec_HasNumber.l0 k x0 x1 (wrap64 (x5 + 1)))) else (none)) else (some false)
def spec_HasNumber.f (k : Nat) (l0 : List Int) (a1 : Int) : Option (Bool) := spec_HasNumber.l0 k l0 a1 0
set_option maxHeartbeats 8000000 in
set_option maxRecDepth 100000 in
theorem spec_HasNumber.calls (k : Nat) (A0 : Option Addr) (c0 : Nat) (l0 : List Int) (a1 : Int) (r : Bool) (w : World) (hr0 : Kd.C (Kd.int .i64) w A0 l0.length l0) (hc0 : l0.length ≤ c0) (h : spec_HasNumber.f k l0 a1 = some r) :
  Calls Try.prog 117 #[.slice A0 l0.length c0, .int .i64 a1] w fun e w' => e = .returned (.bool r) ∧ Drawn0 w w' := by
 have HR0 := am hr0
 have HC0 := am hc0
 clear hr0 hc0
 have H : (spec_HasNumber.l0 k l0 a1 0) = some r := h
 clear h
 have H' := am H
 clear H
 go_enter Try.func117, Try.ntmps117
 go_wp2
 go_loopg [5] k (fun kq v5 w' => ∃ (x5_1 : Int), v5 = .int .i64 x5_1 ∧ Aside0 (spec_HasNumber.l0 kq l0 a1 x5_1 = some r) ∧ Aside0 (kq ≤ k) ∧ Drawn0 w w')
 case atStart => exact ⟨(0), rr, H', ⟨Nat.le_refl _⟩, dw⟩
 case round =>
  clear H'
  obtain ⟨x5_1, rfl, HA, HK1, ⟨m1, rfl⟩⟩ := hrel
  cases gk with
  | zero => exact absurd HA.out (by simp [spec_HasNumber.l0])
  | succ k1 =>
   have H := HA.out
   clear HA
   simp only [spec_HasNumber.l0] at H
   replace H := gi H; obtain ⟨c3b0, H⟩ | ⟨c3b0, H⟩ := H
   ·replace H := gd H; obtain ⟨c4b0, H⟩ := H
    by_cases c5 : (rd l0 x5_1) = a1
    ·rw [if_pos c5] at H
     have c5b0 : ((rd l0 x5_1) == a1) = true := beq_iff_eq.mpr c5
     have c5b1 : ((rd l0 x5_1) != a1) = false := bne_eq_false_iff_eq.mpr c5
     clear c5
     obtain rfl := Option.some.inj H
     obtain ⟨⟨ad647, e647, hx647_0⟩, p647, q647⟩ := pq (Kd.at_int HR0.out x5_1)
     cases e647
     go_wp2
     go_ret
     exact ⟨rr, dw⟩
    rw [if_neg c5] at H
    have c5b0 : ((rd l0 x5_1) == a1) = false := beq_eq_false_iff_ne.mpr c5
    have c5b1 : ((rd l0 x5_1) != a1) = true := bne_iff_ne.mpr c5
    have H' := am H
    clear H
    obtain ⟨⟨ad647, e647, hx647_0⟩, p647, q647⟩ := pq (Kd.at_int HR0.out x5_1)
    cases e647
    go_wp2
    go_roundg k1
    case measure => have := HK1.out; omega
    case rel => exact ⟨(wrap64 (x5_1 + 1)), rr, H', ⟨by have := HK1.out; omega⟩, dw⟩
   obtain rfl := Option.some.inj H
   go_wp2
   go_ret
   exact ⟨rr, dw⟩


/-! ### spec_l8Gaps: function 223 -/
def spec_l8Gaps.l0 : Nat → List Int → Int → Option (Bool)
 | 0, _, _ => none
 | k + 1, x0, x3 => if x3 < (x0.length : Int) then (if 0 ≤ x3 then ((spec_l1In.f (rd x0 x3) 1 199).bind fun t649 => (if t649 = true then (spec_l8Gaps.l0 k x0 (wrap64 (x3 + 1))) else (some false))) else (none)) else ((spec_IsAscending.f k x0).bind fun t650 => (some t650))
def spec_l8Gaps.f (k : Nat) (l0 : List Int) : Option (Bool) := spec_l8Gaps.l0 k l0 0
set_option maxHeartbeats 8000000 in
set_option maxRecDepth 100000 in
theorem spec_l8Gaps.calls (k : Nat) (A0 : Option Addr) (c0 : Nat) (l0 : List Int) (r : Bool) (w : World) (hr0 : Kd.C (Kd.int .i64) w A0 l0.length l0) (hc0 : l0.length ≤ c0) (h : spec_l8Gaps.f k l0 = some r) :
  Calls Try.prog 223 #[.slice A0 l0.length c0] w fun e w' => e = .returned (.bool r) ∧ Drawn0 w w' := by
 have HR0 := am hr0
 have HC0 := am hc0
 clear hr0 hc0
 have H : (spec_l8Gaps.l0 k l0 0) = some r := h
 clear h
 have H' := am H
 clear H
 go_enter Try.func223, Try.ntmps223
 go_wp2
 go_loopg [3] k (fun kq v3 w' => ∃ (x3_1 : Int), v3 = .int .i64 x3_1 ∧ Aside0 (spec_l8Gaps.l0 kq l0 x3_1 = some r) ∧ Aside0 (kq ≤ k) ∧ Drawn0 w w')
 case atStart => exact ⟨(0), rr, H', ⟨Nat.le_refl _⟩, dw⟩
 case round =>
  clear H'
  obtain ⟨x3_1, rfl, HA, HK1, ⟨m1, rfl⟩⟩ := hrel
  cases gk with
  | zero => exact absurd HA.out (by simp [spec_l8Gaps.l0])
  | succ k1 =>
   have H := HA.out
   clear HA
   simp only [spec_l8Gaps.l0] at H
   replace H := gi H; obtain ⟨c2b0, H⟩ | ⟨c2b0, H⟩ := H
   ·replace H := gd H; obtain ⟨c3b0, H⟩ := H
    replace H := ga H; obtain ⟨t649, A4, H⟩ := H
    replace H := gb H; obtain ⟨rfl, H⟩ | ⟨rfl, H⟩ := H
    ·have H' := am H
     clear H
     obtain ⟨⟨ad648, e648, hx648_0⟩, p648, q648⟩ := pq (Kd.at_int HR0.out x3_1)
     cases e648
     go_wp2_with (first | ((with_reducible refine gate_callee (f := 140) rfl ?_); refine gl (some 14) Try.func140 #[.int .i64 (rd l0 x3_1), .int .i64 1, .int .i64 199] ?_; (with_reducible refine (spec_l1In.calls (rd l0 x3_1) 1 199 true _ A4.out).mono ?_); rintro e w' ⟨rfl, ⟨nd, rfl⟩⟩; refine ⟨_, rfl, ?_⟩))
     go_roundg k1
     case measure => have := HK1.out; omega
     case rel => exact ⟨(wrap64 (x3_1 + 1)), rr, H', ⟨by have := HK1.out; omega⟩, dw⟩
    obtain rfl := Option.some.inj H
    obtain ⟨⟨ad648, e648, hx648_0⟩, p648, q648⟩ := pq (Kd.at_int HR0.out x3_1)
    cases e648
    go_wp2_with (first | ((with_reducible refine gate_callee (f := 140) rfl ?_); refine gl (some 14) Try.func140 #[.int .i64 (rd l0 x3_1), .int .i64 1, .int .i64 199] ?_; (with_reducible refine (spec_l1In.calls (rd l0 x3_1) 1 199 false _ A4.out).mono ?_); rintro e w' ⟨rfl, ⟨nd, rfl⟩⟩; refine ⟨_, rfl, ?_⟩))
    go_ret
    exact ⟨rr, dw⟩
   replace H := ga H; obtain ⟨t650, A6, H⟩ := H
   obtain rfl := Option.some.inj H
   go_wp2_with (first | ((with_reducible refine gate_callee (f := 145) rfl ?_); refine gl (some 17) Try.func145 #[.slice A0 l0.length c0] ?_; (with_reducible refine (spec_IsAscending.calls k1 _ _ l0 t650 _ ?side1 ?side2 A6.out).mono ?_); (case side1 => exact co HR0.out); (case side2 => exact HC0.out); rintro e w' ⟨rfl, ⟨nd, rfl⟩⟩; refine ⟨_, rfl, ?_⟩))
   go_ret
   exact ⟨rr, dw⟩


/-! ### spec_GapClash: function 222 -/
mutual
def spec_GapClash.j0 : Nat → List Int → Bool → Option (Int × Int × Bool)
 | 0, _, _ => none
 | k + 1, x0, x16 => if x16 = true then (some (0, 0, false)) else (if 0 ≤ (wrap64 ((x0.length : Int) - 1)) then (if (wrap64 ((x0.length : Int) - 1)) < (x0.length : Int) then (if 0 ≤ (wrap64 ((wrap64 (2 * (rd x0 (wrap64 ((x0.length : Int) - 1))))) + 1)) then (if (wrap64 ((wrap64 (2 * (rd x0 (wrap64 ((x0.length : Int) - 1))))) + 1) : Int).toNat ≤ 281474976710656 then (spec_GapClash.l0 k x0 (rd x0 (wrap64 ((x0.length : Int) - 1))) (List.replicate (wrap64 ((wrap64 (2 * (rd x0 (wrap64 ((x0.length : Int) - 1))))) + 1) : Int).toNat false) 0) else (none)) else (none)) else (none)) else (none))
def spec_GapClash.l0 : Nat → List Int → Int → List Bool → Int → Option (Int × Int × Bool)
 | 0, _, _, _, _ => none
 | k + 1, x0, x4, x5, x6 => if x6 < (x0.length : Int) then (if 0 ≤ x6 then (if 0 ≤ (rd x0 x6) then (if (rd x0 x6) < (x5.length : Int) then (spec_GapClash.l0 k x0 x4 (x5.set ((rd x0 x6) : Int).toNat true) (wrap64 (x6 + 1))) else (none)) else (none)) else (none)) else (spec_GapClash.l1 k x4 x5 1)
def spec_GapClash.l1 : Nat → Int → List Bool → Int → Option (Int × Int × Bool)
 | 0, _, _, _ => none
 | k + 1, x4, x5, x7 => if x7 ≤ x4 then (spec_GapClash.l2 k x4 x5 x7 x7) else (some (0, 0, false))
def spec_GapClash.l2 : Nat → Int → List Bool → Int → Int → Option (Int × Int × Bool)
 | 0, _, _, _, _ => none
 | k + 1, x4, x5, x7, x8 => if (wrap64 (x7 + x8)) ≤ x4 then (if 0 ≤ x7 then (if x7 < (x5.length : Int) then (spec_GapClash.j4 k x4 x5 x7 x8 (!(rdOf false x5 x7))) else (none)) else (none)) else (spec_GapClash.j4 k x4 x5 x7 x8 false)
def spec_GapClash.j4 : Nat → Int → List Bool → Int → Int → Bool → Option (Int × Int × Bool)
 | 0, _, _, _, _, _ => none
 | k + 1, x4, x5, x7, x8, x57 => if x57 = true then (if 0 ≤ x8 then (if x8 < (x5.length : Int) then (if rdOf false x5 x8 = true then (spec_GapClash.l2 k x4 x5 x7 (wrap64 (x8 + 1))) else (if 0 ≤ (wrap64 (x7 + x8)) then (if (wrap64 (x7 + x8)) < (x5.length : Int) then (if rdOf false x5 (wrap64 (x7 + x8)) = true then (some (x7, x8, true)) else (spec_GapClash.l2 k x4 x5 x7 (wrap64 (x8 + 1)))) else (none)) else (none))) else (none)) else (none)) else (spec_GapClash.l1 k x4 x5 (wrap64 (x7 + 1)))
end
def spec_GapClash.f (k : Nat) (l0 : List Int) : Option (Int × Int × Bool) := (spec_l8Gaps.f k l0).bind fun t652 => (if t652 = true then (spec_GapClash.j0 k l0 ((l0.length : Int) == 0)) else (spec_GapClash.j0 k l0 true))
set_option maxHeartbeats 8000000 in
set_option maxRecDepth 100000 in
theorem spec_GapClash.calls (k : Nat) (A0 : Option Addr) (c0 : Nat) (l0 : List Int) (r1 : Int) (r2 : Int) (r3 : Bool) (w : World) (hr0 : Kd.C (Kd.int .i64) w A0 l0.length l0) (hc0 : l0.length ≤ c0) (h : spec_GapClash.f k l0 = some (r1, r2, r3)) :
  Calls Try.prog 222 #[.slice A0 l0.length c0] w fun e w' => e = .returned (.tuple #[.agg #[.int .i64 r1, .int .i64 r2], .bool r3]) ∧ Below w.heap.size w w' := by
 have hu33 := Try.underlying33
 have HR0 := am hr0
 have HC0 := am hc0
 clear hr0 hc0
 have HB := am (Below.refl w.heap.size w)
 have H : ((spec_l8Gaps.f k l0).bind fun t652 => (if t652 = true then (spec_GapClash.j0 k l0 ((l0.length : Int) == 0)) else (spec_GapClash.j0 k l0 true))) = some (r1, r2, r3) := h
 clear h
 have HC2 := am H
 clear H
 go_enter Try.func222, Try.ntmps222
 go_upto_region 1 with (first | ((with_reducible refine gate_dst (N := 2) rfl ?_); (try (refine gate_guard (by rfl) ?_; dsimp only)); refine bx 2 #[.int .i64 0, .int .i64 0] 33 ?_; intro gb651 hg w3 hbox hb; have BK651 := am (hbox); have GW651 := am (gs hg : w.heap.size ≤ gb651); have GE651 := GW651; replace HB := am (below_step bw hb); clear hb hbox hg))
 (try simp only [Act.put, List.setIfInBounds_toArray, List.set_cons_zero, List.set_cons_succ])
 go_cut [16] (fun v16 wc => ∃ (kq : Nat) (x16_1 : Bool), v16 = .bool x16_1 ∧ Aside0 (spec_GapClash.j0 kq l0 x16_1 = some (r1, r2, r3)) ∧ Aside0 (kq ≤ k) ∧ Aside0 (wc.heap[gb651]? = some (.cells #[.int .i64 0, .int .i64 0] 33 (0, 0))) ∧ Aside0 (Below w.heap.size w wc))
 case first =>
  have H := HC2.out
  clear HC2
  replace H := ga H; obtain ⟨t652, A4, H⟩ := H
  replace H := gb H; obtain ⟨rfl, H⟩ | ⟨rfl, H⟩ := H
  ·have H' := am H
   clear H
   go_wp2_with (first | ((with_reducible refine gate_callee (f := 223) rfl ?_); refine gl (some 10) Try.func223 #[.slice A0 l0.length c0] ?_; (with_reducible refine (spec_l8Gaps.calls k _ _ l0 true _ ?side1 ?side2 A4.out).mono ?_); (case side1 => exact co (Kd.C_below HR0.out HB.out)); (case side2 => exact HC0.out); rintro e w' ⟨rfl, ⟨nd, rfl⟩⟩; refine ⟨_, rfl, ?_⟩))
   go_meet
   case rel => exact ⟨_, (((l0.length : Int) == 0)), rr, H', ⟨om⟩, ⟨bo BK651.out⟩, ⟨bw⟩⟩
  have H' := am H
  clear H
  go_wp2_with (first | ((with_reducible refine gate_callee (f := 223) rfl ?_); refine gl (some 10) Try.func223 #[.slice A0 l0.length c0] ?_; (with_reducible refine (spec_l8Gaps.calls k _ _ l0 false _ ?side1 ?side2 A4.out).mono ?_); (case side1 => exact co (Kd.C_below HR0.out HB.out)); (case side2 => exact HC0.out); rintro e w' ⟨rfl, ⟨nd, rfl⟩⟩; refine ⟨_, rfl, ?_⟩))
  go_meet
  case rel => exact ⟨_, (true), rr, H', ⟨om⟩, ⟨bo BK651.out⟩, ⟨bw⟩⟩
 case rest =>
  clear HC2
  obtain ⟨kq, x16_1, rfl, HA, HJ1, BK651, HB⟩ := hcut
  cases kq with
  | zero => exact absurd HA.out (by simp [spec_GapClash.j0])
  | succ kj1 =>
   have H := HA.out
   clear HA
   simp only [spec_GapClash.j0] at H
   replace H := gb H; obtain ⟨rfl, H⟩ | ⟨rfl, H⟩ := H
   ·simp only [Option.some.injEq, Prod.mk.injEq] at H
    obtain ⟨rfl, rfl, rfl⟩ := H
    have hcz7_0 := bc BK651 0 (.int .i64 0)
    have hcz7_1 := bc BK651 1 (.int .i64 0)
    have hfz7_0 := blk_frozen BK651.out 0
    have hfz7_1 := blk_frozen BK651.out 1
    go_wp2
    refine bodyPost_ret (results_ct rfl _ _ gb651 33 #[.int .i64 0, .int .i64 0] (0, 0) _ rfl (by (with_reducible repeat (first | refine blk_drewN ?_ _ | refine blk_drew ?_ | refine blk_alloc ?_ _)); refine blk_put (cs := #[.int .i64 0, .int .i64 0]) ?_ 1 _ rfl; (with_reducible repeat (first | refine blk_drewN ?_ _ | refine blk_drew ?_ | refine blk_alloc ?_ _)); refine blk_put (cs := #[.int .i64 0, .int .i64 0]) ?_ 0 _ rfl; (with_reducible repeat (first | refine blk_drewN ?_ _ | refine blk_drew ?_ | refine blk_alloc ?_ _)); exact BK651.out) Try.underlying33 rfl (by kernel_rfl)) rfl ?_
    exact ⟨re, bw⟩
   obtain ⟨ji8, hji8⟩ : ∃ j_ : Int, (wrap64 ((l0.length : Int) - 1)) = j_ := ⟨_, rfl⟩
   replace H : (if 0 ≤ (ji8) then (if (ji8) < (l0.length : Int) then (if 0 ≤ (wrap64 ((wrap64 (2 * (rd l0 (ji8)))) + 1)) then (if (wrap64 ((wrap64 (2 * (rd l0 (ji8)))) + 1) : Int).toNat ≤ 281474976710656 then (spec_GapClash.l0 kj1 l0 (rd l0 (ji8)) (List.replicate (wrap64 ((wrap64 (2 * (rd l0 (ji8)))) + 1) : Int).toNat false) 0) else (none)) else (none)) else (none)) else (none)) = some (r1, r2, r3) := by first | (rw [hji8] at H; exact H) | (simp only [hji8] at H ⊢; exact H)
   have hji8w : (IntKind.i64.wrap ((l0.length : Int) - 1)) = ji8 := (i64_w _).trans hji8
   replace H := gd H; obtain ⟨c9b0, H⟩ := H
   replace H := gd H; obtain ⟨c10b0, H⟩ := H
   obtain ⟨ji11, hji11⟩ : ∃ j_ : Int, (wrap64 ((wrap64 (2 * (rd l0 (ji8)))) + 1)) = j_ := ⟨_, rfl⟩
   replace H : (if 0 ≤ (ji11) then (if (ji11 : Int).toNat ≤ 281474976710656 then (spec_GapClash.l0 kj1 l0 (rd l0 (ji8)) (List.replicate (ji11 : Int).toNat false) 0) else (none)) else (none)) = some (r1, r2, r3) := by first | (rw [hji11] at H; exact H) | (simp only [hji11] at H ⊢; exact H)
   have hji11w : (IntKind.i64.wrap ((wrap64 (2 * (rd l0 (ji8)))) + 1)) = ji11 := (i64_w _).trans hji11
   replace H := gp H; obtain ⟨c12, H⟩ := H
   have c12b0 := eq_true c12
   have c12b1 : decide (0 ≤ (ji11)) = true := decide_eq_true c12
   clear c12
   replace H := gp H; obtain ⟨c13, H⟩ := H
   have c13b0 := eq_true c13
   have c13b1 : decide ((ji11 : Int).toNat ≤ 281474976710656) = true := decide_eq_true c13
   clear c13
   obtain ⟨y654, hy654⟩ : ∃ y_ : List Bool, y_ = (List.replicate (ji11 : Int).toNat false) := ⟨_, rfl⟩
   replace H : (spec_GapClash.l0 kj1 l0 (rd l0 (ji8)) y654 0) = some (r1, r2, r3) := by first | (rw [hy654]; with_reducible first | exact H | exact bs H) | (with_reducible first | exact bs H | exact H) | (rw [hy654]; exact H) | exact H
   have Ny654 := am hy654
   clear hy654
   have H' := am H
   clear H
   obtain ⟨⟨ad653, e653, hx653_0⟩, p653, q653⟩ := pq (Kd.at_int HR0.out (ji8))
   cases e653
   replace hx653_0 := hw HB hx653_0
   go_wp2_with (first | ((with_reducible refine gate_dst (N := 27) rfl ?_); (try (refine gate_guard (by rfl) ?_; dsimp only)); refine Kd.R_make Kd.bool _ 4 rfl (N := 27) rfl 109 _ _ rfl ji11 rfl rfl Try.underlying109 (.bool false) 1 info4 rfl (by decide) (by omega) false (ok := fun _ => True) (okp := fun _ => True) rfl (fun _ hk => hk) trivial (of_decide_eq_true (by first | (with_reducible assumption) | assumption)) (Nat.le_trans (Nat.mul_le_mul_right _ (of_decide_eq_true (by first | (with_reducible assumption) | assumption) : ji11.toNat ≤ 281474976710656)) (by omega)) (Below.refl _ _) (Nat.le_refl _) ?_; intro v655 w14 ho15 hb hg_ hnew_; clear hg_ hnew_; (first | rw [← Ny654.out] at ho15 | (simp only [Int.reduceToNat] at ho15; rw [← Ny654.out] at ho15)); have HO656 := am (Kd.R_lower ho15 (below_size bw)); replace BK651 := kb BK651 hb; replace HB := am (below_step bw hb); clear hb ho15))
   go_loopg [6] kj1 (fun kq v6 w' => ∃ (x5_2 : List Bool) (x6_2 : Int), v6 = .int .i64 x6_2 ∧ Aside0 (spec_GapClash.l0 kq l0 (rd l0 (ji8)) x5_2 x6_2 = some (r1, r2, r3)) ∧ Aside0 (kq ≤ kj1) ∧ Aside0 (Kd.R Kd.bool 4 w' w.heap.size (fun _ => True) v655 x5_2) ∧ Aside0 (w'.heap[gb651]? = some (.cells #[.int .i64 0, .int .i64 0] 33 (0, 0))) ∧ Aside0 (Below w.heap.size w w'))
   case atStart => exact ⟨(y654), (0), rr, H', ⟨Nat.le_refl _⟩, ⟨ro HO656.out⟩, ⟨bo BK651.out⟩, ⟨bw⟩⟩
   case round =>
    clear H'
    try clear c9b0; try clear c10b0; try clear c12; try clear c12b0; try clear c12b1; try clear c13; try clear c13b0; try clear c13b1; try clear hcz7_0; try clear hcz7_1; try clear hfz7_0; try clear hfz7_1; try clear hx653_0; try clear p653; try clear q653
    obtain ⟨x5_2, x6_2, rfl, HA, HK2, HO_5, BK651, HB⟩ := hrel
    cases gk with
    | zero => exact absurd HA.out (by simp [spec_GapClash.l0])
    | succ k2 =>
     have H := HA.out
     clear HA
     simp only [spec_GapClash.l0] at H
     replace H := gi H; obtain ⟨c16b0, H⟩ | ⟨c16b0, H⟩ := H
     ·replace H := gd H; obtain ⟨c17b0, H⟩ := H
      replace H := gd H; obtain ⟨c18b0, H⟩ := H
      replace H := gd H; obtain ⟨c19b0, H⟩ := H
      obtain ⟨y658, hy658⟩ : ∃ y_ : List Bool, y_ = (x5_2.set ((rd l0 x6_2) : Int).toNat true) := ⟨_, rfl⟩
      replace H : (spec_GapClash.l0 k2 l0 (rd l0 (ji8)) y658 (wrap64 (x6_2 + 1))) = some (r1, r2, r3) := by first | (rw [hy658]; with_reducible first | exact H | exact bs H) | (with_reducible first | exact bs H | exact H) | (rw [hy658]; exact H) | exact H
      have Ny658 := am hy658
      clear hy658
      have H' := am H
      clear H
      obtain ⟨⟨ad657, e657, hx657_0⟩, p657, q657⟩ := pq (Kd.at_int HR0.out x6_2)
      obtain rfl : ad653 = ad657 := (by injection e657)
      replace hx657_0 := hw HB hx657_0
      have p20 : 0 ≤ ((rd l0 x6_2) : Int) := of_decide_eq_true (by first | (with_reducible assumption) | assumption)
      have q20 : ((rd l0 x6_2) : Int) < ((x5_2.length : Int) : Int) := of_decide_eq_true (by first | (with_reducible assumption) | assumption)
      obtain ⟨go20, co20, eo20, gb20, gl20, cl20, HG20⟩ := Kd.R_form HO_5.out (by omega)
      (first | cases eo20 | (injection eo20 with ea_ en_ ec_; (first | subst ea_ | (injection ea_ with ea_; subst ea_)); subst ec_; clear en_))
      have GB20 := am gb20
      have GG20 := am HG20
      clear gb20 gl20 HG20
      obtain ⟨hx20_0, hf20_0⟩ := Kd.R_celln false HO_5.out ((rd l0 x6_2) : Int) p20 q20
      replace p20 := eq_true p20
      replace q20 := eq_true q20
      have HP21 := Kd.R_putg HO_5.out ((rd l0 x6_2) : Int) true
      go_wp2_with (first | ((with_reducible refine gate_store (t := 4) (p := 39) rfl ?_); refine store_event (t := 4) (p := 39) (v := ?vo_w22) (w1 := (wr.setCell ⟨go20, ((rd l0 x6_2) : Int).toNat, none⟩ (.bool true))) ?hg ?ho ?hn ?hr ?_; (case ho => rfl); (case hg => rfl); (case hn => rfl); (case hr => first | (go_simp; done) | (go_simp; rfl)); intro w22 hw; have hg : wr.grownBy w22 (some go20) := (by rw [hw]; exact HP21.2); have hp_ : Kd.R Kd.bool 4 w22 w.heap.size (fun _ => True) (.slice (some ⟨go20, 0, none⟩) x5_2.length co20) y658 := (by rw [hw, Ny658.out]; exact HP21.1); clear HP21; replace BK651 := am (blk_grown (g := gb651) (o := .cells #[.int .i64 0, .int .i64 0] 33 (0, 0)) (bo BK651.out) hg (Kd.R_ne HO_5.out BK651.out (by decide))); replace HO_5 := am (hp_); replace HB := am ((by rw [hw]; exact below_set (HB.out) GB20.out : Below w.heap.size w w22)); clear hg hw hp_))
      go_roundg k2
      case measure => have := HJ1.out; have := HK2.out; omega
      case rel => exact ⟨(y658), (wrap64 (x6_2 + 1)), rr, H', ⟨by have := HJ1.out; have := HK2.out; omega⟩, ⟨ro HO_5.out⟩, ⟨bo BK651.out⟩, ⟨bw⟩⟩
     have H' := am H
     clear H
     go_wp2
     go_loopg [7] k2 (fun kq v7 w' => ∃ (x7_3 : Int) (x652000_3 : Int) (x652001_3 : Int), v7 = .int .i64 x7_3 ∧ Aside0 (spec_GapClash.l1 kq (rd l0 (ji8)) x5_2 x7_3 = some (r1, r2, r3)) ∧ Aside0 (kq ≤ k2) ∧ Aside0 (Kd.R Kd.bool 4 w' w.heap.size (fun _ => True) v655 x5_2) ∧ Aside0 (w'.heap[gb651]? = some (.cells #[.int .i64 x652000_3, .int .i64 x652001_3] 33 (0, 0))) ∧ Aside0 (Below w.heap.size w w'))
     case atStart => exact ⟨(1), (0), (0), rr, H', ⟨Nat.le_refl _⟩, ⟨ro HO_5.out⟩, ⟨bo BK651.out⟩, ⟨bw⟩⟩
     case round =>
      clear H'
      try clear c9b0; try clear c10b0; try clear c12; try clear c12b0; try clear c12b1; try clear c13; try clear c13b0; try clear c13b1; try clear c16b0; try clear c17b0; try clear c18b0; try clear c19b0; try clear p20; try clear q20; try clear hcz7_0; try clear hcz7_1; try clear hfz7_0; try clear hfz7_1; try clear hx20_0; try clear hx653_0; try clear hx657_0; try clear p653; try clear p657; try clear q653; try clear q657
      obtain ⟨x7_3, x652000_3, x652001_3, rfl, HA, HK3, HO_5, BK651, HB⟩ := hrel
      cases gk with
      | zero => exact absurd HA.out (by simp [spec_GapClash.l1])
      | succ k3 =>
       have H := HA.out
       clear HA
       simp only [spec_GapClash.l1] at H
       replace H := gi H; obtain ⟨c23b0, H⟩ | ⟨c23b0, H⟩ := H
       ·have H' := am H
        clear H
        go_wp2
        go_loopg [8] k3 (fun kq v8 w' => ∃ (x8_4 : Int) (x652000_4 : Int) (x652001_4 : Int), v8 = .int .i64 x8_4 ∧ Aside0 (spec_GapClash.l2 kq (rd l0 (ji8)) x5_2 x7_3 x8_4 = some (r1, r2, r3)) ∧ Aside0 (kq ≤ k3) ∧ Aside0 (Kd.R Kd.bool 4 w' w.heap.size (fun _ => True) v655 x5_2) ∧ Aside0 (w'.heap[gb651]? = some (.cells #[.int .i64 x652000_4, .int .i64 x652001_4] 33 (0, 0))) ∧ Aside0 (Below w.heap.size w w'))
        case atStart => exact ⟨(x7_3), (x652000_3), (x652001_3), rr, H', ⟨Nat.le_refl _⟩, ⟨ro HO_5.out⟩, ⟨bo BK651.out⟩, ⟨bw⟩⟩
        case round =>
         clear H'
         try clear c9b0; try clear c10b0; try clear c12; try clear c12b0; try clear c12b1; try clear c13; try clear c13b0; try clear c13b1; try clear c16b0; try clear c17b0; try clear c18b0; try clear c19b0; try clear p20; try clear q20; try clear c23b0; try clear hcz7_0; try clear hcz7_1; try clear hfz7_0; try clear hfz7_1; try clear hx20_0; try clear hx653_0; try clear hx657_0; try clear p653; try clear p657; try clear q653; try clear q657
         obtain ⟨x8_4, x652000_4, x652001_4, rfl, HA, HK4, HO_5, BK651, HB⟩ := hrel
         cases gk with
         | zero => exact absurd HA.out (by simp [spec_GapClash.l2])
         | succ k4 =>
          have H := HA.out
          clear HA
          simp only [spec_GapClash.l2] at H
          have HC24 := am H
          clear H
          go_upto_region 13 with (fail)
          go_cut [57] (fun v57 wc => ∃ (kq : Nat) (x57_23 : Bool), v57 = .bool x57_23 ∧ Aside0 (spec_GapClash.j4 kq (rd l0 (ji8)) x5_2 x7_3 x8_4 x57_23 = some (r1, r2, r3)) ∧ Aside0 (kq ≤ k4) ∧ Aside0 (Kd.R Kd.bool 4 wc w.heap.size (fun _ => True) v655 x5_2) ∧ Aside0 (wc.heap[gb651]? = some (.cells #[.int .i64 x652000_4, .int .i64 x652001_4] 33 (0, 0))) ∧ Aside0 (Below w.heap.size w wc))
          case first =>
           have H := HC24.out
           clear HC24
           replace H := gi H; obtain ⟨c25b0, H⟩ | ⟨c25b0, H⟩ := H
           ·(first | rw [c25b0] | (simp only [i64_w, i32_w]; rw [c25b0]) | skip)
            replace H := gd H; obtain ⟨c26b0, H⟩ := H
            replace H := gd H; obtain ⟨c27b0, H⟩ := H
            have H' := am H
            clear H
            obtain ⟨Ao28, co28, eo28⟩ := Kd.R_slice HO_5.out
            subst eo28
            obtain ⟨⟨ad659, e659, hx659_0⟩, p659, q659⟩ := pq (Kd.at_bool (Kd.R_reads' HO_5.out).2.2 x7_3)
            cases e659
            go_wp2
            go_meet
            case rel => exact ⟨_, (!(rdOf false x5_2 x7_3)), rr, H', ⟨by have := HJ1.out; have := HK2.out; have := HK3.out; have := HK4.out; first | omega | exact Nat.le_refl _⟩, ⟨ro HO_5.out⟩, ⟨bo BK651.out⟩, ⟨bw⟩⟩
           ·(first | rw [c25b0] | (simp only [i64_w, i32_w]; rw [c25b0]) | skip)
            have H' := am H
            clear H
            go_wp2
            go_meet
            case rel => exact ⟨_, (false), rr, H', ⟨by have := HJ1.out; have := HK2.out; have := HK3.out; have := HK4.out; first | omega | exact Nat.le_refl _⟩, ⟨ro HO_5.out⟩, ⟨bo BK651.out⟩, ⟨bw⟩⟩
          case rest =>
           clear HC24
           try clear c9b0; try clear c10b0; try clear c12; try clear c12b0; try clear c12b1; try clear c13; try clear c13b0; try clear c13b1; try clear c16b0; try clear c17b0; try clear c18b0; try clear c19b0; try clear p20; try clear q20; try clear c23b0; try clear c25b0; try clear c26b0; try clear c27b0; try clear hcz7_0; try clear hcz7_1; try clear hfz7_0; try clear hfz7_1; try clear hx20_0; try clear hx653_0; try clear hx657_0; try clear hx659_0; try clear p653; try clear p657; try clear p659; try clear q653; try clear q657; try clear q659
           obtain ⟨kq, x57_23, rfl, HA, HJ23, HO_5, BK651, HB⟩ := hcut
           cases kq with
           | zero => exact absurd HA.out (by simp [spec_GapClash.j4])
           | succ kj23 =>
            have H := HA.out
            clear HA
            simp only [spec_GapClash.j4] at H
            replace H := gb H; obtain ⟨rfl, H⟩ | ⟨rfl, H⟩ := H
            ·replace H := gd H; obtain ⟨c30b0, H⟩ := H
             replace H := gd H; obtain ⟨c31b0, H⟩ := H
             obtain ⟨bq32, hbq32⟩ : ∃ b_ : Bool, b_ = (rdOf false x5_2 x8_4) := ⟨_, rfl⟩
             replace H : (if bq32 = true then (spec_GapClash.l2 kj23 (rd l0 (ji8)) x5_2 x7_3 (wrap64 (x8_4 + 1))) else (if 0 ≤ (wrap64 (x7_3 + x8_4)) then (if (wrap64 (x7_3 + x8_4)) < (x5_2.length : Int) then (if rdOf false x5_2 (wrap64 (x7_3 + x8_4)) = true then (some (x7_3, x8_4, true)) else (spec_GapClash.l2 kj23 (rd l0 (ji8)) x5_2 x7_3 (wrap64 (x8_4 + 1)))) else (none)) else (none))) = some (r1, r2, r3) := by rw [← hbq32] at H; exact H
             have Nbq32 := am hbq32
             clear hbq32
             replace H := gb H; obtain ⟨rfl, H⟩ | ⟨rfl, H⟩ := H
             ·have H' := am H
              clear H
              obtain ⟨Ao34, co34, eo34⟩ := Kd.R_slice HO_5.out
              subst eo34
              obtain ⟨⟨ad660, e660, hx660_0⟩, p660, q660⟩ := pq (Kd.at_bool (Kd.R_reads' HO_5.out).2.2 x8_4)
              (try rw [← Nbq32.out] at hx660_0)
              cases e660
              go_wp2
              go_roundg kj23
              case measure => have := HJ1.out; have := HK2.out; have := HK3.out; have := HK4.out; have := HJ23.out; omega
              case rel => exact ⟨(wrap64 (x8_4 + 1)), (x652000_4), (x652001_4), rr, H', ⟨by have := HJ1.out; have := HK2.out; have := HK3.out; have := HK4.out; have := HJ23.out; omega⟩, ⟨ro HO_5.out⟩, ⟨bo BK651.out⟩, ⟨bw⟩⟩
             obtain ⟨ji35, hji35⟩ : ∃ j_ : Int, (wrap64 (x7_3 + x8_4)) = j_ := ⟨_, rfl⟩
             replace H : (if 0 ≤ (ji35) then (if (ji35) < (x5_2.length : Int) then (if rdOf false x5_2 (ji35) = true then (some (x7_3, x8_4, true)) else (spec_GapClash.l2 kj23 (rd l0 (ji8)) x5_2 x7_3 (wrap64 (x8_4 + 1)))) else (none)) else (none)) = some (r1, r2, r3) := by first | (rw [hji35] at H; exact H) | (simp only [hji35] at H ⊢; exact H)
             have hji35w : (IntKind.i64.wrap (x7_3 + x8_4)) = ji35 := (i64_w _).trans hji35
             replace H := gd H; obtain ⟨c36b0, H⟩ := H
             replace H := gd H; obtain ⟨c37b0, H⟩ := H
             obtain ⟨bq38, hbq38⟩ : ∃ b_ : Bool, b_ = (rdOf false x5_2 (ji35)) := ⟨_, rfl⟩
             replace H : (if bq38 = true then (some (x7_3, x8_4, true)) else (spec_GapClash.l2 kj23 (rd l0 (ji8)) x5_2 x7_3 (wrap64 (x8_4 + 1)))) = some (r1, r2, r3) := by rw [← hbq38] at H; exact H
             have Nbq38 := am hbq38
             clear hbq38
             replace H := gb H; obtain ⟨rfl, H⟩ | ⟨rfl, H⟩ := H
             ·simp only [Option.some.injEq, Prod.mk.injEq] at H
              obtain ⟨rfl, rfl, rfl⟩ := H
              obtain ⟨Ao40, co40, eo40⟩ := Kd.R_slice HO_5.out
              subst eo40
              obtain ⟨⟨ad660, e660, hx660_0⟩, p660, q660⟩ := pq (Kd.at_bool (Kd.R_reads' HO_5.out).2.2 x8_4)
              (try rw [← Nbq32.out] at hx660_0)
              (try rw [← Nbq38.out] at hx660_0)
              cases e660
              obtain ⟨⟨ad661, e661, hx661_0⟩, p661, q661⟩ := pq (Kd.at_bool (Kd.R_reads' HO_5.out).2.2 (ji35))
              (try rw [← Nbq32.out] at hx661_0)
              (try rw [← Nbq38.out] at hx661_0)
              obtain rfl : ad660 = ad661 := (by injection e661)
              have hcz41_0 := bc BK651 0 (.int .i64 x652000_4)
              have hcz41_1 := bc BK651 1 (.int .i64 x652001_4)
              have hfz41_0 := blk_frozen BK651.out 0
              have hfz41_1 := blk_frozen BK651.out 1
              go_wp2
              refine bodyPost_ret (results_ct rfl _ _ gb651 33 #[.int .i64 x7_3, .int .i64 x8_4] (0, 0) _ rfl (by (with_reducible repeat (first | refine blk_drewN ?_ _ | refine blk_drew ?_ | refine blk_alloc ?_ _)); refine blk_put (cs := #[.int .i64 x7_3, .int .i64 x652001_4]) ?_ 1 _ rfl; (with_reducible repeat (first | refine blk_drewN ?_ _ | refine blk_drew ?_ | refine blk_alloc ?_ _)); refine blk_put (cs := #[.int .i64 x652000_4, .int .i64 x652001_4]) ?_ 0 _ rfl; (with_reducible repeat (first | refine blk_drewN ?_ _ | refine blk_drew ?_ | refine blk_alloc ?_ _)); exact BK651.out) Try.underlying33 rfl (by kernel_rfl)) rfl ?_
              exact ⟨by first | rfl | (simp [errW_none, errW_some] <;> rfl) | (simp only [← hji8, ← hji11, ← hji35]; first | rfl | (simp [errW_none, errW_some] <;> rfl)) | (simp [*, errW_none, errW_some] <;> rfl), bw⟩
             have H' := am H
             clear H
             obtain ⟨Ao42, co42, eo42⟩ := Kd.R_slice HO_5.out
             subst eo42
             obtain ⟨⟨ad660, e660, hx660_0⟩, p660, q660⟩ := pq (Kd.at_bool (Kd.R_reads' HO_5.out).2.2 x8_4)
             (try rw [← Nbq32.out] at hx660_0)
             (try rw [← Nbq38.out] at hx660_0)
             cases e660
             obtain ⟨⟨ad661, e661, hx661_0⟩, p661, q661⟩ := pq (Kd.at_bool (Kd.R_reads' HO_5.out).2.2 (ji35))
             (try rw [← Nbq32.out] at hx661_0)
             (try rw [← Nbq38.out] at hx661_0)
             obtain rfl : ad660 = ad661 := (by injection e661)
             go_wp2
             go_roundg kj23
             case measure => have := HJ1.out; have := HK2.out; have := HK3.out; have := HK4.out; have := HJ23.out; omega
             case rel => exact ⟨(wrap64 (x8_4 + 1)), (x652000_4), (x652001_4), rr, H', ⟨by have := HJ1.out; have := HK2.out; have := HK3.out; have := HK4.out; have := HJ23.out; omega⟩, ⟨ro HO_5.out⟩, ⟨bo BK651.out⟩, ⟨bw⟩⟩
            have H' := am H
            clear H
            go_wp2
            go_roundg kj23
            case measure => have := HJ1.out; have := HK2.out; have := HK3.out; have := HK4.out; have := HJ23.out; omega
            case rel => exact ⟨(wrap64 (x7_3 + 1)), (x652000_4), (x652001_4), rr, H', ⟨by have := HJ1.out; have := HK2.out; have := HK3.out; have := HK4.out; have := HJ23.out; omega⟩, ⟨ro HO_5.out⟩, ⟨bo BK651.out⟩, ⟨bw⟩⟩
       simp only [Option.some.injEq, Prod.mk.injEq] at H
       obtain ⟨rfl, rfl, rfl⟩ := H
       have hcz43_0 := bc BK651 0 (.int .i64 x652000_3)
       have hcz43_1 := bc BK651 1 (.int .i64 x652001_3)
       have hfz43_0 := blk_frozen BK651.out 0
       have hfz43_1 := blk_frozen BK651.out 1
       go_wp2
       refine bodyPost_ret (results_ct rfl _ _ gb651 33 #[.int .i64 0, .int .i64 0] (0, 0) _ rfl (by (with_reducible repeat (first | refine blk_drewN ?_ _ | refine blk_drew ?_ | refine blk_alloc ?_ _)); refine blk_put (cs := #[.int .i64 0, .int .i64 x652001_3]) ?_ 1 _ rfl; (with_reducible repeat (first | refine blk_drewN ?_ _ | refine blk_drew ?_ | refine blk_alloc ?_ _)); refine blk_put (cs := #[.int .i64 x652000_3, .int .i64 x652001_3]) ?_ 0 _ rfl; (with_reducible repeat (first | refine blk_drewN ?_ _ | refine blk_drew ?_ | refine blk_alloc ?_ _)); exact BK651.out) Try.underlying33 rfl (by kernel_rfl)) rfl ?_
       exact ⟨by first | rfl | (simp [errW_none, errW_some] <;> rfl) | (simp only [← hji8, ← hji11]; first | rfl | (simp [errW_none, errW_some] <;> rfl)) | (simp [*, errW_none, errW_some] <;> rfl), bw⟩

end Go.Proofs.Ytkfplkdchkmgbaa.C
