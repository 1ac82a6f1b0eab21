/- Contracts of functions of the program: spec_DrawQuotientOf, impl_QuotientOf, spec_QuotientOf, spec_DrawScaledElements. -/
import Derived.Test.YtkfplkdchkmgbaaC0
import Derived.Test.YtkfplkdchkmgbaaC1
import Derived.Test.YtkfplkdchkmgbaaC3
import Derived.Test.YtkfplkdchkmgbaaC7
import Derived.Test.YtkfplkdchkmgbaaC9
import Derived.Test.YtkfplkdchkmgbaaC11
import Derived.Test.YtkfplkdchkmgbaaC17
import Derived.Test.YtkfplkdchkmgbaaC18
import Derived.Test.YtkfplkdchkmgbaaC19
namespace Go.Proofs.Ytkfplkdchkmgbaa.C
open Go.RowKit Go.Proofs.YtkfplkdchkmgbaaW.PrintWords Go.Proofs.YtkfplkdchkmgbaaW.PrintLast Go.Proofs.YtkfplkdchkmgbaaW.PrintMore
attribute [local go_sem] max2_int min2_int max_two min_two max_three min_three max_four min_four
set_option linter.unusedVariables false
set_option linter.unusedSimpArgs false

/-! ### spec_DrawQuotientOf: function 26 -/
def spec_DrawQuotientOf.f (k : Nat) (l0 : List Int) : Option (List Int × Int) := (spec_l1New.f k l0).bind fun bt350 => ((spec_l3Bent.f k bt350.1 bt350.2.1 bt350.2.2).bind fun bt354 => ((spec_l1PickInt.f bt350.1 bt354.2.1 bt354.2.2 (([1, 2, 2, 3, 3, 5, 20, 0, 21] : List Int))).bind fun bt363 => (some (bt354.1, bt363.1))))
set_option maxHeartbeats 8000000 in
set_option maxRecDepth 100000 in
theorem spec_DrawQuotientOf.calls (k : Nat) (A0 : Option Addr) (c0 : Nat) (l0 : List Int) (r1 : List Int) (r2 : Int) (w : World) (hr0 : Kd.C (Kd.int .u8) w A0 l0.length l0) (hc0 : l0.length ≤ c0) (h : spec_DrawQuotientOf.f k l0 = some (r1, r2)) :
  Calls Try.prog 26 #[.slice A0 l0.length c0] w fun e w' => ∃ v0_ : Value, e = .returned (.tuple #[.agg #[v0_], .int .i64 r2]) ∧ Kd.Q (Kd.int .i64) 3 w' w.heap.size (fun _ => True) v0_ r1 ∧ Below w.heap.size w w' := by
 have hu26 := Try.underlying26
 have HR0 := Aside0.mk hr0
 have HC0 := Aside0.mk hc0
 clear hr0 hc0
 have HB := Aside0.mk (Below.refl w.heap.size w)
 have H : ((spec_l1New.f k l0).bind fun bt350 => ((spec_l3Bent.f k bt350.1 bt350.2.1 bt350.2.2).bind fun bt354 => ((spec_l1PickInt.f bt350.1 bt354.2.1 bt354.2.2 (([1, 2, 2, 3, 3, 5, 20, 0, 21] : List Int))).bind fun bt363 => (some (bt354.1, bt363.1))))) = some (r1, r2) := h
 clear h
 replace H := ga H; obtain ⟨⟨t350, t351, t352⟩, A2, H⟩ := H
 replace H : ((spec_l3Bent.f k t350 t351 t352).bind fun bt354 => ((spec_l1PickInt.f t350 bt354.2.1 bt354.2.2 (([1, 2, 2, 3, 3, 5, 20, 0, 21] : List Int))).bind fun bt363 => (some (bt354.1, bt363.1)))) = some (r1, r2) := H
 replace H := ga H; obtain ⟨⟨t354, t357, t358⟩, A3, H⟩ := H
 replace H : ((spec_l1PickInt.f t350 t357 t358 (([1, 2, 2, 3, 3, 5, 20, 0, 21] : List Int))).bind fun bt363 => (some (t354, bt363.1))) = some (r1, r2) := H
 obtain ⟨y360, hy360⟩ : ∃ y_ : List Int, y_ = (([1, 2, 2, 3, 3, 5, 20, 0, 21] : List Int)) := ⟨_, rfl⟩
 replace H : ((spec_l1PickInt.f t350 t357 t358 y360).bind fun bt363 => (some (t354, bt363.1))) = some (r1, r2) := by first | (rw [hy360]; with_reducible exact H) | (have H2_ := (Option.bind_some _ _).symm.trans H; rw [hy360]; with_reducible exact H2_) | (have H2_ := (Option.bind_some _ _).symm.trans H; with_reducible exact H2_) | with_reducible exact H | (rw [hy360]; exact H) | exact H
 have Ny360 := Aside0.mk hy360
 clear hy360
 replace H := ga H; obtain ⟨⟨t363, t364, t365⟩, A4, H⟩ := H
 replace H : (some (t354, t363)) = some (r1, r2) := H
 simp only [Option.some.injEq, Prod.mk.injEq] at H
 obtain ⟨rfl, rfl⟩ := H
 go_enter Try.func26, Try.ntmps26
 try go_wp2_with (first | ((with_reducible refine gate_dst (N := 2) rfl ?_); refine bx 2 #[.slice none 0 0] 26 ?_; intro gb349 hg w5 hbox hb; have BK349 := Aside0.mk (hbox); have GW349 := Aside0.mk (gs hg : w.heap.size ≤ gb349); have GE349 := Aside0.mk (gs hg : w.heap.size ≤ gb349); replace HB := Aside0.mk (below_step bw hb); clear hb hbox hg) | ((with_reducible refine gate_callee (f := 131) rfl ?_); refine gl (some 7) Try.func131 #[.slice A0 l0.length c0] ?_; (with_reducible refine (spec_l1New.calls k _ _ l0 t350 t351 t352 w _ ?side1 ?side2 ?side3 A2.out).mono ?_); (case side1 => repeat (first | (with_reducible first | exact HB.out | apply below_alloc | apply pw_below_drewN | apply below_drew1 | refine below_set ?_ GE349.out) | exact HB.out)); (case side2 => exact HR0.out); (case side3 => exact HC0.out); rintro e w6 ⟨g353, rfl, hi, hb, hb2⟩; refine ⟨_, rfl, ?_⟩; replace HB := Aside0.mk (hb); have HI353 := Aside0.mk (hi); have NB353_349 := Aside0.mk (IsS132.ne_blk hi (blk_below (g := gb349) (o := .cells #[.slice none 0 0] 26 (0, 0)) (bo BK349.out) hb2) (by decide)); have NB349_353 := Aside0.mk (Ne.symm (IsS132.ne_blk hi (blk_below (g := gb349) (o := .cells #[.slice none 0 0] 26 (0, 0)) (bo BK349.out) hb2) (by decide))); replace BK349 := Aside0.mk (blk_below (g := gb349) (o := .cells #[.slice none 0 0] 26 (0, 0)) (bo BK349.out) hb2); clear hb hb2 hi) | ((with_reducible refine gate_callee (f := 130) rfl ?_); refine gl (some 9) Try.func130 #[.pointer (some ⟨g353, 0, none⟩)] ?_; (with_reducible refine (spec_l3Bent.calls k g353 t350 t351 t352 t354 t357 t358 w _ ?side1 ?side2 A3.out).mono ?_); (case side1 => repeat (first | (with_reducible first | exact HI353.out | apply IsS132.alloc | apply IsS132.drewN | apply IsS132.drew | apply IsS132.set_1 | apply IsS132.set_2 | refine IsS132.far ?_ NB353_349.out _) | exact HI353.out)); (case side2 => repeat (first | (with_reducible first | exact HB.out | apply below_alloc | apply pw_below_drewN | apply below_drew1 | refine below_set ?_ (IsS132.ge HI353.out) | refine below_set ?_ GE349.out) | exact HB.out)); rintro e w7 ⟨v355, rfl, ho0, hi, hb, hk⟩; refine ⟨_, rfl, ?_⟩; replace BK349 := Aside0.mk (KeepBut.blk hk (g' := gb349) (o := .cells #[.slice none 0 0] 26 (0, 0)) (bo BK349.out) NB349_353.out (by simp)); have HO356 := Aside0.mk (Kd.Q_lower ho0 (below_size (by repeat (first | (with_reducible first | exact HB.out | apply below_alloc | apply pw_below_drewN | apply below_drew1 | refine below_set ?_ (IsS132.ge HI353.out) | refine below_set ?_ GE349.out) | exact HB.out)))); replace HB := Aside0.mk (hb); replace HI353 := Aside0.mk (hi); clear hb hk hi ho0) | ((with_reducible refine gate_dst (N := 5) rfl ?_); refine bx 5 #[.slice none 0 0] 26 ?_; intro gb359 hg w8 hbox hb; replace HO356 := Aside0.mk (Kd.Q_below (by (with_reducible repeat (first | apply Kd.Q_alloc | apply Kd.Q_drewN | apply Kd.Q_drew)); exact HO356.out) hb); have BK359 := Aside0.mk (hbox); have GW359 := Aside0.mk ((by rw [hg]; exact (below_size (by repeat (first | (with_reducible first | exact HB.out | apply below_alloc | apply pw_below_drewN | apply below_drew1 | refine below_set ?_ (IsS132.ge HI353.out) | refine below_set ?_ GE349.out) | exact HB.out))) : w.heap.size ≤ gb359)); have GE359 := Aside0.mk ((by rw [hg]; exact (below_size (by repeat (first | (with_reducible first | exact HB.out | apply below_alloc | apply pw_below_drewN | apply below_drew1 | refine below_set ?_ (IsS132.ge HI353.out) | refine below_set ?_ GE349.out) | exact HB.out))) : w.heap.size ≤ gb359)); replace HB := Aside0.mk (below_step (by repeat (first | (with_reducible first | exact HB.out | apply below_alloc | apply pw_below_drewN | apply below_drew1 | refine below_set ?_ (IsS132.ge HI353.out) | refine below_set ?_ GE349.out) | exact HB.out)) hb); have NB349_359 := Aside0.mk ((by rw [hg]; exact Nat.ne_of_lt (blk_lt (g := gb349) (o := .cells #[.slice none 0 0] 26 (0, 0)) (bo BK349.out)) : gb349 ≠ gb359)); have NB359_349 := Aside0.mk ((by rw [hg]; exact Nat.ne_of_gt (blk_lt (g := gb349) (o := .cells #[.slice none 0 0] 26 (0, 0)) (bo BK349.out)) : gb359 ≠ gb349)); replace BK349 := Aside0.mk (blk_below (g := gb349) (o := .cells #[.slice none 0 0] 26 (0, 0)) (bo BK349.out) hb); have NB353_359 := Aside0.mk ((by rw [hg]; exact Nat.ne_of_lt (IsS132.lt (show IsS132 w _ g353 t350 t357 t358 from by repeat (first | (with_reducible first | exact HI353.out | apply IsS132.alloc | apply IsS132.drewN | apply IsS132.drew | apply IsS132.set_1 | apply IsS132.set_2 | refine IsS132.far ?_ NB353_349.out _) | exact HI353.out))) : g353 ≠ gb359)); have NB359_353 := Aside0.mk ((by rw [hg]; exact Nat.ne_of_gt (IsS132.lt (show IsS132 w _ g353 t350 t357 t358 from by repeat (first | (with_reducible first | exact HI353.out | apply IsS132.alloc | apply IsS132.drewN | apply IsS132.drew | apply IsS132.set_1 | apply IsS132.set_2 | refine IsS132.far ?_ NB353_349.out _) | exact HI353.out))) : gb359 ≠ g353)); replace HI353 := Aside0.mk (IsS132.below (by repeat (first | (with_reducible first | exact HI353.out | apply IsS132.alloc | apply IsS132.drewN | apply IsS132.drew | apply IsS132.set_1 | apply IsS132.set_2 | refine IsS132.far ?_ NB353_349.out _) | exact HI353.out)) hb); clear hb hbox hg; obtain ⟨Ao9, co9, eo9, _⟩ := Kd.Q_slice HO356.out; subst eo9; have hnb10 := NB359_349.out; have hnc10 := NB349_359.out; have hnb11 := NB359_353.out; have hnc11 := NB353_359.out; have hcz12_0 := bc BK359 0 (.slice none 0 0); have hfz12_0 := blk_frozen BK359.out 0))
 have n0_ : Aside0 (Kd.Q (Kd.int .i64) 3 (w8.setCell ⟨gb359, 0, none⟩ (.slice Ao9 t354.length co9)) w.heap.size (fun _ => True) (.slice Ao9 t354.length co9) t354) := ⟨by (with_reducible repeat (first | apply Kd.Q_alloc | apply Kd.Q_drewN | apply Kd.Q_drew)); exact Kd.Q_mono (Kd.Q_far (p := ⟨gb359, 0, none⟩) (Kd.Q_types HO356.out BK359.out (by decide)) (fun _ hk => hk.2) (.slice Ao9 t354.length co9)) (fun _ hk => trivial)⟩
 have n1_ : Aside0 ((w8.setCell ⟨gb359, 0, none⟩ (.slice Ao9 t354.length co9)).heap[gb349]? = some (.cells #[.slice none 0 0] 26 (0, 0))) := ⟨by (with_reducible repeat (first | refine blk_drewN ?_ _ | refine blk_drew ?_ | refine blk_alloc ?_ _)); refine blk_far ?_ NB349_359.out _; (with_reducible repeat (first | refine blk_drewN ?_ _ | refine blk_drew ?_ | refine blk_alloc ?_ _)); exact BK349.out⟩
 have n2_ : Aside0 ((w8.setCell ⟨gb359, 0, none⟩ (.slice Ao9 t354.length co9)).heap[gb359]? = some (.cells #[.slice Ao9 t354.length co9] 26 (0, 0))) := ⟨by (with_reducible repeat (first | refine blk_drewN ?_ _ | refine blk_drew ?_ | refine blk_alloc ?_ _)); refine blk_put (cs := #[.slice none 0 0]) ?_ 0 _ rfl; (with_reducible repeat (first | refine blk_drewN ?_ _ | refine blk_drew ?_ | refine blk_alloc ?_ _)); exact BK359.out⟩
 have n3_ : Aside0 (IsS132 w (w8.setCell ⟨gb359, 0, none⟩ (.slice Ao9 t354.length co9)) g353 t350 t357 t358) := ⟨by repeat (first | (with_reducible first | exact HI353.out | apply IsS132.alloc | apply IsS132.drewN | apply IsS132.drew | apply IsS132.set_1 | apply IsS132.set_2 | refine IsS132.far ?_ NB353_349.out _ | refine IsS132.far ?_ NB353_359.out _) | exact HI353.out)⟩
 have n4_ : Aside0 (Below w.heap.size w (w8.setCell ⟨gb359, 0, none⟩ (.slice Ao9 t354.length co9))) := ⟨by repeat (first | (with_reducible first | exact HB.out | apply below_alloc | apply pw_below_drewN | apply below_drew1 | refine below_set ?_ (IsS132.ge HI353.out) | refine below_set ?_ GE349.out | refine below_set ?_ GE359.out) | exact HB.out)⟩
 (try clear HO356)
 (try clear BK349)
 (try clear BK359)
 (try clear HI353)
 (try clear HB)
 generalize (w8.setCell ⟨gb359, 0, none⟩ (.slice Ao9 t354.length co9)) = w13 at n0_ n1_ n2_ n3_ n4_ ⊢
 have HO356 := n0_
 have BK349 := n1_
 have BK359 := n2_
 have HI353 := n3_
 have HB := n4_
 clear n0_ n1_ n2_ n3_ n4_
 replace HO356 := Aside0.mk (Kd.Q_drew HO356.out)
 replace BK349 := Aside0.mk (blk_drew BK349.out)
 replace BK359 := Aside0.mk (blk_drew BK359.out)
 replace HI353 := Aside0.mk (IsS132.drew HI353.out)
 replace HB := Aside0.mk (below_drew1 HB.out)
 refine start_ (n := 6) (S := fun w' => w'.cell? ⟨gb359, 0, none⟩ = some (.slice Ao9 t354.length co9)) (ds := []) #[Z,Z,Z,Z,Z,Z] (by kernel_rfl) rfl rfl ((blk_cell BK359.out 0).trans rfl) (fun hHeld => ?_)
 generalize w13.drew = w14 at HO356 BK349 BK359 HI353 HB hHeld ⊢
 refine pure_ (i := 1) (N := some 11) (v := ?_) (a' := ?_) #[Z,Y,Z,Z,Z,Z] rfl rfl (by kernel_rfl) (fun _ _ _ h => h) (Or.inl ⟨by rfl, ?_⟩) ?_ ?_
 rotate_left
 ·intro w'
  go_simp
  with_reducible rfl
 rotate_left
 ·simp only [Act.put, qa, qb, qc, i64_w, i32_w]
  rfl
 refine take_ (i := 0) (N := some 10) (v := ?_) (a' := ?_) #[Y,Y,Z,Z,Z,Z] rfl rfl (by kernel_rfl) (fun _ _ _ h => h) (Or.inl ⟨by rfl, ?_⟩) hHeld ?_ ?_
 rotate_left
 ·intro w' s0
  go_simp
  with_reducible rfl
 rotate_left
 ·simp only [Act.put, qa, qb, qc, i64_w, i32_w]
  rfl
 refine one_ (i := 2) (N := some 12) #[Y,Y,Y,Z,Z,Z] rfl rfl (by kernel_rfl) (by decide) (fun K hK => ?_)
 refine Kd.R_lit_step (Kd.int .i64) _ 3 ?hg (N := 12) ?hd (xs := ([1, 2, 2, 3, 3, 5, 20, 0, 21] : List Int)) (inner := [.int .i64 1, .int .i64 2, .int .i64 2, .int .i64 3, .int .i64 3, .int .i64 5, .int .i64 20, .int .i64 0, .int .i64 21]) (ok := fun _ => True) (okp := fun _ => True) ?hr ?hp (fun _ hk => hk) trivial (Below.refl _ _) (Nat.le_refl _) (by simp) ?_; (case hd => rfl); (case hg => rfl); (case hr => first | (go_simp; done) | (go_simp; rfl)); (case hp => exact (Reps.one (show Kd.M (Kd.int .i64) _ _ _ 1 [.int .i64 1] from rfl) (Reps.one (show Kd.M (Kd.int .i64) _ _ _ 2 [.int .i64 2] from rfl) (Reps.one (show Kd.M (Kd.int .i64) _ _ _ 2 [.int .i64 2] from rfl) (Reps.one (show Kd.M (Kd.int .i64) _ _ _ 3 [.int .i64 3] from rfl) (Reps.one (show Kd.M (Kd.int .i64) _ _ _ 3 [.int .i64 3] from rfl) (Reps.one (show Kd.M (Kd.int .i64) _ _ _ 5 [.int .i64 5] from rfl) (Reps.one (show Kd.M (Kd.int .i64) _ _ _ 20 [.int .i64 20] from rfl) (Reps.one (show Kd.M (Kd.int .i64) _ _ _ 0 [.int .i64 0] from rfl) (Reps.one (show Kd.M (Kd.int .i64) _ _ _ 21 [.int .i64 21] from rfl) (Reps.none _ _)))))))))))
 intro v361 w15 ho16 hb hg_ hnew_
 clear hg_ hnew_
 (first | rw [← Ny360.out] at ho16 | (simp only [Int.reduceToNat] at ho16; rw [← Ny360.out] at ho16))
 have HO362 := Aside0.mk (Kd.R_lower (Kd.R_new' ho16 (Kd.Q_lt (by (with_reducible repeat (first | apply Kd.Q_alloc | apply Kd.Q_drewN | apply Kd.Q_drew)); exact HO356.out))) (below_size (by repeat (first | (with_reducible first | exact HB.out | apply below_alloc | apply pw_below_drewN | apply below_drew1 | refine below_set ?_ (IsS132.ge HI353.out) | refine below_set ?_ GE349.out | refine below_set ?_ GE359.out) | exact HB.out))))
 replace HO356 := Aside0.mk (Kd.Q_elder' (by (with_reducible repeat (first | apply Kd.Q_alloc | apply Kd.Q_drewN | apply Kd.Q_drew)); exact HO356.out) (Kd.R_base ho16) hb)
 replace BK349 := Aside0.mk (blk_below (g := gb349) (o := .cells #[.slice none 0 0] 26 (0, 0)) (bo BK349.out) hb)
 replace BK359 := Aside0.mk (blk_below (g := gb359) (o := .cells #[.slice Ao9 t354.length co9] 26 (0, 0)) (bo BK359.out) hb)
 replace HB := Aside0.mk (below_step (by repeat (first | (with_reducible first | exact HB.out | apply below_alloc | apply pw_below_drewN | apply below_drew1 | refine below_set ?_ (IsS132.ge HI353.out) | refine below_set ?_ GE349.out | refine below_set ?_ GE359.out) | exact HB.out)) hb)
 replace HI353 := Aside0.mk (IsS132.below (by repeat (first | (with_reducible first | exact HI353.out | apply IsS132.alloc | apply IsS132.drewN | apply IsS132.drew | apply IsS132.set_1 | apply IsS132.set_2 | refine IsS132.far ?_ NB353_349.out _ | refine IsS132.far ?_ NB353_359.out _) | exact HI353.out)) hb)
 clear hb ho16
 obtain ⟨Ao17, co17, eo17⟩ := Kd.R_slice HO362.out
 (first | subst eo17 | (injection eo17 with f1_ f2_ f3_; have f4_ := f1_.symm; have f5_ := f3_.symm; clear f1_ f2_ f3_; subst f4_; subst f5_))
 refine hK.out _ _ ((blk_cell BK359.out 0).trans rfl) (fun hHeld => ?_)
 clear hK K
 refine norm_ (a' := ?_) ?_ ?_
 rotate_left
 ·show Act.put _ (some 12) _ = _
  simp only [Act.put, qa, qb, qc, i64_w, i32_w]
  rfl
 refine one_ (i := 3) (N := some 13) #[Y,Y,Y,Y,Z,Z] rfl rfl (by kernel_rfl) (by decide) (fun K hK => ?_)
 refine gm Try.func150 #[.pointer (some ⟨g353, 0, none⟩), .slice Ao17 y360.length co17] ?_
 with_reducible refine (spec_l1PickInt.calls g353 t350 t357 t358 _ _ y360 t363 t364 t365 w _ ?side1 ?side2 ?side3 ?side4 ?side5 A4.out).mono ?_
 (case side1 => repeat (first | (with_reducible first | exact HI353.out | apply IsS132.alloc | apply IsS132.drewN | apply IsS132.drew | apply IsS132.set_1 | apply IsS132.set_2 | refine IsS132.far ?_ NB353_349.out _ | refine IsS132.far ?_ NB353_359.out _) | exact HI353.out))
 (case side2 => repeat (first | (with_reducible first | exact HB.out | apply below_alloc | apply pw_below_drewN | apply below_drew1 | refine below_set ?_ (IsS132.ge HI353.out) | refine below_set ?_ GE349.out | refine below_set ?_ GE359.out) | exact HB.out))
 (case side3 => exact co (Kd.R_reads' HO362.out).2.2)
 (case side4 => exact (Kd.R_reads' HO362.out).2.1)
 (case side5 => exact far_slice (IsS132.own_ne HI353.out HO362.out (by decide)))
 rintro e w18 ⟨rfl, hi, hb, hk⟩
 refine ⟨_, rfl, ?_⟩
 replace BK349 := Aside0.mk (KeepBut.blk hk (g' := gb349) (o := .cells #[.slice none 0 0] 26 (0, 0)) (bo BK349.out) NB349_353.out (by simp))
 replace HO356 := Aside0.mk (Kd.Q_mono (Kd.Q_keep (IsS132.apartQ (show IsS132 w _ g353 t350 t357 t358 from by repeat (first | (with_reducible first | exact HI353.out | apply IsS132.alloc | apply IsS132.drewN | apply IsS132.drew | apply IsS132.set_1 | apply IsS132.set_2 | refine IsS132.far ?_ NB353_349.out _ | refine IsS132.far ?_ NB353_359.out _) | exact HI353.out)) (by (with_reducible repeat (first | apply Kd.Q_alloc | apply Kd.Q_drewN | apply Kd.Q_drew)); exact HO356.out) (by decide)) hk (fun _ h => h.2)) (fun _ h => h.1))
 replace BK359 := Aside0.mk (KeepBut.blk hk (g' := gb359) (o := .cells #[.slice Ao9 t354.length co9] 26 (0, 0)) (bo BK359.out) NB359_353.out (by simp))
 replace HO362 := Aside0.mk (Kd.R_mono (Kd.R_keep (IsS132.apart (show IsS132 w _ g353 t350 t357 t358 from by repeat (first | (with_reducible first | exact HI353.out | apply IsS132.alloc | apply IsS132.drewN | apply IsS132.drew | apply IsS132.set_1 | apply IsS132.set_2 | refine IsS132.far ?_ NB353_349.out _ | refine IsS132.far ?_ NB353_359.out _) | exact HI353.out)) (ro HO362.out) (by decide)) hk (fun _ h => h.2)) (fun _ h => h.1))
 replace HB := Aside0.mk (hb)
 replace HI353 := Aside0.mk (hi)
 clear hb hk hi
 refine hK.out _ _ ((blk_cell BK359.out 0).trans rfl) (fun hHeld => ?_)
 clear hK K
 refine norm_ (a' := ?_) ?_ ?_
 rotate_left
 ·show Act.put _ (some 13) _ = _
  simp only [Act.put, qa, qb, qc, i64_w, i32_w]
  rfl
 refine one_ (i := 4) (N := none) #[Y,Y,Y,Y,Y,Z] rfl rfl (by kernel_rfl) (by decide) (fun K hK => ?_)
 have hs19 := bc BK349 0 (.slice none 0 0)
 have hfs19 := blk_frozen BK349.out 0
 have hns19_1 := NB359_349.out
 have hms19_1 := NB349_359.out
 refine skip_ (w1 := ?_) (by rfl) rfl ?_ ?_
 rotate_left
 ·go_simp
  rfl
 refine hK.out _ _ (((cell_far (p := ⟨gb349, _, none⟩) NB359_349.out _).trans (hHeld))) (fun hHeld => ?_)
 clear hK K
 refine pure_ (i := 5) (N := some 3) (v := ?_) (a' := ?_) #[Y,Y,Y,Y,Y,Y] rfl rfl (by kernel_rfl) (fun _ _ _ h => h) (Or.inl ⟨by rfl, ?_⟩) ?_ ?_
 rotate_left
 ·intro w'
  go_simp
  with_reducible rfl
 rotate_left
 ·simp only [Act.put, qa, qb, qc, i64_w, i32_w]
  rfl
 refine done_ (by kernel_rfl) ?_
 try go_wp2
 refine bodyPost_ret (results_ct rfl _ _ gb349 26 #[.slice Ao9 t354.length co9] (0, 0) _ rfl (by (with_reducible repeat (first | refine blk_drewN ?_ _ | refine blk_drew ?_ | refine blk_alloc ?_ _)); refine blk_put (cs := #[.slice none 0 0]) ?_ 0 _ rfl; (with_reducible repeat (first | refine blk_drewN ?_ _ | refine blk_drew ?_ | refine blk_alloc ?_ _)); exact BK349.out) Try.underlying26 rfl (by kernel_rfl)) rfl ?_
 exact ⟨_, re, by (with_reducible repeat (first | apply Kd.Q_alloc | apply Kd.Q_drewN | apply Kd.Q_drew)); exact Kd.Q_mono (Kd.Q_far (p := ⟨gb349, 0, none⟩) (Kd.Q_types HO356.out BK349.out (by decide)) (fun _ hk => hk.2) (.slice Ao9 t354.length co9)) (fun _ hk => trivial), by repeat (first | (with_reducible first | exact HB.out | apply below_alloc | apply pw_below_drewN | apply below_drew1 | refine below_set ?_ (IsS132.ge HI353.out) | refine below_set ?_ GE349.out | refine below_set ?_ GE359.out) | exact HB.out)⟩


/-! ### impl_QuotientOf: function 27 -/
mutual
def impl_QuotientOf.j0 : Nat → Int → Bool → List Int → Option (List Int × Bool)
 | 0, _, _, _ => none
 | k + 1, x1, x16, x473000 => if x16 = true then (some (([] : List Int), false)) else ((impl_reach.f k x473000).bind fun t476 => (impl_QuotientOf.l0 k x1 t476 (([] : List Int)) 1))
def impl_QuotientOf.l0 : Nat → Int → (Int → Option Bool) → List Int → Int → Option (List Int × Bool)
 | 0, _, _, _, _ => none
 | k + 1, x1, x6, x7, x8 => if x8 < 200 then ((apF1.f x6 (wrap64 (x1 * x8))).bind fun t480 => (if t480 = true then (impl_QuotientOf.l0 k x1 x6 x7 (wrap64 (x8 + 1))) else (if x7.length < 17592186044416 then (impl_QuotientOf.l0 k x1 x6 (x7 ++ [x8]) (wrap64 (x8 + 1))) else (none)))) else ((impl_FromGaps.f k x7).bind fun bt484 => (some (bt484.1, bt484.2)))
end
def impl_QuotientOf.f (k : Nat) (l0_0 : List Int) (a1 : Int) : Option (List Int × Bool) := (impl_IsSemigroup.f k l0_0).bind fun t474 => (if t474 = true then ((impl_within.f a1 1 20).bind fun t475 => (impl_QuotientOf.j0 k a1 (!t475) l0_0)) else (impl_QuotientOf.j0 k a1 true l0_0))
set_option maxHeartbeats 8000000 in
set_option maxRecDepth 100000 in
theorem impl_QuotientOf.calls (k : Nat) (A0_0 : Option Addr) (c0_0 : Nat) (l0_0 : List Int) (a1 : Int) (r1 : List Int) (r2 : Bool) (w : World) (hr0_0 : Kd.C (Kd.int .i64) w A0_0 l0_0.length l0_0) (hc0_0 : l0_0.length ≤ c0_0) (h : impl_QuotientOf.f k l0_0 a1 = some (r1, r2)) :
  Calls Try.prog 27 #[.agg #[.slice A0_0 l0_0.length c0_0], .int .i64 a1] w fun e w' => ∃ v0_ : Value, e = .returned (.tuple #[.agg #[v0_], .bool r2]) ∧ Kd.R (Kd.int .i64) 3 w' w.heap.size (fun _ => True) v0_ r1 ∧ Below w.heap.size w w' := by
 have hu26 := Try.underlying26
 have HR0_0 := Aside0.mk hr0_0
 have HC0_0 := Aside0.mk hc0_0
 clear hr0_0 hc0_0
 have HB := Aside0.mk (Below.refl w.heap.size w)
 have H : ((impl_IsSemigroup.f k l0_0).bind fun t474 => (if t474 = true then ((impl_within.f a1 1 20).bind fun t475 => (impl_QuotientOf.j0 k a1 (!t475) l0_0)) else (impl_QuotientOf.j0 k a1 true l0_0))) = some (r1, r2) := h
 clear h
 have HC3 := Aside0.mk H
 clear H
 go_enter Try.func27, Try.ntmps27
 go_upto_region 1 with (first | ((with_reducible refine gate_dst (N := 2) rfl ?_); refine bx 2 #[.slice A0_0 l0_0.length c0_0] 26 ?_; intro gb472 hg w4 hbox hb; have BK472 := Aside0.mk (hbox); have GW472 := Aside0.mk (gs hg : w.heap.size ≤ gb472); have GE472 := Aside0.mk (gs hg : w.heap.size ≤ gb472); replace HB := Aside0.mk (below_step bw hb); clear hb hbox hg) | ((with_reducible refine gate_dst (N := 4) rfl ?_); refine bx 4 #[.slice none 0 0] 26 ?_; intro gb473 hg w5 hbox hb; have BK473 := Aside0.mk (hbox); have GW473 := Aside0.mk (gs hg : w.heap.size ≤ gb473); have GE473 := Aside0.mk (gs hg : w.heap.size ≤ gb473); replace HB := Aside0.mk (below_step bw hb); have NB472_473 := Aside0.mk ((by rw [hg]; exact Nat.ne_of_lt (blk_lt (g := gb472) (o := .cells #[.slice A0_0 l0_0.length c0_0] 26 (0, 0)) (bo BK472.out)) : gb472 ≠ gb473)); have NB473_472 := Aside0.mk ((by rw [hg]; exact Nat.ne_of_gt (blk_lt (g := gb472) (o := .cells #[.slice A0_0 l0_0.length c0_0] 26 (0, 0)) (bo BK472.out)) : gb473 ≠ gb472)); replace BK472 := Aside0.mk (blk_below (g := gb472) (o := .cells #[.slice A0_0 l0_0.length c0_0] 26 (0, 0)) (bo BK472.out) hb); clear hb hbox hg))
 (try simp only [Act.put, List.setIfInBounds_toArray, List.set_cons_zero, List.set_cons_succ])
 go_cut [16] (fun v16 wc => ∃ (kq : Nat) (x16_2 : Bool), v16 = .bool x16_2 ∧ Aside0 (impl_QuotientOf.j0 kq a1 x16_2 l0_0 = some (r1, r2)) ∧ Aside0 (kq ≤ k) ∧ Aside0 (wc.heap[gb472]? = some (.cells #[(.slice A0_0 l0_0.length c0_0)] 26 (0, 0))) ∧ Aside0 (wc.heap[gb473]? = some (.cells #[(.slice none 0 0)] 26 (0, 0))) ∧ Aside0 (Below w.heap.size w wc))
 case first =>
  have H := HC3.out
  clear HC3
  replace H := ga H; obtain ⟨t474, A6, H⟩ := H
  replace H := gb H; obtain ⟨rfl, H⟩ | ⟨rfl, H⟩ := H
  ·replace H := ga H; obtain ⟨t475, A8, H⟩ := H
   have H' := Aside0.mk H
   clear H
   have hnb9 := NB472_473.out
   have hnc9 := NB473_472.out
   have hcz10_0 := bc BK472 0 (.slice A0_0 l0_0.length c0_0)
   have hfz10_0 := blk_frozen BK472.out 0
   go_wp2_with (first | ((with_reducible refine gate_callee (f := 151) rfl ?_); refine gl (some 10) Try.func151 #[.agg #[.slice A0_0 l0_0.length c0_0]] ?_; (with_reducible refine (impl_IsSemigroup.calls k _ _ l0_0 true _ ?side1 ?side2 A6.out).mono ?_); (case side1 => exact co (Kd.C_below HR0_0.out HB.out)); (case side2 => exact HC0_0.out); rintro e w11 ⟨rfl, hb⟩; refine ⟨_, rfl, ?_⟩; replace BK472 := Aside0.mk (blk_below (g := gb472) (o := .cells #[.slice A0_0 l0_0.length c0_0] 26 (0, 0)) (bo BK472.out) hb); replace BK473 := Aside0.mk (blk_below (g := gb473) (o := .cells #[.slice none 0 0] 26 (0, 0)) (bo BK473.out) hb); replace HB := Aside0.mk (below_step bw hb); clear hb) | (go_at_call 139; (with_reducible refine (impl_within.calls a1 1 20 t475 _ A8.out).mono ?_); rintro e w' ⟨rfl, ⟨nd, rfl⟩⟩))
   go_meet
   case rel => exact ⟨_, (!t475), rr, H', ⟨om⟩, ⟨bo BK472.out⟩, ⟨bo BK473.out⟩, ⟨bw⟩⟩
  ·have H' := Aside0.mk H
   clear H
   have hnb12 := NB472_473.out
   have hnc12 := NB473_472.out
   have hcz13_0 := bc BK472 0 (.slice A0_0 l0_0.length c0_0)
   have hfz13_0 := blk_frozen BK472.out 0
   go_wp2_with (first | ((with_reducible refine gate_callee (f := 151) rfl ?_); refine gl (some 10) Try.func151 #[.agg #[.slice A0_0 l0_0.length c0_0]] ?_; (with_reducible refine (impl_IsSemigroup.calls k _ _ l0_0 false _ ?side1 ?side2 A6.out).mono ?_); (case side1 => exact co (Kd.C_below HR0_0.out HB.out)); (case side2 => exact HC0_0.out); rintro e w14 ⟨rfl, hb⟩; refine ⟨_, rfl, ?_⟩; replace BK472 := Aside0.mk (blk_below (g := gb472) (o := .cells #[.slice A0_0 l0_0.length c0_0] 26 (0, 0)) (bo BK472.out) hb); replace BK473 := Aside0.mk (blk_below (g := gb473) (o := .cells #[.slice none 0 0] 26 (0, 0)) (bo BK473.out) hb); replace HB := Aside0.mk (below_step bw hb); clear hb))
   go_meet
   case rel => exact ⟨_, (true), rr, H', ⟨om⟩, ⟨bo BK472.out⟩, ⟨bo BK473.out⟩, ⟨bw⟩⟩
 case rest =>
  clear HC3
  try clear hcz10_0; try clear hcz13_0; try clear hfz10_0; try clear hfz13_0
  obtain ⟨kq, x16_2, rfl, HA, HJ2, BK472, BK473, HB⟩ := hcut
  cases kq with
  | zero => exact absurd HA.out (by simp [impl_QuotientOf.j0])
  | succ kj2 =>
   have H := HA.out
   clear HA
   simp only [impl_QuotientOf.j0] at H
   replace H := gb H; obtain ⟨rfl, H⟩ | ⟨rfl, H⟩ := H
   ·simp only [Option.some.injEq, Prod.mk.injEq] at H
    obtain ⟨rfl, rfl⟩ := H
    have hnb16 := NB473_472.out
    have hnc16 := NB472_473.out
    have hcz17_0 := bc BK473 0 (.slice none 0 0)
    have hfz17_0 := blk_frozen BK473.out 0
    go_wp2
    refine bodyPost_ret (results_ct rfl _ _ gb473 26 #[.slice none 0 0] (0, 0) _ rfl (by (with_reducible repeat (first | refine blk_drewN ?_ _ | refine blk_drew ?_ | refine blk_alloc ?_ _)); refine blk_put (cs := #[.slice none 0 0]) ?_ 0 _ rfl; (with_reducible repeat (first | refine blk_drewN ?_ _ | refine blk_drew ?_ | refine blk_alloc ?_ _)); exact BK473.out) Try.underlying26 rfl (by kernel_rfl)) rfl ?_
    exact ⟨_, re, by first | exact Kd.R_nil _ _ _ _ _ | exact Kd.N_nil _ _ _ _ _ | exact Kd.V_nil _ _ _ _ _ | exact Kd.Q_nil _ _ _ _ _ | exact Kd.S_nil _ _ _ _ _, bw⟩
   ·replace H := ga H; obtain ⟨t476, A18, H⟩ := H
    obtain ⟨y477, hy477⟩ : ∃ y_ : List Int, y_ = (([] : List Int)) := ⟨_, rfl⟩
    replace H : (impl_QuotientOf.l0 kj2 a1 t476 y477 1) = some (r1, r2) := by first | (rw [hy477]; with_reducible exact H) | (have H2_ := (Option.bind_some _ _).symm.trans H; rw [hy477]; with_reducible exact H2_) | (have H2_ := (Option.bind_some _ _).symm.trans H; with_reducible exact H2_) | with_reducible exact H | (rw [hy477]; exact H) | exact H
    have Ny477 := Aside0.mk hy477
    clear hy477
    have H' := Aside0.mk H
    clear H
    have hnb19 := NB472_473.out
    have hnc19 := NB473_472.out
    have hcz20_0 := bc BK472 0 (.slice A0_0 l0_0.length c0_0)
    have hfz20_0 := blk_frozen BK472.out 0
    go_wp2_with (first | ((with_reducible refine gate_callee (f := 152) rfl ?_); refine gl (some 19) Try.func152 #[.agg #[.slice A0_0 l0_0.length c0_0]] ?_; (with_reducible refine (impl_reach.calls kj2 _ _ l0_0 t476 _ ?side1 ?side2 A18.out).mono ?_); (case side1 => exact co (Kd.C_below HR0_0.out HB.out)); (case side2 => exact HC0_0.out); rintro e w21 ⟨F_t476, rfl, hF_t476, hb⟩; refine ⟨_, rfl, ?_⟩; replace BK472 := Aside0.mk (blk_below (g := gb472) (o := .cells #[.slice A0_0 l0_0.length c0_0] 26 (0, 0)) (bo BK472.out) hb); replace BK473 := Aside0.mk (blk_below (g := gb473) (o := .cells #[.slice none 0 0] 26 (0, 0)) (bo BK473.out) hb); have HW_ := Aside0.mk (below_step bw hb : Below w.heap.size w w21); replace HR0_0 := Aside0.mk (Kd.C_below HR0_0.out HW_.out); clear HB hb; have HB := Aside0.mk (Below.refl w21.heap.size w21); obtain ⟨gF_t476, lF_t476, rfl, eF_t476, hF_t476⟩ := hF_t476; obtain ⟨w, rfl⟩ : ∃ x_, x_ = w21 := ⟨_, rfl⟩) | ((with_reducible refine gate_dst (N := 20) rfl ?_); refine Kd.R_lit (Kd.int .i64) _ 3 ?hg (N := 20) ?hd (xs := ([] : List Int)) (inner := []) (ok := fun _ => True) (okp := fun _ => True) ?hr ?hp (fun _ hk => hk) trivial (Below.refl _ _) (Nat.le_refl _) (by simp) ?_; (case hd => rfl); (case hg => rfl); (case hr => first | (go_simp; done) | (go_simp; rfl)); (case hp => exact (Reps.none _ _)); intro v478 w22 ho23 hb hg_ hnew_; clear hg_ hnew_; (first | rw [← Ny477.out] at ho23 | (simp only [Int.reduceToNat] at ho23; rw [← Ny477.out] at ho23)); have HO479 := Aside0.mk (Kd.R_lower ho23 (below_size bw)); replace BK472 := Aside0.mk (blk_below (g := gb472) (o := .cells #[.slice A0_0 l0_0.length c0_0] 26 (0, 0)) (bo BK472.out) hb); replace BK473 := Aside0.mk (blk_below (g := gb473) (o := .cells #[.slice none 0 0] 26 (0, 0)) (bo BK473.out) hb); replace HB := Aside0.mk (below_step bw hb); clear hb ho23))
    go_loopg [7, 8] kj2 (fun kq v7 v8 w' => ∃ (x7_2 : List Int) (x8_2 : Int), v8 = .int .i64 x8_2 ∧ Aside0 (impl_QuotientOf.l0 kq a1 t476 x7_2 x8_2 = some (r1, r2)) ∧ Aside0 (kq ≤ kj2) ∧ Aside0 (Kd.R (Kd.int .i64) 3 w' w.heap.size (fun _ => True) v7 x7_2) ∧ Aside0 (w'.heap[gb472]? = some (.cells #[(.slice A0_0 l0_0.length c0_0)] 26 (0, 0))) ∧ Aside0 (w'.heap[gb473]? = some (.cells #[(.slice none 0 0)] 26 (0, 0))) ∧ Aside0 (Below w.heap.size w w'))
    case atStart => exact ⟨(y477), (1), rr, H', ⟨Nat.le_refl _⟩, ⟨ro HO479.out⟩, ⟨bo BK472.out⟩, ⟨bo BK473.out⟩, ⟨bw⟩⟩
    case round =>
     clear H'
     try clear hcz10_0; try clear hcz13_0; try clear hcz17_0; try clear hcz20_0; try clear hfz10_0; try clear hfz13_0; try clear hfz17_0; try clear hfz20_0
     obtain ⟨x7_2, x8_2, rfl, HA, HK2, HO_7, BK472, BK473, HB⟩ := hrel
     cases gk with
     | zero => exact absurd HA.out (by simp [impl_QuotientOf.l0])
     | succ k2 =>
      have H := HA.out
      clear HA
      simp only [impl_QuotientOf.l0] at H
      replace H := gi H; obtain ⟨c24b0, H⟩ | ⟨c24b0, H⟩ := H
      ·replace H := ga H; obtain ⟨t480, A25, H⟩ := H
       replace H := gb H; obtain ⟨rfl, H⟩ | ⟨rfl, H⟩ := H
       ·have H' := Aside0.mk H
        clear H
        go_wp2_with (first | (go_at_fn gF_t476; (with_reducible refine (hF_t476 _ bw (wrap64 (a1 * x8_2)) true A25.out).mono ?_); rintro e w' ⟨rfl, ⟨nd, rfl⟩⟩))
        go_roundg k2
        case measure => have := HJ2.out; have := HK2.out; omega
        case rel => exact ⟨(x7_2), (wrap64 (x8_2 + 1)), rr, H', ⟨by have := HJ2.out; have := HK2.out; omega⟩, ⟨ro HO_7.out⟩, ⟨bo BK472.out⟩, ⟨bo BK473.out⟩, ⟨bw⟩⟩
       ·by_cases c27 : x7_2.length < 17592186044416
        rotate_left
        ·rw [if_neg c27] at H
         exact absurd H (by simp)
        rw [if_pos c27] at H
        have LMc27 := Aside0.mk c27
        clear c27
        obtain ⟨y481, hy481⟩ : ∃ y_ : List Int, y_ = (x7_2 ++ [x8_2]) := ⟨_, rfl⟩
        replace H : (impl_QuotientOf.l0 k2 a1 t476 y481 (wrap64 (x8_2 + 1))) = some (r1, r2) := by first | (rw [hy481]; with_reducible exact H) | (have H2_ := (Option.bind_some _ _).symm.trans H; rw [hy481]; with_reducible exact H2_) | (have H2_ := (Option.bind_some _ _).symm.trans H; with_reducible exact H2_) | with_reducible exact H | (rw [hy481]; exact H) | exact H
        have Ny481 := Aside0.mk hy481
        clear hy481
        have H' := Aside0.mk H
        clear H
        go_wp2_with (first | (go_at_fn gF_t476; (with_reducible refine (hF_t476 _ bw (wrap64 (a1 * x8_2)) false A25.out).mono ?_); rintro e w' ⟨rfl, ⟨nd, rfl⟩⟩) | ((with_reducible refine gate_builtin (b := .append) (xs := #[.tmp 31, .tmp 33]) rfl ?_); at_builtin; refine Kd.R_append (Kd.int .i64) (w0 := w) w.heap.size rfl (.tmp 31) (.tmp 33) 24 3 (.int .i64 0) 8 rfl Try.underlying24 info3 rfl (by decide) (by omega) u7 x7_2 x8_2 [.int .i64 x8_2] (fun _ => True) (fun _ => False) rfl rfl ?aP (fun _ hk => hk.elim) ?aF ?aO ?aB ?aS ?aL ?_; (case aP => exact rfl); (case aB => exact bw); (case aF => exact (fun _ _ => trivial)); (case aO => exact (ro HO_7.out)); (case aS => exact (below_size bw)); (case aL => have := LMc27.out; omega); intro v482 w28 ho hb hg hat; rw [← Ny481.out] at ho; replace BK472 := Aside0.mk (blk_grown (g := gb472) (o := .cells #[.slice A0_0 l0_0.length c0_0] 26 (0, 0)) (bo BK472.out) hg (Kd.R_ne HO_7.out BK472.out (by decide))); replace BK473 := Aside0.mk (blk_grown (g := gb473) (o := .cells #[.slice none 0 0] 26 (0, 0)) (bo BK473.out) hg (Kd.R_ne HO_7.out BK473.out (by decide))); replace HB := Aside0.mk (hb); have HO483 := Aside0.mk (ho); clear HO_7 ho hb hg hat))
        go_roundg k2
        case measure => have := HJ2.out; have := HK2.out; omega
        case rel => exact ⟨(y481), (wrap64 (x8_2 + 1)), rr, H', ⟨by have := HJ2.out; have := HK2.out; omega⟩, ⟨ro HO483.out⟩, ⟨bo BK472.out⟩, ⟨bo BK473.out⟩, ⟨bw⟩⟩
      ·replace H := ga H; obtain ⟨⟨t484, t487⟩, A29, H⟩ := H
       replace H : (some (t484, t487)) = some (r1, r2) := H
       simp only [Option.some.injEq, Prod.mk.injEq] at H
       obtain ⟨rfl, rfl⟩ := H
       obtain ⟨Ao30, co30, eo30⟩ := Kd.R_slice HO_7.out
       subst eo30
       go_wp2_with (first | ((with_reducible refine gate_callee (f := 153) rfl ?_); refine gl (some 36) Try.func153 #[.slice Ao30 x7_2.length co30] ?_; (with_reducible refine (impl_FromGaps.calls k2 _ _ x7_2 t484 t487 _ ?side1 ?side2 A29.out).mono ?_); (case side1 => exact co (Kd.R_reads' HO_7.out).2.2); (case side2 => exact (Kd.R_reads' HO_7.out).2.1); rintro e w31 ⟨v485, rfl, ho0, hb⟩; refine ⟨_, rfl, ?_⟩; have HO486 := Aside0.mk (Kd.R_lower (Kd.R_new' ho0 (Kd.R_lt (ro HO_7.out))) (below_size bw)); replace HO_7 := Aside0.mk (Kd.R_elder' (ro HO_7.out) (Kd.R_base ho0) hb); replace BK472 := Aside0.mk (blk_below (g := gb472) (o := .cells #[.slice A0_0 l0_0.length c0_0] 26 (0, 0)) (bo BK472.out) hb); replace BK473 := Aside0.mk (blk_below (g := gb473) (o := .cells #[.slice none 0 0] 26 (0, 0)) (bo BK473.out) hb); replace HB := Aside0.mk (below_step bw hb); clear hb ho0; obtain ⟨Ao32, co32, eo32⟩ := Kd.R_slice HO486.out; subst eo32; have hnb33 := NB473_472.out; have hnc33 := NB472_473.out; have hcz34_0 := bc BK473 0 (.slice none 0 0); have hfz34_0 := blk_frozen BK473.out 0))
       refine bodyPost_ret (results_ct rfl _ _ gb473 26 #[.slice Ao32 t484.length co32] (0, 0) _ rfl (by (with_reducible repeat (first | refine blk_drewN ?_ _ | refine blk_drew ?_ | refine blk_alloc ?_ _)); refine blk_put (cs := #[.slice none 0 0]) ?_ 0 _ rfl; (with_reducible repeat (first | refine blk_drewN ?_ _ | refine blk_drew ?_ | refine blk_alloc ?_ _)); exact BK473.out) Try.underlying26 rfl (by kernel_rfl)) rfl ?_
       replace HB := Aside0.mk (below_step HW_.out HB.out)
       exact ⟨_, re, Kd.R_lower (by (with_reducible repeat (first | apply Kd.R_alloc | apply Kd.R_drewN | apply Kd.R_drew)); exact Kd.R_mono (Kd.R_far (p := ⟨gb473, 0, none⟩) (Kd.R_types HO486.out BK473.out (by decide)) (fun _ hk => hk.2) (.slice Ao32 t484.length co32)) (fun _ hk => trivial)) (below_size HW_.out), bw⟩


/-! ### spec_QuotientOf: function 28 -/
mutual
def spec_QuotientOf.j0 : Nat → Int → Bool → List Int → Option (List Int × Bool)
 | 0, _, _, _ => none
 | k + 1, x1, x17, x532000 => if x17 = true then (some (([] : List Int), false)) else (spec_QuotientOf.l0 k x1 (([] : List Int)) 1 x532000)
def spec_QuotientOf.l0 : Nat → Int → List Int → Int → List Int → Option (List Int × Bool)
 | 0, _, _, _, _ => none
 | k + 1, x1, x6, x7, x532000 => if x7 < 200 then ((spec_l3Has.f k x532000 (wrap64 (x7 * x1))).bind fun t538 => (if t538 = true then (spec_QuotientOf.l0 k x1 x6 (wrap64 (x7 + 1)) x532000) else (if x6.length < 17592186044416 then (spec_QuotientOf.l0 k x1 (x6 ++ [x7]) (wrap64 (x7 + 1)) x532000) else (none)))) else ((spec_FromGaps.f k x6).bind fun bt542 => (some (bt542.1, bt542.2)))
end
def spec_QuotientOf.f (k : Nat) (l0_0 : List Int) (a1 : Int) : Option (List Int × Bool) := (spec_IsSemigroup.f k l0_0).bind fun t533 => (if t533 = true then ((spec_l1In.f a1 1 20).bind fun t534 => (spec_QuotientOf.j0 k a1 (!t534) l0_0)) else (spec_QuotientOf.j0 k a1 true l0_0))
set_option maxHeartbeats 8000000 in
set_option maxRecDepth 100000 in
theorem spec_QuotientOf.calls (k : Nat) (A0_0 : Option Addr) (c0_0 : Nat) (l0_0 : List Int) (a1 : Int) (r1 : List Int) (r2 : Bool) (w : World) (hr0_0 : Kd.C (Kd.int .i64) w A0_0 l0_0.length l0_0) (hc0_0 : l0_0.length ≤ c0_0) (h : spec_QuotientOf.f k l0_0 a1 = some (r1, r2)) :
  Calls Try.prog 28 #[.agg #[.slice A0_0 l0_0.length c0_0], .int .i64 a1] w fun e w' => ∃ v0_ : Value, e = .returned (.tuple #[.agg #[v0_], .bool r2]) ∧ Kd.R (Kd.int .i64) 3 w' w.heap.size (fun _ => True) v0_ r1 ∧ Below w.heap.size w w' := by
 have hu26 := Try.underlying26
 have HR0_0 := Aside0.mk hr0_0
 have HC0_0 := Aside0.mk hc0_0
 clear hr0_0 hc0_0
 have HB := Aside0.mk (Below.refl w.heap.size w)
 have H : ((spec_IsSemigroup.f k l0_0).bind fun t533 => (if t533 = true then ((spec_l1In.f a1 1 20).bind fun t534 => (spec_QuotientOf.j0 k a1 (!t534) l0_0)) else (spec_QuotientOf.j0 k a1 true l0_0))) = some (r1, r2) := h
 clear h
 have HC3 := Aside0.mk H
 clear H
 go_enter Try.func28, Try.ntmps28
 go_upto_region 1 with (first | ((with_reducible refine gate_dst (N := 2) rfl ?_); refine bx 2 #[.slice A0_0 l0_0.length c0_0] 26 ?_; intro gb531 hg w4 hbox hb; have BK531 := Aside0.mk (hbox); have GW531 := Aside0.mk (gs hg : w.heap.size ≤ gb531); have GE531 := Aside0.mk (gs hg : w.heap.size ≤ gb531); replace HB := Aside0.mk (below_step bw hb); clear hb hbox hg) | ((with_reducible refine gate_dst (N := 4) rfl ?_); refine bx 4 #[.slice none 0 0] 26 ?_; intro gb532 hg w5 hbox hb; have BK532 := Aside0.mk (hbox); have GW532 := Aside0.mk (gs hg : w.heap.size ≤ gb532); have GE532 := Aside0.mk (gs hg : w.heap.size ≤ gb532); replace HB := Aside0.mk (below_step bw hb); have NB531_532 := Aside0.mk ((by rw [hg]; exact Nat.ne_of_lt (blk_lt (g := gb531) (o := .cells #[.slice A0_0 l0_0.length c0_0] 26 (0, 0)) (bo BK531.out)) : gb531 ≠ gb532)); have NB532_531 := Aside0.mk ((by rw [hg]; exact Nat.ne_of_gt (blk_lt (g := gb531) (o := .cells #[.slice A0_0 l0_0.length c0_0] 26 (0, 0)) (bo BK531.out)) : gb532 ≠ gb531)); replace BK531 := Aside0.mk (blk_below (g := gb531) (o := .cells #[.slice A0_0 l0_0.length c0_0] 26 (0, 0)) (bo BK531.out) hb); clear hb hbox hg))
 (try simp only [Act.put, List.setIfInBounds_toArray, List.set_cons_zero, List.set_cons_succ])
 go_cut [17] (fun v17 wc => ∃ (kq : Nat) (x17_2 : Bool), v17 = .bool x17_2 ∧ Aside0 (spec_QuotientOf.j0 kq a1 x17_2 l0_0 = some (r1, r2)) ∧ Aside0 (kq ≤ k) ∧ Aside0 (wc.heap[gb531]? = some (.cells #[(.slice A0_0 l0_0.length c0_0)] 26 (0, 0))) ∧ Aside0 (wc.heap[gb532]? = some (.cells #[(.slice none 0 0)] 26 (0, 0))) ∧ Aside0 (Below w.heap.size w wc))
 case first =>
  have H := HC3.out
  clear HC3
  replace H := ga H; obtain ⟨t533, A6, H⟩ := H
  replace H := gb H; obtain ⟨rfl, H⟩ | ⟨rfl, H⟩ := H
  ·replace H := ga H; obtain ⟨t534, A8, H⟩ := H
   have H' := Aside0.mk H
   clear H
   have hnb9 := NB531_532.out
   have hnc9 := NB532_531.out
   have hcz10_0 := bc BK531 0 (.slice A0_0 l0_0.length c0_0)
   have hfz10_0 := blk_frozen BK531.out 0
   go_wp2_with (first | ((with_reducible refine gate_callee (f := 23) rfl ?_); refine gl (some 11) Try.func23 #[.agg #[.slice A0_0 l0_0.length c0_0]] ?_; (with_reducible refine (spec_IsSemigroup.calls k _ _ l0_0 true _ ?side1 ?side2 A6.out).mono ?_); (case side1 => exact co (Kd.C_below HR0_0.out HB.out)); (case side2 => exact HC0_0.out); rintro e w11 ⟨rfl, hb⟩; refine ⟨_, rfl, ?_⟩; replace BK531 := Aside0.mk (blk_below (g := gb531) (o := .cells #[.slice A0_0 l0_0.length c0_0] 26 (0, 0)) (bo BK531.out) hb); replace BK532 := Aside0.mk (blk_below (g := gb532) (o := .cells #[.slice none 0 0] 26 (0, 0)) (bo BK532.out) hb); replace HB := Aside0.mk (below_step bw hb); clear hb) | (go_at_call 140; (with_reducible refine (spec_l1In.calls a1 1 20 t534 _ A8.out).mono ?_); rintro e w' ⟨rfl, ⟨nd, rfl⟩⟩))
   go_meet
   case rel => exact ⟨_, (!t534), rr, H', ⟨om⟩, ⟨bo BK531.out⟩, ⟨bo BK532.out⟩, ⟨bw⟩⟩
  ·have H' := Aside0.mk H
   clear H
   have hnb12 := NB531_532.out
   have hnc12 := NB532_531.out
   have hcz13_0 := bc BK531 0 (.slice A0_0 l0_0.length c0_0)
   have hfz13_0 := blk_frozen BK531.out 0
   go_wp2_with (first | ((with_reducible refine gate_callee (f := 23) rfl ?_); refine gl (some 11) Try.func23 #[.agg #[.slice A0_0 l0_0.length c0_0]] ?_; (with_reducible refine (spec_IsSemigroup.calls k _ _ l0_0 false _ ?side1 ?side2 A6.out).mono ?_); (case side1 => exact co (Kd.C_below HR0_0.out HB.out)); (case side2 => exact HC0_0.out); rintro e w14 ⟨rfl, hb⟩; refine ⟨_, rfl, ?_⟩; replace BK531 := Aside0.mk (blk_below (g := gb531) (o := .cells #[.slice A0_0 l0_0.length c0_0] 26 (0, 0)) (bo BK531.out) hb); replace BK532 := Aside0.mk (blk_below (g := gb532) (o := .cells #[.slice none 0 0] 26 (0, 0)) (bo BK532.out) hb); replace HB := Aside0.mk (below_step bw hb); clear hb))
   go_meet
   case rel => exact ⟨_, (true), rr, H', ⟨om⟩, ⟨bo BK531.out⟩, ⟨bo BK532.out⟩, ⟨bw⟩⟩
 case rest =>
  clear HC3
  try clear hcz10_0; try clear hcz13_0; try clear hfz10_0; try clear hfz13_0
  obtain ⟨kq, x17_2, rfl, HA, HJ2, BK531, BK532, HB⟩ := hcut
  cases kq with
  | zero => exact absurd HA.out (by simp [spec_QuotientOf.j0])
  | succ kj2 =>
   have H := HA.out
   clear HA
   simp only [spec_QuotientOf.j0] at H
   replace H := gb H; obtain ⟨rfl, H⟩ | ⟨rfl, H⟩ := H
   ·simp only [Option.some.injEq, Prod.mk.injEq] at H
    obtain ⟨rfl, rfl⟩ := H
    have hnb16 := NB532_531.out
    have hnc16 := NB531_532.out
    have hcz17_0 := bc BK532 0 (.slice none 0 0)
    have hfz17_0 := blk_frozen BK532.out 0
    go_wp2
    refine bodyPost_ret (results_ct rfl _ _ gb532 26 #[.slice none 0 0] (0, 0) _ rfl (by (with_reducible repeat (first | refine blk_drewN ?_ _ | refine blk_drew ?_ | refine blk_alloc ?_ _)); refine blk_put (cs := #[.slice none 0 0]) ?_ 0 _ rfl; (with_reducible repeat (first | refine blk_drewN ?_ _ | refine blk_drew ?_ | refine blk_alloc ?_ _)); exact BK532.out) Try.underlying26 rfl (by kernel_rfl)) rfl ?_
    exact ⟨_, re, by first | exact Kd.R_nil _ _ _ _ _ | exact Kd.N_nil _ _ _ _ _ | exact Kd.V_nil _ _ _ _ _ | exact Kd.Q_nil _ _ _ _ _ | exact Kd.S_nil _ _ _ _ _, bw⟩
   ·obtain ⟨y535, hy535⟩ : ∃ y_ : List Int, y_ = (([] : List Int)) := ⟨_, rfl⟩
    replace H : (spec_QuotientOf.l0 kj2 a1 y535 1 l0_0) = some (r1, r2) := by first | (rw [hy535]; with_reducible exact H) | (have H2_ := (Option.bind_some _ _).symm.trans H; rw [hy535]; with_reducible exact H2_) | (have H2_ := (Option.bind_some _ _).symm.trans H; with_reducible exact H2_) | with_reducible exact H | (rw [hy535]; exact H) | exact H
    have Ny535 := Aside0.mk hy535
    clear hy535
    have H' := Aside0.mk H
    clear H
    go_wp2_with (first | ((with_reducible refine gate_dst (N := 19) rfl ?_); refine Kd.R_lit (Kd.int .i64) _ 3 ?hg (N := 19) ?hd (xs := ([] : List Int)) (inner := []) (ok := fun _ => True) (okp := fun _ => True) ?hr ?hp (fun _ hk => hk) trivial (Below.refl _ _) (Nat.le_refl _) (by simp) ?_; (case hd => rfl); (case hg => rfl); (case hr => first | (go_simp; done) | (go_simp; rfl)); (case hp => exact (Reps.none _ _)); intro v536 w18 ho19 hb hg_ hnew_; clear hg_ hnew_; (first | rw [← Ny535.out] at ho19 | (simp only [Int.reduceToNat] at ho19; rw [← Ny535.out] at ho19)); have HO537 := Aside0.mk (Kd.R_lower ho19 (below_size bw)); replace BK531 := Aside0.mk (blk_below (g := gb531) (o := .cells #[.slice A0_0 l0_0.length c0_0] 26 (0, 0)) (bo BK531.out) hb); replace BK532 := Aside0.mk (blk_below (g := gb532) (o := .cells #[.slice none 0 0] 26 (0, 0)) (bo BK532.out) hb); replace HB := Aside0.mk (below_step bw hb); clear hb ho19))
    go_loopg [6, 7] kj2 (fun kq v6 v7 w' => ∃ (x6_2 : List Int) (x7_2 : Int), v7 = .int .i64 x7_2 ∧ Aside0 (spec_QuotientOf.l0 kq a1 x6_2 x7_2 l0_0 = some (r1, r2)) ∧ Aside0 (kq ≤ kj2) ∧ Aside0 (Kd.R (Kd.int .i64) 3 w' w.heap.size (fun _ => True) v6 x6_2) ∧ Aside0 (w'.heap[gb531]? = some (.cells #[(.slice A0_0 l0_0.length c0_0)] 26 (0, 0))) ∧ Aside0 (w'.heap[gb532]? = some (.cells #[(.slice none 0 0)] 26 (0, 0))) ∧ Aside0 (Below w.heap.size w w'))
    case atStart => exact ⟨(y535), (1), rr, H', ⟨Nat.le_refl _⟩, ⟨ro HO537.out⟩, ⟨bo BK531.out⟩, ⟨bo BK532.out⟩, ⟨bw⟩⟩
    case round =>
     clear H'
     try clear hcz10_0; try clear hcz13_0; try clear hcz17_0; try clear hfz10_0; try clear hfz13_0; try clear hfz17_0
     obtain ⟨x6_2, x7_2, rfl, HA, HK2, HO_6, BK531, BK532, HB⟩ := hrel
     cases gk with
     | zero => exact absurd HA.out (by simp [spec_QuotientOf.l0])
     | succ k2 =>
      have H := HA.out
      clear HA
      simp only [spec_QuotientOf.l0] at H
      replace H := gi H; obtain ⟨c20b0, H⟩ | ⟨c20b0, H⟩ := H
      ·replace H := ga H; obtain ⟨t538, A21, H⟩ := H
       replace H := gb H; obtain ⟨rfl, H⟩ | ⟨rfl, H⟩ := H
       ·have H' := Aside0.mk H
        clear H
        have hnb23 := NB531_532.out
        have hnc23 := NB532_531.out
        have hcz24_0 := bc BK531 0 (.slice A0_0 l0_0.length c0_0)
        have hfz24_0 := blk_frozen BK531.out 0
        go_wp2_with (first | ((with_reducible refine gate_callee (f := 154) rfl ?_); refine gl (some 28) Try.func154 #[.agg #[.slice A0_0 l0_0.length c0_0], .int .i64 (wrap64 (x7_2 * a1))] ?_; (with_reducible refine (spec_l3Has.calls k2 _ _ l0_0 (wrap64 (x7_2 * a1)) true _ ?side1 ?side2 A21.out).mono ?_); (case side1 => exact co (Kd.C_below HR0_0.out HB.out)); (case side2 => exact HC0_0.out); rintro e w25 ⟨rfl, hb⟩; refine ⟨_, rfl, ?_⟩; replace HO_6 := Aside0.mk (Kd.R_below (ro HO_6.out) hb); replace BK531 := Aside0.mk (blk_below (g := gb531) (o := .cells #[.slice A0_0 l0_0.length c0_0] 26 (0, 0)) (bo BK531.out) hb); replace BK532 := Aside0.mk (blk_below (g := gb532) (o := .cells #[.slice none 0 0] 26 (0, 0)) (bo BK532.out) hb); replace HB := Aside0.mk (below_step bw hb); clear hb))
        go_roundg k2
        case measure => have := HJ2.out; have := HK2.out; omega
        case rel => exact ⟨(x6_2), (wrap64 (x7_2 + 1)), rr, H', ⟨by have := HJ2.out; have := HK2.out; omega⟩, ⟨ro HO_6.out⟩, ⟨bo BK531.out⟩, ⟨bo BK532.out⟩, ⟨bw⟩⟩
       ·by_cases c26 : x6_2.length < 17592186044416
        rotate_left
        ·rw [if_neg c26] at H
         exact absurd H (by simp)
        rw [if_pos c26] at H
        have LMc26 := Aside0.mk c26
        clear c26
        obtain ⟨y539, hy539⟩ : ∃ y_ : List Int, y_ = (x6_2 ++ [x7_2]) := ⟨_, rfl⟩
        replace H : (spec_QuotientOf.l0 k2 a1 y539 (wrap64 (x7_2 + 1)) l0_0) = some (r1, r2) := by first | (rw [hy539]; with_reducible exact H) | (have H2_ := (Option.bind_some _ _).symm.trans H; rw [hy539]; with_reducible exact H2_) | (have H2_ := (Option.bind_some _ _).symm.trans H; with_reducible exact H2_) | with_reducible exact H | (rw [hy539]; exact H) | exact H
        have Ny539 := Aside0.mk hy539
        clear hy539
        have H' := Aside0.mk H
        clear H
        have hnb27 := NB531_532.out
        have hnc27 := NB532_531.out
        have hcz28_0 := bc BK531 0 (.slice A0_0 l0_0.length c0_0)
        have hfz28_0 := blk_frozen BK531.out 0
        go_wp2_with (first | ((with_reducible refine gate_callee (f := 154) rfl ?_); refine gl (some 28) Try.func154 #[.agg #[.slice A0_0 l0_0.length c0_0], .int .i64 (wrap64 (x7_2 * a1))] ?_; (with_reducible refine (spec_l3Has.calls k2 _ _ l0_0 (wrap64 (x7_2 * a1)) false _ ?side1 ?side2 A21.out).mono ?_); (case side1 => exact co (Kd.C_below HR0_0.out HB.out)); (case side2 => exact HC0_0.out); rintro e w29 ⟨rfl, hb⟩; refine ⟨_, rfl, ?_⟩; replace HO_6 := Aside0.mk (Kd.R_below (ro HO_6.out) hb); replace BK531 := Aside0.mk (blk_below (g := gb531) (o := .cells #[.slice A0_0 l0_0.length c0_0] 26 (0, 0)) (bo BK531.out) hb); replace BK532 := Aside0.mk (blk_below (g := gb532) (o := .cells #[.slice none 0 0] 26 (0, 0)) (bo BK532.out) hb); replace HB := Aside0.mk (below_step bw hb); clear hb) | ((with_reducible refine gate_builtin (b := .append) (xs := #[.tmp 30, .tmp 32]) rfl ?_); at_builtin; refine Kd.R_append (Kd.int .i64) (w0 := w) w.heap.size rfl (.tmp 30) (.tmp 32) 24 3 (.int .i64 0) 8 rfl Try.underlying24 info3 rfl (by decide) (by omega) u6 x6_2 x7_2 [.int .i64 x7_2] (fun _ => True) (fun _ => False) rfl rfl ?aP (fun _ hk => hk.elim) ?aF ?aO ?aB ?aS ?aL ?_; (case aP => exact rfl); (case aB => exact bw); (case aF => exact (fun _ _ => trivial)); (case aO => exact (ro HO_6.out)); (case aS => exact (below_size bw)); (case aL => have := LMc26.out; omega); intro v540 w30 ho hb hg hat; rw [← Ny539.out] at ho; replace BK531 := Aside0.mk (blk_grown (g := gb531) (o := .cells #[.slice A0_0 l0_0.length c0_0] 26 (0, 0)) (bo BK531.out) hg (Kd.R_ne HO_6.out BK531.out (by decide))); replace BK532 := Aside0.mk (blk_grown (g := gb532) (o := .cells #[.slice none 0 0] 26 (0, 0)) (bo BK532.out) hg (Kd.R_ne HO_6.out BK532.out (by decide))); replace HB := Aside0.mk (hb); have HO541 := Aside0.mk (ho); clear HO_6 ho hb hg hat))
        go_roundg k2
        case measure => have := HJ2.out; have := HK2.out; omega
        case rel => exact ⟨(y539), (wrap64 (x7_2 + 1)), rr, H', ⟨by have := HJ2.out; have := HK2.out; omega⟩, ⟨ro HO541.out⟩, ⟨bo BK531.out⟩, ⟨bo BK532.out⟩, ⟨bw⟩⟩
      ·replace H := ga H; obtain ⟨⟨t542, t545⟩, A31, H⟩ := H
       replace H : (some (t542, t545)) = some (r1, r2) := H
       simp only [Option.some.injEq, Prod.mk.injEq] at H
       obtain ⟨rfl, rfl⟩ := H
       obtain ⟨Ao32, co32, eo32⟩ := Kd.R_slice HO_6.out
       subst eo32
       go_wp2_with (first | ((with_reducible refine gate_callee (f := 155) rfl ?_); refine gl (some 36) Try.func155 #[.slice Ao32 x6_2.length co32] ?_; (with_reducible refine (spec_FromGaps.calls k2 _ _ x6_2 t542 t545 _ ?side1 ?side2 A31.out).mono ?_); (case side1 => exact co (Kd.R_reads' HO_6.out).2.2); (case side2 => exact (Kd.R_reads' HO_6.out).2.1); rintro e w33 ⟨v543, rfl, ho0, hb⟩; refine ⟨_, rfl, ?_⟩; have HO544 := Aside0.mk (Kd.R_lower (Kd.R_new' ho0 (Kd.R_lt (ro HO_6.out))) (below_size bw)); replace HO_6 := Aside0.mk (Kd.R_elder' (ro HO_6.out) (Kd.R_base ho0) hb); replace BK531 := Aside0.mk (blk_below (g := gb531) (o := .cells #[.slice A0_0 l0_0.length c0_0] 26 (0, 0)) (bo BK531.out) hb); replace BK532 := Aside0.mk (blk_below (g := gb532) (o := .cells #[.slice none 0 0] 26 (0, 0)) (bo BK532.out) hb); replace HB := Aside0.mk (below_step bw hb); clear hb ho0) | ((with_reducible refine gate_dst (N := 8) rfl ?_); refine bx 8 #[.slice none 0 0] 26 ?_; intro gb546 hg w34 hbox hb; replace HO_6 := Aside0.mk (Kd.R_below (ro HO_6.out) hb); replace HO544 := Aside0.mk (Kd.R_below (ro HO544.out) hb); have BK546 := Aside0.mk (hbox); have GW546 := Aside0.mk (gs hg : w.heap.size ≤ gb546); have GE546 := Aside0.mk (gs hg : w.heap.size ≤ gb546); replace HB := Aside0.mk (below_step bw hb); have NB531_546 := Aside0.mk ((by rw [hg]; exact Nat.ne_of_lt (blk_lt (g := gb531) (o := .cells #[.slice A0_0 l0_0.length c0_0] 26 (0, 0)) (bo BK531.out)) : gb531 ≠ gb546)); have NB546_531 := Aside0.mk ((by rw [hg]; exact Nat.ne_of_gt (blk_lt (g := gb531) (o := .cells #[.slice A0_0 l0_0.length c0_0] 26 (0, 0)) (bo BK531.out)) : gb546 ≠ gb531)); replace BK531 := Aside0.mk (blk_below (g := gb531) (o := .cells #[.slice A0_0 l0_0.length c0_0] 26 (0, 0)) (bo BK531.out) hb); have NB532_546 := Aside0.mk ((by rw [hg]; exact Nat.ne_of_lt (blk_lt (g := gb532) (o := .cells #[.slice none 0 0] 26 (0, 0)) (bo BK532.out)) : gb532 ≠ gb546)); have NB546_532 := Aside0.mk ((by rw [hg]; exact Nat.ne_of_gt (blk_lt (g := gb532) (o := .cells #[.slice none 0 0] 26 (0, 0)) (bo BK532.out)) : gb546 ≠ gb532)); replace BK532 := Aside0.mk (blk_below (g := gb532) (o := .cells #[.slice none 0 0] 26 (0, 0)) (bo BK532.out) hb); clear hb hbox hg; obtain ⟨Ao35, co35, eo35⟩ := Kd.R_slice HO544.out; subst eo35; have hnb36 := NB546_531.out; have hnc36 := NB531_546.out; have hnb37 := NB546_532.out; have hnc37 := NB532_546.out; have hcz38_0 := bc BK546 0 (.slice none 0 0); have hfz38_0 := blk_frozen BK546.out 0; have hnb39 := NB532_531.out; have hnc39 := NB531_532.out; have hcz40_0 := bc BK532 0 (.slice none 0 0); have hfz40_0 := blk_frozen BK532.out 0))
       refine bodyPost_ret (results_ct rfl _ _ gb532 26 #[.slice Ao35 t542.length co35] (0, 0) _ rfl (by (with_reducible repeat (first | refine blk_drewN ?_ _ | refine blk_drew ?_ | refine blk_alloc ?_ _)); refine blk_put (cs := #[.slice none 0 0]) ?_ 0 _ rfl; (with_reducible repeat (first | refine blk_drewN ?_ _ | refine blk_drew ?_ | refine blk_alloc ?_ _)); refine blk_far ?_ NB532_546.out _; (with_reducible repeat (first | refine blk_drewN ?_ _ | refine blk_drew ?_ | refine blk_alloc ?_ _)); exact BK532.out) Try.underlying26 rfl (by kernel_rfl)) rfl ?_
       exact ⟨_, re, by (with_reducible repeat (first | apply Kd.R_alloc | apply Kd.R_drewN | apply Kd.R_drew)); exact Kd.R_mono (Kd.R_far (p := ⟨gb532, 0, none⟩) (Kd.R_far (p := ⟨gb546, 0, none⟩) (Kd.R_types (Kd.R_types HO544.out BK546.out (by decide)) BK532.out (by decide)) (fun _ hk => by first | exact hk.1.2 | simp_all) (.slice Ao35 t542.length co35)) (fun _ hk => hk.2) (.slice Ao35 t542.length co35)) (fun _ hk => trivial), bw⟩


/-! ### spec_DrawScaledElements: function 29 -/
def spec_DrawScaledElements.f (k : Nat) (l0 : List Int) : Option (List Int × Int × Int) := (spec_DrawQuotientOf.f k l0).bind fun bt548 => ((spec_l1New.f k l0).bind fun bt553 => ((spec_l1Below.f bt553.1 bt553.2.1 bt553.2.2 30).bind fun bt557 => ((spec_l1Below.f bt553.1 bt557.2.1 bt557.2.2 30).bind fun bt560 => ((spec_l1PickInt.f bt553.1 bt560.2.1 bt560.2.2 (([bt557.1, bt560.1, 200, 201, (-1)] : List Int))).bind fun bt566 => (some (bt548.1, bt548.2, bt566.1))))))
def spec_DrawScaledElements.T3 : Bool × List (List Nat × List Nat) := (true, [([], []), ([], []), ([], []), ([], []), ([3], [3]), ([], []), ([5, 4], [5]), ([4, 6], [4, 6]), ([2, 7, 6], [2, 7]), ([0, 8, 0], [0]), ([1, 9, 0, 1, 9], [1]), ([8, 10, 0, 1, 2, 3, 4, 5, 6, 7, 8, 9, 10], [8])])
def spec_DrawScaledElements.B3 : List Nat := [0, 0, 0, 0, 8, 0, 56, 120, 252, 509, 1023, 2047]
theorem spec_DrawScaledElements.tab3 : rtab .any (opsOf Try.f29 3) = spec_DrawScaledElements.T3 := by kernel_rfl
theorem spec_DrawScaledElements.bits3 : waitsOk spec_DrawScaledElements.T3.2 spec_DrawScaledElements.B3 = true := by kernel_rfl
set_option maxHeartbeats 8000000 in
set_option maxRecDepth 100000 in
theorem spec_DrawScaledElements.calls (k : Nat) (A0 : Option Addr) (c0 : Nat) (l0 : List Int) (r1 : List Int) (r2 : Int) (r3 : Int) (w : World) (hr0 : Kd.C (Kd.int .u8) w A0 l0.length l0) (hc0 : l0.length ≤ c0) (h : spec_DrawScaledElements.f k l0 = some (r1, r2, r3)) :
  Calls Try.prog 29 #[.slice A0 l0.length c0] w fun e w' => ∃ v0_ : Value, e = .returned (.tuple #[.agg #[v0_], .int .i64 r2, .int .i64 r3]) ∧ Kd.Q (Kd.int .i64) 3 w' w.heap.size (fun _ => True) v0_ r1 ∧ Below w.heap.size w w' := by
 have hu26 := Try.underlying26
 have HR0 := Aside0.mk hr0
 have HC0 := Aside0.mk hc0
 clear hr0 hc0
 have HB := Aside0.mk (Below.refl w.heap.size w)
 have H : ((spec_DrawQuotientOf.f k l0).bind fun bt548 => ((spec_l1New.f k l0).bind fun bt553 => ((spec_l1Below.f bt553.1 bt553.2.1 bt553.2.2 30).bind fun bt557 => ((spec_l1Below.f bt553.1 bt557.2.1 bt557.2.2 30).bind fun bt560 => ((spec_l1PickInt.f bt553.1 bt560.2.1 bt560.2.2 (([bt557.1, bt560.1, 200, 201, (-1)] : List Int))).bind fun bt566 => (some (bt548.1, bt548.2, bt566.1))))))) = some (r1, r2, r3) := h
 clear h
 replace H := ga H; obtain ⟨⟨t548, t551⟩, A2, H⟩ := H
 replace H : ((spec_l1New.f k l0).bind fun bt553 => ((spec_l1Below.f bt553.1 bt553.2.1 bt553.2.2 30).bind fun bt557 => ((spec_l1Below.f bt553.1 bt557.2.1 bt557.2.2 30).bind fun bt560 => ((spec_l1PickInt.f bt553.1 bt560.2.1 bt560.2.2 (([bt557.1, bt560.1, 200, 201, (-1)] : List Int))).bind fun bt566 => (some (t548, t551, bt566.1)))))) = some (r1, r2, r3) := H
 replace H := ga H; obtain ⟨⟨t553, t554, t555⟩, A3, H⟩ := H
 replace H : ((spec_l1Below.f t553 t554 t555 30).bind fun bt557 => ((spec_l1Below.f t553 bt557.2.1 bt557.2.2 30).bind fun bt560 => ((spec_l1PickInt.f t553 bt560.2.1 bt560.2.2 (([bt557.1, bt560.1, 200, 201, (-1)] : List Int))).bind fun bt566 => (some (t548, t551, bt566.1))))) = some (r1, r2, r3) := H
 replace H := ga H; obtain ⟨⟨t557, t558, t559⟩, A4, H⟩ := H
 replace H : ((spec_l1Below.f t553 t558 t559 30).bind fun bt560 => ((spec_l1PickInt.f t553 bt560.2.1 bt560.2.2 (([t557, bt560.1, 200, 201, (-1)] : List Int))).bind fun bt566 => (some (t548, t551, bt566.1)))) = some (r1, r2, r3) := H
 replace H := ga H; obtain ⟨⟨t560, t561, t562⟩, A5, H⟩ := H
 replace H : ((spec_l1PickInt.f t553 t561 t562 (([t557, t560, 200, 201, (-1)] : List Int))).bind fun bt566 => (some (t548, t551, bt566.1))) = some (r1, r2, r3) := H
 obtain ⟨y563, hy563⟩ : ∃ y_ : List Int, y_ = (([t557, t560, 200, 201, (-1)] : List Int)) := ⟨_, rfl⟩
 replace H : ((spec_l1PickInt.f t553 t561 t562 y563).bind fun bt566 => (some (t548, t551, bt566.1))) = some (r1, r2, r3) := by first | (rw [hy563]; with_reducible exact H) | (have H2_ := (Option.bind_some _ _).symm.trans H; rw [hy563]; with_reducible exact H2_) | (have H2_ := (Option.bind_some _ _).symm.trans H; with_reducible exact H2_) | with_reducible exact H | (rw [hy563]; exact H) | exact H
 have Ny563 := Aside0.mk hy563
 clear hy563
 replace H := ga H; obtain ⟨⟨t566, t567, t568⟩, A6, H⟩ := H
 replace H : (some (t548, t551, t566)) = some (r1, r2, r3) := H
 simp only [Option.some.injEq, Prod.mk.injEq] at H
 obtain ⟨rfl, rfl, rfl⟩ := H
 go_enter Try.func29, Try.ntmps29
 try go_wp2_with (first | ((with_reducible refine gate_dst (N := 2) rfl ?_); refine bx 2 #[.slice none 0 0] 26 ?_; intro gb547 hg w7 hbox hb; have BK547 := Aside0.mk (hbox); have GW547 := Aside0.mk (gs hg : w.heap.size ≤ gb547); have GE547 := Aside0.mk (gs hg : w.heap.size ≤ gb547); replace HB := Aside0.mk (below_step bw hb); clear hb hbox hg) | ((with_reducible refine gate_callee (f := 26) rfl ?_); refine gl (some 10) Try.func26 #[.slice A0 l0.length c0] ?_; (with_reducible refine (spec_DrawQuotientOf.calls k _ _ l0 t548 t551 _ ?side1 ?side2 A2.out).mono ?_); (case side1 => exact co (Kd.C_below HR0.out HB.out)); (case side2 => exact HC0.out); rintro e w8 ⟨v549, rfl, ho0, hb⟩; refine ⟨_, rfl, ?_⟩; have HO550 := Aside0.mk (Kd.Q_lower ho0 (below_size bw)); replace BK547 := Aside0.mk (blk_below (g := gb547) (o := .cells #[.slice none 0 0] 26 (0, 0)) (bo BK547.out) hb); replace HB := Aside0.mk (below_step bw hb); clear hb ho0) | ((with_reducible refine gate_dst (N := 5) rfl ?_); refine bx 5 #[.slice none 0 0] 26 ?_; intro gb552 hg w9 hbox hb; replace HO550 := Aside0.mk (Kd.Q_below (by (with_reducible repeat (first | apply Kd.Q_alloc | apply Kd.Q_drewN | apply Kd.Q_drew)); exact HO550.out) hb); have BK552 := Aside0.mk (hbox); have GW552 := Aside0.mk (gs hg : w.heap.size ≤ gb552); have GE552 := Aside0.mk (gs hg : w.heap.size ≤ gb552); replace HB := Aside0.mk (below_step bw hb); have NB547_552 := Aside0.mk ((by rw [hg]; exact Nat.ne_of_lt (blk_lt (g := gb547) (o := .cells #[.slice none 0 0] 26 (0, 0)) (bo BK547.out)) : gb547 ≠ gb552)); have NB552_547 := Aside0.mk ((by rw [hg]; exact Nat.ne_of_gt (blk_lt (g := gb547) (o := .cells #[.slice none 0 0] 26 (0, 0)) (bo BK547.out)) : gb552 ≠ gb547)); replace BK547 := Aside0.mk (blk_below (g := gb547) (o := .cells #[.slice none 0 0] 26 (0, 0)) (bo BK547.out) hb); clear hb hbox hg; obtain ⟨Ao10, co10, eo10, _⟩ := Kd.Q_slice HO550.out; subst eo10; have hnb11 := NB552_547.out; have hnc11 := NB547_552.out; have hcz12_0 := bc BK552 0 (.slice none 0 0); have hfz12_0 := blk_frozen BK552.out 0) | ((with_reducible refine gate_callee (f := 131) rfl ?_); refine gl (some 14) Try.func131 #[.slice A0 l0.length c0] ?_; (with_reducible refine (spec_l1New.calls k _ _ l0 t553 t554 t555 w _ ?side1 ?side2 ?side3 A3.out).mono ?_); (case side1 => repeat (first | (with_reducible first | exact HB.out | apply below_alloc | apply pw_below_drewN | apply below_drew1 | refine below_set ?_ GE547.out | refine below_set ?_ GE552.out) | exact HB.out)); (case side2 => exact HR0.out); (case side3 => exact HC0.out); rintro e w13 ⟨g556, rfl, hi, hb, hb2⟩; refine ⟨_, rfl, ?_⟩; replace HO550 := Aside0.mk (Kd.Q_below (by (with_reducible repeat (first | apply Kd.Q_alloc | apply Kd.Q_drewN | apply Kd.Q_drew)); exact (Kd.Q_mono (Kd.Q_far (p := ⟨gb552, 0, none⟩) (Kd.Q_types HO550.out BK552.out (by decide)) (fun _ hk => hk.2) (.slice Ao10 t548.length co10)) (fun _ h_ => h_.1))) hb2); replace HB := Aside0.mk (hb); have HI556 := Aside0.mk (hi); have NB556_547 := Aside0.mk (IsS132.ne_blk hi (blk_below (g := gb547) (o := .cells #[.slice none 0 0] 26 (0, 0)) (by (with_reducible repeat (first | refine blk_drewN ?_ _ | refine blk_drew ?_ | refine blk_alloc ?_ _)); refine blk_far ?_ NB547_552.out _; (with_reducible repeat (first | refine blk_drewN ?_ _ | refine blk_drew ?_ | refine blk_alloc ?_ _)); exact BK547.out) hb2) (by decide)); have NB547_556 := Aside0.mk (Ne.symm (IsS132.ne_blk hi (blk_below (g := gb547) (o := .cells #[.slice none 0 0] 26 (0, 0)) (by (with_reducible repeat (first | refine blk_drewN ?_ _ | refine blk_drew ?_ | refine blk_alloc ?_ _)); refine blk_far ?_ NB547_552.out _; (with_reducible repeat (first | refine blk_drewN ?_ _ | refine blk_drew ?_ | refine blk_alloc ?_ _)); exact BK547.out) hb2) (by decide))); replace BK547 := Aside0.mk (blk_below (g := gb547) (o := .cells #[.slice none 0 0] 26 (0, 0)) (by (with_reducible repeat (first | refine blk_drewN ?_ _ | refine blk_drew ?_ | refine blk_alloc ?_ _)); refine blk_far ?_ NB547_552.out _; (with_reducible repeat (first | refine blk_drewN ?_ _ | refine blk_drew ?_ | refine blk_alloc ?_ _)); exact BK547.out) hb2); have NB556_552 := Aside0.mk (IsS132.ne_blk hi (blk_below (g := gb552) (o := .cells #[.slice Ao10 t548.length co10] 26 (0, 0)) (by (with_reducible repeat (first | refine blk_drewN ?_ _ | refine blk_drew ?_ | refine blk_alloc ?_ _)); refine blk_put (cs := #[.slice none 0 0]) ?_ 0 _ rfl; (with_reducible repeat (first | refine blk_drewN ?_ _ | refine blk_drew ?_ | refine blk_alloc ?_ _)); exact BK552.out) hb2) (by decide)); have NB552_556 := Aside0.mk (Ne.symm (IsS132.ne_blk hi (blk_below (g := gb552) (o := .cells #[.slice Ao10 t548.length co10] 26 (0, 0)) (by (with_reducible repeat (first | refine blk_drewN ?_ _ | refine blk_drew ?_ | refine blk_alloc ?_ _)); refine blk_put (cs := #[.slice none 0 0]) ?_ 0 _ rfl; (with_reducible repeat (first | refine blk_drewN ?_ _ | refine blk_drew ?_ | refine blk_alloc ?_ _)); exact BK552.out) hb2) (by decide))); replace BK552 := Aside0.mk (blk_below (g := gb552) (o := .cells #[.slice Ao10 t548.length co10] 26 (0, 0)) (by (with_reducible repeat (first | refine blk_drewN ?_ _ | refine blk_drew ?_ | refine blk_alloc ?_ _)); refine blk_put (cs := #[.slice none 0 0]) ?_ 0 _ rfl; (with_reducible repeat (first | refine blk_drewN ?_ _ | refine blk_drew ?_ | refine blk_alloc ?_ _)); exact BK552.out) hb2); clear hb hb2 hi))
 replace HO550 := Aside0.mk (Kd.Q_drew HO550.out)
 replace BK547 := Aside0.mk (blk_drew BK547.out)
 replace BK552 := Aside0.mk (blk_drew BK552.out)
 replace HI556 := Aside0.mk (IsS132.drew HI556.out)
 replace HB := Aside0.mk (below_drew1 HB.out)
 refine start_ (n := 12) (S := fun w' => w'.cell? ⟨gb552, 0, none⟩ = some (.slice Ao10 t548.length co10)) (ds := []) #[Z,Z,Z,Z,Z,Z,Z,Z,Z,Z,Z,Z] (by kernel_rfl) rfl rfl ((blk_cell BK552.out 0).trans rfl) (fun hHeld => ?_); refine with_tabW spec_DrawScaledElements.tab3 spec_DrawScaledElements.bits3 (fun HT_ HW_ => ?_)
 generalize w13.drew = w14 at HO550 BK547 BK552 HI556 HB hHeld ⊢
 refine pa 1 (some 16) #[Z,Y,Z,Z,Z,Z,Z,Z,Z,Z,Z,Z] HT_ ?_
 refine pa 2 (some 17) #[Z,Y,Y,Z,Z,Z,Z,Z,Z,Z,Z,Z] HT_ ?_
 refine pa 3 (some 18) #[Z,Y,Y,Y,Z,Z,Z,Z,Z,Z,Z,Z] HT_ ?_
 refine pa 5 (some 20) #[Z,Y,Y,Y,Z,Y,Z,Z,Z,Z,Z,Z] HT_ ?_
 refine take_ (i := 0) (N := some 15) (v := ?_) (a' := ?_) #[Y,Y,Y,Y,Z,Y,Z,Z,Z,Z,Z,Z] rfl rfl (take_ofW HT_.out HW_.out (by kernel_rfl)) (fun _ _ _ h => h) (Or.inl ⟨by rfl, ?_⟩) hHeld ?_ ?_
 rotate_left
 ·intro w' s0
  go_simp
  with_reducible rfl
 rotate_left
 ·simp only [Act.put, qa, qb, qc, i64_w, i32_w]
  rfl
 refine oa 4 (some 19) #[Y,Y,Y,Y,Y,Y,Z,Z,Z,Z,Z,Z] HT_ (fun K hK => ?_)
 refine gm Try.func156 #[.pointer (some ⟨g556, 0, none⟩), .int .i64 30] ?_
 with_reducible refine (spec_l1Below.calls g556 t553 t554 t555 30 t557 t558 t559 w _ ?side1 ?side2 A4.out).mono ?_
 (case side1 => repeat (first | (with_reducible first | exact HI556.out | apply IsS132.alloc | apply IsS132.drewN | apply IsS132.drew | apply IsS132.set_1 | apply IsS132.set_2 | refine IsS132.far ?_ NB556_547.out _ | refine IsS132.far ?_ NB556_552.out _) | exact HI556.out))
 (case side2 => repeat (first | (with_reducible first | exact HB.out | apply below_alloc | apply pw_below_drewN | apply below_drew1 | refine below_set ?_ (IsS132.ge HI556.out) | refine below_set ?_ GE547.out | refine below_set ?_ GE552.out) | exact HB.out))
 rintro e w15 ⟨rfl, hi, hb, hk⟩
 refine ⟨_, rfl, ?_⟩
 replace BK547 := Aside0.mk (KeepBut.blk hk (g' := gb547) (o := .cells #[.slice none 0 0] 26 (0, 0)) (bo BK547.out) NB547_556.out (by simp))
 replace HO550 := Aside0.mk (Kd.Q_mono (Kd.Q_keep (IsS132.apartQ (show IsS132 w _ g556 t553 t554 t555 from by repeat (first | (with_reducible first | exact HI556.out | apply IsS132.alloc | apply IsS132.drewN | apply IsS132.drew | apply IsS132.set_1 | apply IsS132.set_2 | refine IsS132.far ?_ NB556_547.out _ | refine IsS132.far ?_ NB556_552.out _) | exact HI556.out)) (by (with_reducible repeat (first | apply Kd.Q_alloc | apply Kd.Q_drewN | apply Kd.Q_drew)); exact HO550.out) (by decide)) hk (fun _ h => h.2)) (fun _ h => h.1))
 replace BK552 := Aside0.mk (KeepBut.blk hk (g' := gb552) (o := .cells #[.slice Ao10 t548.length co10] 26 (0, 0)) (bo BK552.out) NB552_556.out (by simp))
 replace HB := Aside0.mk (hb)
 replace HI556 := Aside0.mk (hi)
 clear hb hk hi
 refine hK.out _ _ ((blk_cell BK552.out 0).trans rfl) (fun hHeld => ?_)
 clear hK K
 refine norm_ (a' := ?_) ?_ ?_
 rotate_left
 ·show Act.put _ (some 19) _ = _
  simp only [Act.put, qa, qb, qc, i64_w, i32_w]
  rfl
 refine oa 6 (some 21) #[Y,Y,Y,Y,Y,Y,Y,Z,Z,Z,Z,Z] HT_ (fun K hK => ?_)
 refine gm Try.func156 #[.pointer (some ⟨g556, 0, none⟩), .int .i64 30] ?_
 with_reducible refine (spec_l1Below.calls g556 t553 t558 t559 30 t560 t561 t562 w _ ?side1 ?side2 A5.out).mono ?_
 (case side1 => repeat (first | (with_reducible first | exact HI556.out | apply IsS132.alloc | apply IsS132.drewN | apply IsS132.drew | apply IsS132.set_1 | apply IsS132.set_2 | refine IsS132.far ?_ NB556_547.out _ | refine IsS132.far ?_ NB556_552.out _) | exact HI556.out))
 (case side2 => repeat (first | (with_reducible first | exact HB.out | apply below_alloc | apply pw_below_drewN | apply below_drew1 | refine below_set ?_ (IsS132.ge HI556.out) | refine below_set ?_ GE547.out | refine below_set ?_ GE552.out) | exact HB.out))
 rintro e w16 ⟨rfl, hi, hb, hk⟩
 refine ⟨_, rfl, ?_⟩
 replace BK547 := Aside0.mk (KeepBut.blk hk (g' := gb547) (o := .cells #[.slice none 0 0] 26 (0, 0)) (bo BK547.out) NB547_556.out (by simp))
 replace HO550 := Aside0.mk (Kd.Q_mono (Kd.Q_keep (IsS132.apartQ (show IsS132 w _ g556 t553 t558 t559 from by repeat (first | (with_reducible first | exact HI556.out | apply IsS132.alloc | apply IsS132.drewN | apply IsS132.drew | apply IsS132.set_1 | apply IsS132.set_2 | refine IsS132.far ?_ NB556_547.out _ | refine IsS132.far ?_ NB556_552.out _) | exact HI556.out)) (by (with_reducible repeat (first | apply Kd.Q_alloc | apply Kd.Q_drewN | apply Kd.Q_drew)); exact HO550.out) (by decide)) hk (fun _ h => h.2)) (fun _ h => h.1))
 replace BK552 := Aside0.mk (KeepBut.blk hk (g' := gb552) (o := .cells #[.slice Ao10 t548.length co10] 26 (0, 0)) (bo BK552.out) NB552_556.out (by simp))
 replace HB := Aside0.mk (hb)
 replace HI556 := Aside0.mk (hi)
 clear hb hk hi
 refine hK.out _ _ ((blk_cell BK552.out 0).trans rfl) (fun hHeld => ?_)
 clear hK K
 refine norm_ (a' := ?_) ?_ ?_
 rotate_left
 ·show Act.put _ (some 21) _ = _
  simp only [Act.put, qa, qb, qc, i64_w, i32_w]
  rfl
 refine oa 7 (some 22) #[Y,Y,Y,Y,Y,Y,Y,Y,Z,Z,Z,Z] HT_ (fun K hK => ?_)
 refine Kd.R_lit_step (Kd.int .i64) _ 3 ?hg (N := 22) ?hd (xs := ([t557, t560, 200, 201, (-1)] : List Int)) (inner := [.int .i64 t557, .int .i64 t560, .int .i64 200, .int .i64 201, .int .i64 (-1)]) (ok := fun _ => True) (okp := fun _ => True) ?hr ?hp (fun _ hk => hk) trivial (Below.refl _ _) (Nat.le_refl _) (by simp) ?_; (case hd => rfl); (case hg => rfl); (case hr => first | (go_simp; done) | (go_simp; rfl)); (case hp => exact (Reps.one (show Kd.M (Kd.int .i64) _ _ _ t557 [.int .i64 t557] from rfl) (Reps.one (show Kd.M (Kd.int .i64) _ _ _ t560 [.int .i64 t560] from rfl) (Reps.one (show Kd.M (Kd.int .i64) _ _ _ 200 [.int .i64 200] from rfl) (Reps.one (show Kd.M (Kd.int .i64) _ _ _ 201 [.int .i64 201] from rfl) (Reps.one (show Kd.M (Kd.int .i64) _ _ _ (-1) [.int .i64 (-1)] from rfl) (Reps.none _ _)))))))
 intro v564 w17 ho18 hb hg_ hnew_
 clear hg_ hnew_
 (first | rw [← Ny563.out] at ho18 | (simp only [Int.reduceToNat] at ho18; rw [← Ny563.out] at ho18))
 have HO565 := Aside0.mk (Kd.R_lower (Kd.R_new' ho18 (Kd.Q_lt (by (with_reducible repeat (first | apply Kd.Q_alloc | apply Kd.Q_drewN | apply Kd.Q_drew)); exact HO550.out))) (below_size (by repeat (first | (with_reducible first | exact HB.out | apply below_alloc | apply pw_below_drewN | apply below_drew1 | refine below_set ?_ (IsS132.ge HI556.out) | refine below_set ?_ GE547.out | refine below_set ?_ GE552.out) | exact HB.out))))
 replace HO550 := Aside0.mk (Kd.Q_elder' (by (with_reducible repeat (first | apply Kd.Q_alloc | apply Kd.Q_drewN | apply Kd.Q_drew)); exact HO550.out) (Kd.R_base ho18) hb)
 replace BK547 := Aside0.mk (blk_below (g := gb547) (o := .cells #[.slice none 0 0] 26 (0, 0)) (bo BK547.out) hb)
 replace BK552 := Aside0.mk (blk_below (g := gb552) (o := .cells #[.slice Ao10 t548.length co10] 26 (0, 0)) (bo BK552.out) hb)
 replace HB := Aside0.mk (below_step (by repeat (first | (with_reducible first | exact HB.out | apply below_alloc | apply pw_below_drewN | apply below_drew1 | refine below_set ?_ (IsS132.ge HI556.out) | refine below_set ?_ GE547.out | refine below_set ?_ GE552.out) | exact HB.out)) hb)
 replace HI556 := Aside0.mk (IsS132.below (by repeat (first | (with_reducible first | exact HI556.out | apply IsS132.alloc | apply IsS132.drewN | apply IsS132.drew | apply IsS132.set_1 | apply IsS132.set_2 | refine IsS132.far ?_ NB556_547.out _ | refine IsS132.far ?_ NB556_552.out _) | exact HI556.out)) hb)
 clear hb ho18
 obtain ⟨Ao19, co19, eo19⟩ := Kd.R_slice HO565.out
 (first | subst eo19 | (injection eo19 with f1_ f2_ f3_; have f4_ := f1_.symm; have f5_ := f3_.symm; clear f1_ f2_ f3_; subst f4_; subst f5_))
 refine hK.out _ _ ((blk_cell BK552.out 0).trans rfl) (fun hHeld => ?_)
 clear hK K
 refine norm_ (a' := ?_) ?_ ?_
 rotate_left
 ·show Act.put _ (some 22) _ = _
  simp only [Act.put, qa, qb, qc, i64_w, i32_w]
  rfl
 refine oa 8 (some 23) #[Y,Y,Y,Y,Y,Y,Y,Y,Y,Z,Z,Z] HT_ (fun K hK => ?_)
 refine gm Try.func150 #[.pointer (some ⟨g556, 0, none⟩), .slice Ao19 y563.length co19] ?_
 with_reducible refine (spec_l1PickInt.calls g556 t553 t561 t562 _ _ y563 t566 t567 t568 w _ ?side1 ?side2 ?side3 ?side4 ?side5 A6.out).mono ?_
 (case side1 => repeat (first | (with_reducible first | exact HI556.out | apply IsS132.alloc | apply IsS132.drewN | apply IsS132.drew | apply IsS132.set_1 | apply IsS132.set_2 | refine IsS132.far ?_ NB556_547.out _ | refine IsS132.far ?_ NB556_552.out _) | exact HI556.out))
 (case side2 => repeat (first | (with_reducible first | exact HB.out | apply below_alloc | apply pw_below_drewN | apply below_drew1 | refine below_set ?_ (IsS132.ge HI556.out) | refine below_set ?_ GE547.out | refine below_set ?_ GE552.out) | exact HB.out))
 (case side3 => exact co (Kd.R_reads' HO565.out).2.2)
 (case side4 => exact (Kd.R_reads' HO565.out).2.1)
 (case side5 => exact far_slice (IsS132.own_ne HI556.out HO565.out (by decide)))
 rintro e w20 ⟨rfl, hi, hb, hk⟩
 refine ⟨_, rfl, ?_⟩
 replace BK547 := Aside0.mk (KeepBut.blk hk (g' := gb547) (o := .cells #[.slice none 0 0] 26 (0, 0)) (bo BK547.out) NB547_556.out (by simp))
 replace HO550 := Aside0.mk (Kd.Q_mono (Kd.Q_keep (IsS132.apartQ (show IsS132 w _ g556 t553 t561 t562 from by repeat (first | (with_reducible first | exact HI556.out | apply IsS132.alloc | apply IsS132.drewN | apply IsS132.drew | apply IsS132.set_1 | apply IsS132.set_2 | refine IsS132.far ?_ NB556_547.out _ | refine IsS132.far ?_ NB556_552.out _) | exact HI556.out)) (by (with_reducible repeat (first | apply Kd.Q_alloc | apply Kd.Q_drewN | apply Kd.Q_drew)); exact HO550.out) (by decide)) hk (fun _ h => h.2)) (fun _ h => h.1))
 replace BK552 := Aside0.mk (KeepBut.blk hk (g' := gb552) (o := .cells #[.slice Ao10 t548.length co10] 26 (0, 0)) (bo BK552.out) NB552_556.out (by simp))
 replace HO565 := Aside0.mk (Kd.R_mono (Kd.R_keep (IsS132.apart (show IsS132 w _ g556 t553 t561 t562 from by repeat (first | (with_reducible first | exact HI556.out | apply IsS132.alloc | apply IsS132.drewN | apply IsS132.drew | apply IsS132.set_1 | apply IsS132.set_2 | refine IsS132.far ?_ NB556_547.out _ | refine IsS132.far ?_ NB556_552.out _) | exact HI556.out)) (ro HO565.out) (by decide)) hk (fun _ h => h.2)) (fun _ h => h.1))
 replace HB := Aside0.mk (hb)
 replace HI556 := Aside0.mk (hi)
 clear hb hk hi
 refine hK.out _ _ ((blk_cell BK552.out 0).trans rfl) (fun hHeld => ?_)
 clear hK K
 refine norm_ (a' := ?_) ?_ ?_
 rotate_left
 ·show Act.put _ (some 23) _ = _
  simp only [Act.put, qa, qb, qc, i64_w, i32_w]
  rfl
 refine oa 9 none #[Y,Y,Y,Y,Y,Y,Y,Y,Y,Y,Z,Z] HT_ (fun K hK => ?_)
 have hs21 := bc BK547 0 (.slice none 0 0)
 have hfs21 := blk_frozen BK547.out 0
 have hns21_1 := NB552_547.out
 have hms21_1 := NB547_552.out
 refine skip_ (w1 := ?_) (by rfl) rfl ?_ ?_
 rotate_left
 ·go_simp
  rfl
 refine hK.out _ _ (((cell_far (p := ⟨gb547, _, none⟩) NB552_547.out _).trans (hHeld))) (fun hHeld => ?_)
 clear hK K
 refine pa 10 (some 3) #[Y,Y,Y,Y,Y,Y,Y,Y,Y,Y,Y,Z] HT_ ?_
 refine pa 11 (some 4) #[Y,Y,Y,Y,Y,Y,Y,Y,Y,Y,Y,Y] HT_ ?_
 refine done_ (done_of HT_.out (by kernel_rfl)) ?_
 try go_wp2
 refine bodyPost_ret (results_ctt rfl _ _ gb547 26 #[.slice Ao10 t548.length co10] (0, 0) _ rfl (by (with_reducible repeat (first | refine blk_drewN ?_ _ | refine blk_drew ?_ | refine blk_alloc ?_ _)); refine blk_put (cs := #[.slice none 0 0]) ?_ 0 _ rfl; (with_reducible repeat (first | refine blk_drewN ?_ _ | refine blk_drew ?_ | refine blk_alloc ?_ _)); exact BK547.out) Try.underlying26 rfl (by kernel_rfl)) rfl ?_
 exact ⟨_, re, by (with_reducible repeat (first | apply Kd.Q_alloc | apply Kd.Q_drewN | apply Kd.Q_drew)); exact Kd.Q_mono (Kd.Q_far (p := ⟨gb547, 0, none⟩) (Kd.Q_types HO550.out BK547.out (by decide)) (fun _ hk => hk.2) (.slice Ao10 t548.length co10)) (fun _ hk => trivial), by repeat (first | (with_reducible first | exact HB.out | apply below_alloc | apply pw_below_drewN | apply below_drew1 | refine below_set ?_ (IsS132.ge HI556.out) | refine below_set ?_ GE547.out | refine below_set ?_ GE552.out) | exact HB.out)⟩

end Go.Proofs.Ytkfplkdchkmgbaa.C
