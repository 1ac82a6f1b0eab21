/- Contracts of functions of the program: spec_DualGens, impl_within, impl_allWithin, impl_IsAscending, impl_GcdOf, impl_GcdOfList, impl_leasts, impl_usable. -/
import Derived.Test.YtiejmnnnjmmifaaC0
import Derived.Test.YtiejmnnnjmmifaaC2
import Derived.Test.YtiejmnnnjmmifaaC4
import Derived.Test.YtiejmnnnjmmifaaC5
namespace Go.Proofs.Ytiejmnnnjmmifaa.C
open Go.RowKit Go.Proofs.YtiejmnnnjmmifaaW.PrintWords Go.Proofs.YtiejmnnnjmmifaaW.PrintLast Go.Proofs.YtiejmnnnjmmifaaW.PrintMore
attribute [local go_sem] max2_int min2_int max_two min_two max_three min_three max_four min_four
set_option linter.unusedVariables false
set_option linter.unusedSimpArgs false

/-! ### spec_DualGens: function 43 -/
mutual
def spec_DualGens.j0 : Nat → List Int → Bool → List Int → Option (List Int)
 | 0, _, _, _ => none
 | k + 1, x1, x15, x294000 => if x15 = true then (some (([] : List Int))) else ((spec_SortList.f k x1).bind fun t299 => (if 0 < (t299.length : Int) then (spec_DualGens.l0 k x1 (rd t299 0) (([] : List Int)) (wrap64 (-(rd t299 0))) x294000) else (none)))
def spec_DualGens.l0 : Nat → List Int → Int → List Int → Int → List Int → Option (List Int)
 | 0, _, _, _, _, _ => none
 | k + 1, x1, x5, x6, x7, x294000 => (spec_ConductorOf.f k x294000).bind fun t306 => (if 0 < (x294000.length : Int) then (if x7 < (wrap64 ((wrap64 (t306 - x5)) + (rd x294000 0))) then ((spec_l16Dual.f k x294000 x1 x7).bind fun t308 => (if t308 = true then (if x6.length < 17592186044416 then (spec_DualGens.l0 k x1 x5 (x6 ++ [x7]) (wrap64 (x7 + 1)) x294000) else (none)) else (spec_DualGens.l0 k x1 x5 x6 (wrap64 (x7 + 1)) x294000))) else ((spec_MinimalIn.f k x294000 x6).bind fun t312 => (some t312))) else (none))
end
def spec_DualGens.f (k : Nat) (l0_0 : List Int) (l1 : List Int) : Option (List Int) := (spec_IsSemigroup.f k l0_0).bind fun t294 => (if t294 = true then ((spec_l16Valid.f k l1).bind fun t295 => (spec_DualGens.j0 k l1 (!t295) l0_0)) else (spec_DualGens.j0 k l1 true l0_0))
def spec_DualGens.T6 : Bool × List (List Nat × List Nat) := (true, [([], []), ([], []), ([1], [1]), ([], []), ([2, 3], [2, 3]), ([], []), ([5], [5]), ([6], [6]), ([7], [7]), ([4, 8], [4, 8]), ([0, 9], [0, 9])])
def spec_DualGens.B6 : List Nat := [0, 0, 2, 0, 14, 0, 32, 96, 224, 510, 1023]
theorem spec_DualGens.tab6 : rtab .any (opsOf Try.f43 6) = spec_DualGens.T6 := by kernel_rfl
theorem spec_DualGens.bits6 : waitsOk spec_DualGens.T6.2 spec_DualGens.B6 = true := by kernel_rfl
set_option maxHeartbeats 8000000 in
set_option maxRecDepth 100000 in
theorem spec_DualGens.calls (k : Nat) (A0_0 : Option Addr) (c0_0 : Nat) (l0_0 : List Int) (A1 : Option Addr) (c1 : Nat) (l1 : List Int) (r : List Int) (w : World) (hr0_0 : Kd.C (Kd.int .i64) w A0_0 l0_0.length l0_0) (hc0_0 : l0_0.length ≤ c0_0) (hr1 : Kd.C (Kd.int .i64) w A1 l1.length l1) (hc1 : l1.length ≤ c1) (h : spec_DualGens.f k l0_0 l1 = some r) :
  Calls Try.prog 43 #[.agg #[.slice A0_0 l0_0.length c0_0], .slice A1 l1.length c1] w fun e w' => ∃ v0_ : Value, e = .returned (v0_) ∧ Kd.R (Kd.int .i64) 3 w' w.heap.size (fun _ => True) v0_ r ∧ Below w.heap.size w w' := by
 have hu27 := Try.underlying27
 have HR0_0 := Aside0.mk hr0_0
 have HC0_0 := Aside0.mk hc0_0
 clear hr0_0 hc0_0
 have HR1 := Aside0.mk hr1
 have HC1 := Aside0.mk hc1
 clear hr1 hc1
 have HB := Aside0.mk (Below.refl w.heap.size w)
 have H : ((spec_IsSemigroup.f k l0_0).bind fun t294 => (if t294 = true then ((spec_l16Valid.f k l1).bind fun t295 => (spec_DualGens.j0 k l1 (!t295) l0_0)) else (spec_DualGens.j0 k l1 true l0_0))) = some r := h
 clear h
 have HC3 := Aside0.mk H
 clear H
 go_enter Try.func43, Try.ntmps43
 go_upto_region 1 with (first | ((with_reducible refine gate_dst (N := 2) rfl ?_); refine bx 2 #[.slice A0_0 l0_0.length c0_0] 27 ?_; intro gb293 hg w4 hbox hb; have BK293 := Aside0.mk (hbox); have GW293 := Aside0.mk (gs hg : w.heap.size ≤ gb293); have GE293 := Aside0.mk (gs hg : w.heap.size ≤ gb293); replace HB := Aside0.mk (below_step bw hb); clear hb hbox hg))
 (try simp only [Act.put, List.setIfInBounds_toArray, List.set_cons_zero, List.set_cons_succ])
 go_cut [15] (fun v15 wc => ∃ (kq : Nat) (x15_2 : Bool), v15 = .bool x15_2 ∧ Aside0 (spec_DualGens.j0 kq l1 x15_2 l0_0 = some r) ∧ Aside0 (kq ≤ k) ∧ Aside0 (wc.heap[gb293]? = some (.cells #[(.slice A0_0 l0_0.length c0_0)] 27 (0, 0))) ∧ Aside0 (Below w.heap.size w wc))
 case first =>
  have H := HC3.out
  clear HC3
  replace H := ga H; obtain ⟨t294, A5, H⟩ := H
  replace H := gb H; obtain ⟨rfl, H⟩ | ⟨rfl, H⟩ := H
  ·replace H := ga H; obtain ⟨t295, A7, H⟩ := H
   have H' := Aside0.mk H
   clear H
   have hcz8_0 := bc BK293 0 (.slice A0_0 l0_0.length c0_0)
   have hfz8_0 := blk_frozen BK293.out 0
   go_wp2_with (first | ((with_reducible refine gate_callee (f := 71) rfl ?_); refine gl (some 9) Try.func71 #[.agg #[.slice A0_0 l0_0.length c0_0]] ?_; (with_reducible refine (spec_IsSemigroup.calls k _ _ l0_0 true _ ?side1 ?side2 A5.out).mono ?_); (case side1 => exact co (Kd.C_below HR0_0.out HB.out)); (case side2 => exact HC0_0.out); rintro e w9 ⟨rfl, hb⟩; refine ⟨_, rfl, ?_⟩; replace BK293 := Aside0.mk (blk_below (g := gb293) (o := .cells #[.slice A0_0 l0_0.length c0_0] 27 (0, 0)) (bo BK293.out) hb); replace HB := Aside0.mk (below_step bw hb); clear hb) | (go_at_call 63; (with_reducible refine (spec_l16Valid.calls k _ _ l1 t295 _ ?side1 ?side2 A7.out).mono ?_); (case side1 => exact co (Kd.C_below HR1.out HB.out)); (case side2 => exact HC1.out); rintro e w' ⟨rfl, ⟨nd, rfl⟩⟩))
   go_meet
   case rel => exact ⟨_, (!t295), rr, H', ⟨om⟩, ⟨bo BK293.out⟩, ⟨bw⟩⟩
  ·have H' := Aside0.mk H
   clear H
   have hcz10_0 := bc BK293 0 (.slice A0_0 l0_0.length c0_0)
   have hfz10_0 := blk_frozen BK293.out 0
   go_wp2_with (first | ((with_reducible refine gate_callee (f := 71) rfl ?_); refine gl (some 9) Try.func71 #[.agg #[.slice A0_0 l0_0.length c0_0]] ?_; (with_reducible refine (spec_IsSemigroup.calls k _ _ l0_0 false _ ?side1 ?side2 A5.out).mono ?_); (case side1 => exact co (Kd.C_below HR0_0.out HB.out)); (case side2 => exact HC0_0.out); rintro e w11 ⟨rfl, hb⟩; refine ⟨_, rfl, ?_⟩; replace BK293 := Aside0.mk (blk_below (g := gb293) (o := .cells #[.slice A0_0 l0_0.length c0_0] 27 (0, 0)) (bo BK293.out) hb); replace HB := Aside0.mk (below_step bw hb); clear hb))
   go_meet
   case rel => exact ⟨_, (true), rr, H', ⟨om⟩, ⟨bo BK293.out⟩, ⟨bw⟩⟩
 case rest =>
  clear HC3
  try clear c1; try clear hcz10_0; try clear hcz8_0; try clear hfz10_0; try clear hfz8_0
  obtain ⟨kq, x15_2, rfl, HA, HJ2, BK293, HB⟩ := hcut
  cases kq with
  | zero => exact absurd HA.out (by simp [spec_DualGens.j0])
  | succ kj2 =>
   have H := HA.out
   clear HA
   simp only [spec_DualGens.j0] at H
   replace H := gb H; obtain ⟨rfl, H⟩ | ⟨rfl, H⟩ := H
   ·obtain ⟨y296, hy296⟩ : ∃ y_ : List Int, y_ = (([] : List Int)) := ⟨_, rfl⟩
    replace H : (some y296) = some r := by first | (rw [hy296]; with_reducible exact H) | (have H2_ := (Option.bind_some _ _).symm.trans H; rw [hy296]; with_reducible exact H2_) | (have H2_ := (Option.bind_some _ _).symm.trans H; with_reducible exact H2_) | with_reducible exact H | (rw [hy296]; exact H) | exact H
    have Ny296 := Aside0.mk hy296
    clear hy296
    obtain rfl := Option.some.inj H
    go_wp2_with (first | ((with_reducible refine gate_dst (N := 16) rfl ?_); refine Kd.R_lit (Kd.int .i64) _ 3 ?hg (N := 16) ?hd (xs := ([] : List Int)) (inner := []) (ok := fun _ => True) (okp := fun _ => True) ?hr ?hp (fun _ hk => hk) trivial (Below.refl _ _) (Nat.le_refl _) (by simp) ?_; (case hd => rfl); (case hg => rfl); (case hr => first | (go_simp; done) | (go_simp; rfl)); (case hp => exact (Reps.none _ _)); intro v297 w13 ho14 hb hg_ hnew_; clear hg_ hnew_; (first | rw [← Ny296.out] at ho14 | (simp only [Int.reduceToNat] at ho14; rw [← Ny296.out] at ho14)); have HO298 := Aside0.mk (Kd.R_lower ho14 (below_size bw)); replace BK293 := Aside0.mk (blk_below (g := gb293) (o := .cells #[.slice A0_0 l0_0.length c0_0] 27 (0, 0)) (bo BK293.out) hb); replace HB := Aside0.mk (below_step bw hb); clear hb ho14))
    go_ret
    exact ⟨_, re, ro HO298.out, bw⟩
   ·replace H := ga H; obtain ⟨t299, A15, H⟩ := H
    replace H := gp H; obtain ⟨c16, H⟩ := H
    have c16b0 : decide (0 < (t299.length : Int)) = true := decide_eq_true c16
    have c16b1 : decide (0 < t299.length) = true := decide_eq_true (by omega)
    clear c16
    obtain ⟨y303, hy303⟩ : ∃ y_ : List Int, y_ = (([] : List Int)) := ⟨_, rfl⟩
    replace H : (spec_DualGens.l0 kj2 l1 (rd t299 0) y303 (wrap64 (-(rd t299 0))) l0_0) = some r := by first | (rw [hy303]; with_reducible exact H) | (have H2_ := (Option.bind_some _ _).symm.trans H; rw [hy303]; with_reducible exact H2_) | (have H2_ := (Option.bind_some _ _).symm.trans H; with_reducible exact H2_) | with_reducible exact H | (rw [hy303]; exact H) | exact H
    have Ny303 := Aside0.mk hy303
    clear hy303
    have H' := Aside0.mk H
    clear H
    go_wp2_with (first | ((with_reducible refine gate_callee (f := 57) rfl ?_); refine gl (some 18) Try.func57 #[.slice A1 l1.length c1] ?_; (with_reducible refine (spec_SortList.calls kj2 _ _ l1 t299 _ ?side1 ?side2 A15.out).mono ?_); (case side1 => exact co (Kd.C_below HR1.out HB.out)); (case side2 => exact HC1.out); rintro e w17 ⟨v300, rfl, ho0, hb⟩; refine ⟨_, rfl, ?_⟩; have HO301 := Aside0.mk (Kd.R_lower ho0 (below_size bw)); replace BK293 := Aside0.mk (blk_below (g := gb293) (o := .cells #[.slice A0_0 l0_0.length c0_0] 27 (0, 0)) (bo BK293.out) hb); replace HB := Aside0.mk (below_step bw hb); clear hb ho0; obtain ⟨Ao18, co18, eo18⟩ := Kd.R_slice HO301.out; subst eo18; have p302 : 0 ≤ (0 : Int) := (by omega); have q302 : 0 < (t299.length : Int) := of_decide_eq_true (by first | (with_reducible assumption) | assumption); obtain ⟨ad302, e302, hx302_0⟩ := Kd.at_int (Kd.R_reads' HO301.out).2.2 0 p302 q302; cases e302; have qi302 : (0 < t299.length) = True := eq_true (by omega); (try rw [show ((0 : Int)).toNat = 0 from rfl] at hx302_0); (try rw [Addr.add_zero'] at hx302_0); replace p302 := eq_true p302; replace q302 := eq_true q302) | ((with_reducible refine gate_dst (N := 21) rfl ?_); refine Kd.R_lit (Kd.int .i64) _ 3 ?hg (N := 21) ?hd (xs := ([] : List Int)) (inner := []) (ok := fun _ => True) (okp := fun _ => True) ?hr ?hp (fun _ hk => hk) trivial (Below.refl _ _) (Nat.le_refl _) (by simp) ?_; (case hd => rfl); (case hg => rfl); (case hr => first | (go_simp; done) | (go_simp; rfl)); (case hp => exact (Reps.none _ _)); intro v304 w19 ho20 hb hg_ hnew_; clear hg_ hnew_; (first | rw [← Ny303.out] at ho20 | (simp only [Int.reduceToNat] at ho20; rw [← Ny303.out] at ho20)); have HO305 := Aside0.mk (Kd.R_lower (Kd.R_new' ho20 (Kd.R_lt (ro HO301.out))) (below_size bw)); replace HO301 := Aside0.mk (Kd.R_elder' (ro HO301.out) (Kd.R_base ho20) hb); replace BK293 := Aside0.mk (blk_below (g := gb293) (o := .cells #[.slice A0_0 l0_0.length c0_0] 27 (0, 0)) (bo BK293.out) hb); replace HB := Aside0.mk (below_step bw hb); clear hb ho20))
    go_loopg [6, 7] kj2 (fun kq v6 v7 w' => ∃ (x6_2 : List Int) (x7_2 : Int), v7 = .int .i64 x7_2 ∧ Aside0 (spec_DualGens.l0 kq l1 (rd t299 0) x6_2 x7_2 l0_0 = some r) ∧ Aside0 (kq ≤ kj2) ∧ Aside0 (Kd.R (Kd.int .i64) 3 w' w.heap.size (fun _ => True) v6 x6_2) ∧ Aside0 (w'.heap[gb293]? = some (.cells #[(.slice A0_0 l0_0.length c0_0)] 27 (0, 0))) ∧ Aside0 (Below w.heap.size w w'))
    case atStart => exact ⟨(y303), (wrap64 (-(rd t299 0))), rr, H', ⟨Nat.le_refl _⟩, ⟨by (with_reducible repeat (first | apply Kd.R_alloc | apply Kd.R_drewN | apply Kd.R_drew)); exact Kd.R_mono HO305.out (fun _ hk => trivial)⟩, ⟨bo BK293.out⟩, ⟨bw⟩⟩
    case round =>
     clear H'
     try clear c1; try clear c16; try clear c16b0; try clear c16b1; try clear hcz10_0; try clear hcz8_0; try clear hfz10_0; try clear hfz8_0; try clear hx302_0; try clear p302; try clear q302
     obtain ⟨x6_2, x7_2, rfl, HA, HK2, HO_6, BK293, HB⟩ := hrel
     cases gk with
     | zero => exact absurd HA.out (by simp [spec_DualGens.l0])
     | succ k2 =>
      have H := HA.out
      clear HA
      simp only [spec_DualGens.l0] at H
      replace H := ga H; obtain ⟨t306, A21, H⟩ := H
      replace H := gp H; obtain ⟨c22, H⟩ := H
      have c22b0 : decide (0 < (l0_0.length : Int)) = true := decide_eq_true c22
      have c22b1 : decide (0 < l0_0.length) = true := decide_eq_true (by omega)
      clear c22
      replace H := gi H; obtain ⟨c23b0, H⟩ | ⟨c23b0, H⟩ := H
      ·replace H := ga H; obtain ⟨t308, A24, H⟩ := H
       replace H := gb H; obtain ⟨rfl, H⟩ | ⟨rfl, H⟩ := H
       ·by_cases c26 : x6_2.length < 17592186044416
        rotate_left
        ·rw [if_neg c26] at H
         exact absurd H (by simp)
        rw [if_pos c26] at H
        have LMc26 := Aside0.mk c26
        clear c26
        obtain ⟨y309, hy309⟩ : ∃ y_ : List Int, y_ = (x6_2 ++ [x7_2]) := ⟨_, rfl⟩
        replace H : (spec_DualGens.l0 k2 l1 (rd t299 0) y309 (wrap64 (x7_2 + 1)) l0_0) = some r := by first | (rw [hy309]; with_reducible exact H) | (have H2_ := (Option.bind_some _ _).symm.trans H; rw [hy309]; with_reducible exact H2_) | (have H2_ := (Option.bind_some _ _).symm.trans H; with_reducible exact H2_) | with_reducible exact H | (rw [hy309]; exact H) | exact H
        have Ny309 := Aside0.mk hy309
        clear hy309
        have H' := Aside0.mk H
        clear H
        try go_wp2
        replace HO_6 := Aside0.mk (Kd.R_drew HO_6.out)
        replace BK293 := Aside0.mk (blk_drew BK293.out)
        replace HB := Aside0.mk (below_drew1 HB.out)
        have p307 : 0 ≤ (0 : Int) := (by omega)
        have q307 : 0 < (l0_0.length : Int) := of_decide_eq_true (by first | (with_reducible assumption) | assumption)
        obtain ⟨ad307, e307, hx307_0⟩ := Kd.at_int HR0_0.out 0 p307 q307
        have hw307_0 := hx307_0
        (try rw [show ((0 : Int)).toNat = 0 from rfl] at hw307_0)
        (try rw [show 0 * 1 = 0 from rfl] at hw307_0)
        (try rw [Addr.add_zero'] at hw307_0)
        cases e307
        have qi307 : (0 < l0_0.length) = True := eq_true (by omega)
        (try rw [show ((0 : Int)).toNat = 0 from rfl] at hx307_0)
        (try rw [Addr.add_zero'] at hx307_0)
        replace hx307_0 := (HB.out.cell (World.block_lt_of_cell? w _ hx307_0)).trans hx307_0
        replace p307 := eq_true p307
        replace q307 := eq_true q307
        refine start_ (n := 11) (S := fun w' => w'.cell? ⟨gb293, 0, none⟩ = some (.slice (some ad307) l0_0.length c0_0) ∧ w'.cell? ad307 = some (.int .i64 (rd l0_0 0))) (ds := []) #[Z,Z,Z,Z,Z,Z,Z,Z,Z,Z,Z] (by kernel_rfl) rfl rfl ⟨(blk_cell BK293.out 0).trans rfl, ((HB.out.cell (World.block_lt_of_cell? w _ hw307_0)).trans hw307_0)⟩ (fun hHeld => ?_); refine with_tabW spec_DualGens.tab6 spec_DualGens.bits6 (fun HT_ HW_ => ?_)
        generalize wr.drew = w27 at HO_6 BK293 HB hx307_0 hHeld ⊢
        refine pa 0 (some 24) #[Y,Z,Z,Z,Z,Z,Z,Z,Z,Z,Z] HT_ ?_
        refine pa 3 (some 27) #[Y,Z,Z,Y,Z,Z,Z,Z,Z,Z,Z] HT_ ?_
        refine pa 5 (some 29) #[Y,Z,Z,Y,Z,Y,Z,Z,Z,Z,Z] HT_ ?_
        refine take_ (i := 1) (N := some 25) (v := ?_) (a' := ?_) #[Y,Y,Z,Y,Z,Y,Z,Z,Z,Z,Z] rfl rfl (take_ofW HT_.out HW_.out (by kernel_rfl)) (fun _ _ _ h => h) (Or.inl ⟨by rfl, ?_⟩) hHeld ?_ ?_
        rotate_left
        ·rintro w' ⟨s0, s1⟩
         go_simp
         with_reducible rfl
        rotate_left
        ·simp only [Act.put, qa, qb, qc, i64_w, i32_w]
         rfl
        refine take_ (i := 6) (N := some 30) (v := ?_) (a' := ?_) #[Y,Y,Z,Y,Z,Y,Y,Z,Z,Z,Z] rfl rfl (take_ofW HT_.out HW_.out (by kernel_rfl)) (fun _ _ _ h => h) (Or.inl ⟨by rfl, ?_⟩) hHeld ?_ ?_
        rotate_left
        ·rintro w' ⟨s0, s1⟩
         go_simp
         with_reducible rfl
        rotate_left
        ·simp only [Act.put, qa, qb, qc, i64_w, i32_w]
         rfl
        refine pa 7 (some 31) #[Y,Y,Z,Y,Z,Y,Y,Y,Z,Z,Z] HT_ ?_
        refine take_ (i := 8) (N := some 32) (v := ?_) (a' := ?_) #[Y,Y,Z,Y,Z,Y,Y,Y,Y,Z,Z] rfl rfl (take_ofW HT_.out HW_.out (by kernel_rfl)) (fun _ _ _ h => h) (Or.inl ⟨by rfl, ?_⟩) hHeld ?_ ?_
        rotate_left
        ·rintro w' ⟨s0, s1⟩
         go_simp
         with_reducible rfl
        rotate_left
        ·simp only [Act.put, qa, qb, qc, i64_w, i32_w]
         rfl
        refine oa 2 (some 26) #[Y,Y,Y,Y,Z,Y,Y,Y,Y,Z,Z] HT_ (fun K hK => ?_)
        refine gm Try.func78 #[.agg #[.slice (some ad307) l0_0.length c0_0]] ?_
        with_reducible refine (spec_ConductorOf.calls k2 _ _ l0_0 t306 _ ?side1 ?side2 A21.out).mono ?_
        (case side1 => exact co (Kd.C_below HR0_0.out HB.out))
        (case side2 => exact HC0_0.out)
        rintro e w28 ⟨rfl, hb⟩
        refine ⟨_, rfl, ?_⟩
        replace HO_6 := Aside0.mk (Kd.R_below (ro HO_6.out) hb)
        replace BK293 := Aside0.mk (blk_below (g := gb293) (o := .cells #[.slice (some ad307) l0_0.length c0_0] 27 (0, 0)) (bo BK293.out) hb)
        replace HB := Aside0.mk (below_step bw hb)
        clear hb
        refine hK.out _ _ ⟨(blk_cell BK293.out 0).trans rfl, ((HB.out.cell (World.block_lt_of_cell? w _ hw307_0)).trans hw307_0)⟩ (fun hHeld => ?_)
        clear hK K
        refine norm_ (a' := ?_) ?_ ?_
        rotate_left
        ·show Act.put _ (some 26) _ = _
         simp only [Act.put, qa, qb, qc, i64_w, i32_w]
         rfl
        refine pa 4 (some 28) #[Y,Y,Y,Y,Y,Y,Y,Y,Y,Z,Z] HT_ ?_
        refine pa 9 (some 33) #[Y,Y,Y,Y,Y,Y,Y,Y,Y,Y,Z] HT_ ?_
        refine pa 10 (some 34) #[Y,Y,Y,Y,Y,Y,Y,Y,Y,Y,Y] HT_ ?_
        refine done_ (done_of HT_.out (by kernel_rfl)) ?_
        have hcz29_0 := bc BK293 0 (.slice (some ad307) l0_0.length c0_0)
        have hfz29_0 := blk_frozen BK293.out 0
        try go_wp2_with (first | ((with_reducible refine gate_callee (f := 79) rfl ?_); refine gl (some 40) Try.func79 #[.agg #[.slice (some ad307) l0_0.length c0_0], .slice A1 l1.length c1, .int .i64 x7_2] ?_; (with_reducible refine (spec_l16Dual.calls k2 _ _ l0_0 _ _ l1 x7_2 true _ ?side1 ?side2 ?side3 ?side4 A24.out).mono ?_); (case side1 => exact co (Kd.C_below HR0_0.out HB.out)); (case side2 => exact HC0_0.out); (case side3 => exact co (Kd.C_below HR1.out HB.out)); (case side4 => exact HC1.out); rintro e w30 ⟨rfl, hb⟩; refine ⟨_, rfl, ?_⟩; replace HO_6 := Aside0.mk (Kd.R_below (ro HO_6.out) hb); replace BK293 := Aside0.mk (blk_below (g := gb293) (o := .cells #[.slice (some ad307) l0_0.length c0_0] 27 (0, 0)) (bo BK293.out) hb); replace HB := Aside0.mk (below_step bw hb); clear hb) | ((with_reducible refine gate_builtin (b := .append) (xs := #[.tmp 41, .tmp 43]) rfl ?_); at_builtin; refine Kd.R_append (Kd.int .i64) (w0 := w) w.heap.size rfl (.tmp 41) (.tmp 43) 22 3 (.int .i64 0) 8 rfl Try.underlying22 info3 rfl (by decide) (by omega) u6 x6_2 x7_2 [.int .i64 x7_2] (fun _ => True) (fun _ => False) rfl rfl ?aP (fun _ hk => hk.elim) ?aF ?aO ?aB ?aS ?aL ?_; (case aP => exact rfl); (case aB => exact bw); (case aF => exact (fun _ _ => trivial)); (case aO => exact (ro HO_6.out)); (case aS => exact (below_size bw)); (case aL => have := LMc26.out; omega); intro v310 w31 ho hb hg hat; rw [← Ny309.out] at ho; replace BK293 := Aside0.mk (blk_grown (g := gb293) (o := .cells #[.slice (some ad307) l0_0.length c0_0] 27 (0, 0)) (bo BK293.out) hg (Kd.R_ne HO_6.out BK293.out (by decide))); replace HB := Aside0.mk (hb); have HO311 := Aside0.mk (ho); clear HO_6 ho hb hg hat))
        go_roundg k2
        case measure => have := HJ2.out; have := HK2.out; omega
        case rel => exact ⟨(y309), (wrap64 (x7_2 + 1)), rr, H', ⟨by have := HJ2.out; have := HK2.out; omega⟩, ⟨ro HO311.out⟩, ⟨bo BK293.out⟩, ⟨bw⟩⟩
       ·have H' := Aside0.mk H
        clear H
        try go_wp2
        replace HO_6 := Aside0.mk (Kd.R_drew HO_6.out)
        replace BK293 := Aside0.mk (blk_drew BK293.out)
        replace HB := Aside0.mk (below_drew1 HB.out)
        have p307 : 0 ≤ (0 : Int) := (by omega)
        have q307 : 0 < (l0_0.length : Int) := of_decide_eq_true (by first | (with_reducible assumption) | assumption)
        obtain ⟨ad307, e307, hx307_0⟩ := Kd.at_int HR0_0.out 0 p307 q307
        have hw307_0 := hx307_0
        (try rw [show ((0 : Int)).toNat = 0 from rfl] at hw307_0)
        (try rw [show 0 * 1 = 0 from rfl] at hw307_0)
        (try rw [Addr.add_zero'] at hw307_0)
        cases e307
        have qi307 : (0 < l0_0.length) = True := eq_true (by omega)
        (try rw [show ((0 : Int)).toNat = 0 from rfl] at hx307_0)
        (try rw [Addr.add_zero'] at hx307_0)
        replace hx307_0 := (HB.out.cell (World.block_lt_of_cell? w _ hx307_0)).trans hx307_0
        replace p307 := eq_true p307
        replace q307 := eq_true q307
        refine start_ (n := 11) (S := fun w' => w'.cell? ⟨gb293, 0, none⟩ = some (.slice (some ad307) l0_0.length c0_0) ∧ w'.cell? ad307 = some (.int .i64 (rd l0_0 0))) (ds := []) #[Z,Z,Z,Z,Z,Z,Z,Z,Z,Z,Z] (by kernel_rfl) rfl rfl ⟨(blk_cell BK293.out 0).trans rfl, ((HB.out.cell (World.block_lt_of_cell? w _ hw307_0)).trans hw307_0)⟩ (fun hHeld => ?_); refine with_tabW spec_DualGens.tab6 spec_DualGens.bits6 (fun HT_ HW_ => ?_)
        generalize wr.drew = w32 at HO_6 BK293 HB hx307_0 hHeld ⊢
        refine pa 0 (some 24) #[Y,Z,Z,Z,Z,Z,Z,Z,Z,Z,Z] HT_ ?_
        refine pa 3 (some 27) #[Y,Z,Z,Y,Z,Z,Z,Z,Z,Z,Z] HT_ ?_
        refine pa 5 (some 29) #[Y,Z,Z,Y,Z,Y,Z,Z,Z,Z,Z] HT_ ?_
        refine take_ (i := 1) (N := some 25) (v := ?_) (a' := ?_) #[Y,Y,Z,Y,Z,Y,Z,Z,Z,Z,Z] rfl rfl (take_ofW HT_.out HW_.out (by kernel_rfl)) (fun _ _ _ h => h) (Or.inl ⟨by rfl, ?_⟩) hHeld ?_ ?_
        rotate_left
        ·rintro w' ⟨s0, s1⟩
         go_simp
         with_reducible rfl
        rotate_left
        ·simp only [Act.put, qa, qb, qc, i64_w, i32_w]
         rfl
        refine take_ (i := 6) (N := some 30) (v := ?_) (a' := ?_) #[Y,Y,Z,Y,Z,Y,Y,Z,Z,Z,Z] rfl rfl (take_ofW HT_.out HW_.out (by kernel_rfl)) (fun _ _ _ h => h) (Or.inl ⟨by rfl, ?_⟩) hHeld ?_ ?_
        rotate_left
        ·rintro w' ⟨s0, s1⟩
         go_simp
         with_reducible rfl
        rotate_left
        ·simp only [Act.put, qa, qb, qc, i64_w, i32_w]
         rfl
        refine pa 7 (some 31) #[Y,Y,Z,Y,Z,Y,Y,Y,Z,Z,Z] HT_ ?_
        refine take_ (i := 8) (N := some 32) (v := ?_) (a' := ?_) #[Y,Y,Z,Y,Z,Y,Y,Y,Y,Z,Z] rfl rfl (take_ofW HT_.out HW_.out (by kernel_rfl)) (fun _ _ _ h => h) (Or.inl ⟨by rfl, ?_⟩) hHeld ?_ ?_
        rotate_left
        ·rintro w' ⟨s0, s1⟩
         go_simp
         with_reducible rfl
        rotate_left
        ·simp only [Act.put, qa, qb, qc, i64_w, i32_w]
         rfl
        refine oa 2 (some 26) #[Y,Y,Y,Y,Z,Y,Y,Y,Y,Z,Z] HT_ (fun K hK => ?_)
        refine gm Try.func78 #[.agg #[.slice (some ad307) l0_0.length c0_0]] ?_
        with_reducible refine (spec_ConductorOf.calls k2 _ _ l0_0 t306 _ ?side1 ?side2 A21.out).mono ?_
        (case side1 => exact co (Kd.C_below HR0_0.out HB.out))
        (case side2 => exact HC0_0.out)
        rintro e w33 ⟨rfl, hb⟩
        refine ⟨_, rfl, ?_⟩
        replace HO_6 := Aside0.mk (Kd.R_below (ro HO_6.out) hb)
        replace BK293 := Aside0.mk (blk_below (g := gb293) (o := .cells #[.slice (some ad307) l0_0.length c0_0] 27 (0, 0)) (bo BK293.out) hb)
        replace HB := Aside0.mk (below_step bw hb)
        clear hb
        refine hK.out _ _ ⟨(blk_cell BK293.out 0).trans rfl, ((HB.out.cell (World.block_lt_of_cell? w _ hw307_0)).trans hw307_0)⟩ (fun hHeld => ?_)
        clear hK K
        refine norm_ (a' := ?_) ?_ ?_
        rotate_left
        ·show Act.put _ (some 26) _ = _
         simp only [Act.put, qa, qb, qc, i64_w, i32_w]
         rfl
        refine pa 4 (some 28) #[Y,Y,Y,Y,Y,Y,Y,Y,Y,Z,Z] HT_ ?_
        refine pa 9 (some 33) #[Y,Y,Y,Y,Y,Y,Y,Y,Y,Y,Z] HT_ ?_
        refine pa 10 (some 34) #[Y,Y,Y,Y,Y,Y,Y,Y,Y,Y,Y] HT_ ?_
        refine done_ (done_of HT_.out (by kernel_rfl)) ?_
        have hcz34_0 := bc BK293 0 (.slice (some ad307) l0_0.length c0_0)
        have hfz34_0 := blk_frozen BK293.out 0
        try go_wp2_with (first | ((with_reducible refine gate_callee (f := 79) rfl ?_); refine gl (some 40) Try.func79 #[.agg #[.slice (some ad307) l0_0.length c0_0], .slice A1 l1.length c1, .int .i64 x7_2] ?_; (with_reducible refine (spec_l16Dual.calls k2 _ _ l0_0 _ _ l1 x7_2 false _ ?side1 ?side2 ?side3 ?side4 A24.out).mono ?_); (case side1 => exact co (Kd.C_below HR0_0.out HB.out)); (case side2 => exact HC0_0.out); (case side3 => exact co (Kd.C_below HR1.out HB.out)); (case side4 => exact HC1.out); rintro e w35 ⟨rfl, hb⟩; refine ⟨_, rfl, ?_⟩; replace HO_6 := Aside0.mk (Kd.R_below (ro HO_6.out) hb); replace BK293 := Aside0.mk (blk_below (g := gb293) (o := .cells #[.slice (some ad307) l0_0.length c0_0] 27 (0, 0)) (bo BK293.out) hb); replace HB := Aside0.mk (below_step bw hb); clear hb))
        go_roundg k2
        case measure => have := HJ2.out; have := HK2.out; omega
        case rel => exact ⟨(x6_2), (wrap64 (x7_2 + 1)), rr, H', ⟨by have := HJ2.out; have := HK2.out; omega⟩, ⟨ro HO_6.out⟩, ⟨bo BK293.out⟩, ⟨bw⟩⟩
      ·replace H := ga H; obtain ⟨t312, A36, H⟩ := H
       obtain rfl := Option.some.inj H
       try go_wp2
       replace HO_6 := Aside0.mk (Kd.R_drew HO_6.out)
       replace BK293 := Aside0.mk (blk_drew BK293.out)
       replace HB := Aside0.mk (below_drew1 HB.out)
       have p307 : 0 ≤ (0 : Int) := (by omega)
       have q307 : 0 < (l0_0.length : Int) := of_decide_eq_true (by first | (with_reducible assumption) | assumption)
       obtain ⟨ad307, e307, hx307_0⟩ := Kd.at_int HR0_0.out 0 p307 q307
       have hw307_0 := hx307_0
       (try rw [show ((0 : Int)).toNat = 0 from rfl] at hw307_0)
       (try rw [show 0 * 1 = 0 from rfl] at hw307_0)
       (try rw [Addr.add_zero'] at hw307_0)
       cases e307
       have qi307 : (0 < l0_0.length) = True := eq_true (by omega)
       (try rw [show ((0 : Int)).toNat = 0 from rfl] at hx307_0)
       (try rw [Addr.add_zero'] at hx307_0)
       replace hx307_0 := (HB.out.cell (World.block_lt_of_cell? w _ hx307_0)).trans hx307_0
       replace p307 := eq_true p307
       replace q307 := eq_true q307
       refine start_ (n := 11) (S := fun w' => w'.cell? ⟨gb293, 0, none⟩ = some (.slice (some ad307) l0_0.length c0_0) ∧ w'.cell? ad307 = some (.int .i64 (rd l0_0 0))) (ds := []) #[Z,Z,Z,Z,Z,Z,Z,Z,Z,Z,Z] (by kernel_rfl) rfl rfl ⟨(blk_cell BK293.out 0).trans rfl, ((HB.out.cell (World.block_lt_of_cell? w _ hw307_0)).trans hw307_0)⟩ (fun hHeld => ?_); refine with_tabW spec_DualGens.tab6 spec_DualGens.bits6 (fun HT_ HW_ => ?_)
       generalize wr.drew = w37 at HO_6 BK293 HB hx307_0 hHeld ⊢
       refine pa 0 (some 24) #[Y,Z,Z,Z,Z,Z,Z,Z,Z,Z,Z] HT_ ?_
       refine pa 3 (some 27) #[Y,Z,Z,Y,Z,Z,Z,Z,Z,Z,Z] HT_ ?_
       refine pa 5 (some 29) #[Y,Z,Z,Y,Z,Y,Z,Z,Z,Z,Z] HT_ ?_
       refine take_ (i := 1) (N := some 25) (v := ?_) (a' := ?_) #[Y,Y,Z,Y,Z,Y,Z,Z,Z,Z,Z] rfl rfl (take_ofW HT_.out HW_.out (by kernel_rfl)) (fun _ _ _ h => h) (Or.inl ⟨by rfl, ?_⟩) hHeld ?_ ?_
       rotate_left
       ·rintro w' ⟨s0, s1⟩
        go_simp
        with_reducible rfl
       rotate_left
       ·simp only [Act.put, qa, qb, qc, i64_w, i32_w]
        rfl
       refine take_ (i := 6) (N := some 30) (v := ?_) (a' := ?_) #[Y,Y,Z,Y,Z,Y,Y,Z,Z,Z,Z] rfl rfl (take_ofW HT_.out HW_.out (by kernel_rfl)) (fun _ _ _ h => h) (Or.inl ⟨by rfl, ?_⟩) hHeld ?_ ?_
       rotate_left
       ·rintro w' ⟨s0, s1⟩
        go_simp
        with_reducible rfl
       rotate_left
       ·simp only [Act.put, qa, qb, qc, i64_w, i32_w]
        rfl
       refine pa 7 (some 31) #[Y,Y,Z,Y,Z,Y,Y,Y,Z,Z,Z] HT_ ?_
       refine take_ (i := 8) (N := some 32) (v := ?_) (a' := ?_) #[Y,Y,Z,Y,Z,Y,Y,Y,Y,Z,Z] rfl rfl (take_ofW HT_.out HW_.out (by kernel_rfl)) (fun _ _ _ h => h) (Or.inl ⟨by rfl, ?_⟩) hHeld ?_ ?_
       rotate_left
       ·rintro w' ⟨s0, s1⟩
        go_simp
        with_reducible rfl
       rotate_left
       ·simp only [Act.put, qa, qb, qc, i64_w, i32_w]
        rfl
       refine oa 2 (some 26) #[Y,Y,Y,Y,Z,Y,Y,Y,Y,Z,Z] HT_ (fun K hK => ?_)
       refine gm Try.func78 #[.agg #[.slice (some ad307) l0_0.length c0_0]] ?_
       with_reducible refine (spec_ConductorOf.calls k2 _ _ l0_0 t306 _ ?side1 ?side2 A21.out).mono ?_
       (case side1 => exact co (Kd.C_below HR0_0.out HB.out))
       (case side2 => exact HC0_0.out)
       rintro e w38 ⟨rfl, hb⟩
       refine ⟨_, rfl, ?_⟩
       replace HO_6 := Aside0.mk (Kd.R_below (ro HO_6.out) hb)
       replace BK293 := Aside0.mk (blk_below (g := gb293) (o := .cells #[.slice (some ad307) l0_0.length c0_0] 27 (0, 0)) (bo BK293.out) hb)
       replace HB := Aside0.mk (below_step bw hb)
       clear hb
       refine hK.out _ _ ⟨(blk_cell BK293.out 0).trans rfl, ((HB.out.cell (World.block_lt_of_cell? w _ hw307_0)).trans hw307_0)⟩ (fun hHeld => ?_)
       clear hK K
       refine norm_ (a' := ?_) ?_ ?_
       rotate_left
       ·show Act.put _ (some 26) _ = _
        simp only [Act.put, qa, qb, qc, i64_w, i32_w]
        rfl
       refine pa 4 (some 28) #[Y,Y,Y,Y,Y,Y,Y,Y,Y,Z,Z] HT_ ?_
       refine pa 9 (some 33) #[Y,Y,Y,Y,Y,Y,Y,Y,Y,Y,Z] HT_ ?_
       refine pa 10 (some 34) #[Y,Y,Y,Y,Y,Y,Y,Y,Y,Y,Y] HT_ ?_
       refine done_ (done_of HT_.out (by kernel_rfl)) ?_
       have hcz39_0 := bc BK293 0 (.slice (some ad307) l0_0.length c0_0)
       have hfz39_0 := blk_frozen BK293.out 0
       obtain ⟨Ao40, co40, eo40⟩ := Kd.R_slice HO_6.out
       subst eo40
       try go_wp2_with (first | ((with_reducible refine gate_callee (f := 25) rfl ?_); refine gl (some 47) Try.func25 #[.agg #[.slice (some ad307) l0_0.length c0_0], .slice Ao40 x6_2.length co40] ?_; (with_reducible refine (spec_MinimalIn.calls k2 _ _ l0_0 _ _ x6_2 t312 _ ?side1 ?side2 ?side3 ?side4 A36.out).mono ?_); (case side1 => exact co (Kd.C_below HR0_0.out HB.out)); (case side2 => exact HC0_0.out); (case side3 => exact co (Kd.R_reads' HO_6.out).2.2); (case side4 => exact (Kd.R_reads' HO_6.out).2.1); rintro e w41 ⟨v313, rfl, ho0, hb⟩; refine ⟨_, rfl, ?_⟩; have HO314 := Aside0.mk (Kd.R_lower (Kd.R_new' ho0 (Kd.R_lt (ro HO_6.out))) (below_size bw)); replace HO_6 := Aside0.mk (Kd.R_elder' (ro HO_6.out) (Kd.R_base ho0) hb); replace BK293 := Aside0.mk (blk_below (g := gb293) (o := .cells #[.slice (some ad307) l0_0.length c0_0] 27 (0, 0)) (bo BK293.out) hb); replace HB := Aside0.mk (below_step bw hb); clear hb ho0))
       go_ret
       exact ⟨_, re, by (with_reducible repeat (first | apply Kd.R_alloc | apply Kd.R_drewN | apply Kd.R_drew)); exact Kd.R_mono HO314.out (fun _ hk => trivial), bw⟩


/-! ### impl_within: function 59 -/
def impl_within.f (a0 : Int) (a1 : Int) (a2 : Int) : Option (Bool) := if a0 ≥ a1 then (some (decide (a0 ≤ a2))) else (some false)
set_option maxHeartbeats 8000000 in
set_option maxRecDepth 100000 in
theorem impl_within.calls (a0 : Int) (a1 : Int) (a2 : Int) (r : Bool) (w : World) (h : impl_within.f a0 a1 a2 = some r) :
  Calls Try.prog 59 #[.int .i64 a0, .int .i64 a1, .int .i64 a2] w fun e w' => e = .returned (.bool r) ∧ Drawn0 w w' := by
 have H : (if a0 ≥ a1 then (some (decide (a0 ≤ a2))) else (some false)) = some r := h
 clear h
 replace H := gj H; obtain ⟨c4, H⟩ | ⟨c4, H⟩ := H
 ·have c4b0 : decide (a1 ≤ a0) = true := decide_eq_true c4
  clear c4
  obtain rfl := Option.some.inj H
  go_enter Try.func59, Try.ntmps59
  go_wp2
  go_ret
  exact ⟨rr, dw⟩
 ·have c4b0 : decide (a1 ≤ a0) = false := decide_eq_false c4
  clear c4
  obtain rfl := Option.some.inj H
  go_enter Try.func59, Try.ntmps59
  go_wp2
  go_ret
  exact ⟨rr, dw⟩


/-! ### impl_allWithin: function 90 -/
def impl_allWithin.l0 : Nat → Int → Int → List Int → Int → Int → Option (Bool)
 | 0, _, _, _, _, _ => none
 | k + 1, x1, x2, x9, x10, x11 => if x11 < x10 then (if 0 ≤ x11 then (if x11 < (x9.length : Int) then ((impl_within.f (rd x9 x11) x1 x2).bind fun t316 => (if t316 = true then (impl_allWithin.l0 k x1 x2 x9 x10 (wrap64 (x11 + 1))) else (some false))) else (none)) else (none)) else (some true)
def impl_allWithin.f (k : Nat) (l0 : List Int) (a1 : Int) (a2 : Int) : Option (Bool) := impl_allWithin.l0 k a1 a2 l0 (l0.length : Int) 0
set_option maxHeartbeats 8000000 in
set_option maxRecDepth 100000 in
theorem impl_allWithin.calls (k : Nat) (A0 : Option Addr) (c0 : Nat) (l0 : List Int) (a1 : Int) (a2 : Int) (r : Bool) (w : World) (hr0 : Kd.C (Kd.int .i64) w A0 l0.length l0) (hc0 : l0.length ≤ c0) (h : impl_allWithin.f k l0 a1 a2 = some r) :
  Calls Try.prog 90 #[.slice A0 l0.length c0, .int .i64 a1, .int .i64 a2] w fun e w' => e = .returned (.bool r) ∧ Drawn0 w w' := by
 have HR0 := Aside0.mk hr0
 have HC0 := Aside0.mk hc0
 clear hr0 hc0
 have H : (impl_allWithin.l0 k a1 a2 l0 (l0.length : Int) 0) = some r := h
 clear h
 have H' := Aside0.mk H
 clear H
 go_enter Try.func90, Try.ntmps90
 go_wp2
 go_loopg [11] k (fun kq v11 w' => ∃ (x11_1 : Int), v11 = .int .i64 x11_1 ∧ Aside0 (impl_allWithin.l0 kq a1 a2 l0 (l0.length : Int) x11_1 = some r) ∧ Aside0 (kq ≤ k) ∧ Drawn0 w w')
 case atStart => exact ⟨(0), rr, H', ⟨Nat.le_refl _⟩, dw⟩
 case round =>
  clear H'
  obtain ⟨x11_1, rfl, HA, HK1, ⟨m1, rfl⟩⟩ := hrel
  cases gk with
  | zero => exact absurd HA.out (by simp [impl_allWithin.l0])
  | succ k1 =>
   have H := HA.out
   clear HA
   simp only [impl_allWithin.l0] at H
   replace H := gi H; obtain ⟨c4b0, H⟩ | ⟨c4b0, H⟩ := H
   ·replace H := gd H; obtain ⟨c5b0, H⟩ := H
    replace H := gd H; obtain ⟨c6b0, H⟩ := H
    replace H := ga H; obtain ⟨t316, A7, H⟩ := H
    replace H := gb H; obtain ⟨rfl, H⟩ | ⟨rfl, H⟩ := H
    ·have H' := Aside0.mk H
     clear H
     obtain ⟨⟨ad315, e315, hx315_0⟩, p315, q315⟩ := pq (Kd.at_int HR0.out x11_1)
     cases e315
     go_wp2_with (first | ((with_reducible refine gate_callee (f := 59) rfl ?_); refine gl (some 18) Try.func59 #[.int .i64 (rd l0 x11_1), .int .i64 a1, .int .i64 a2] ?_; (with_reducible refine (impl_within.calls (rd l0 x11_1) a1 a2 true _ A7.out).mono ?_); rintro e w' ⟨rfl, ⟨nd, rfl⟩⟩; refine ⟨_, rfl, ?_⟩))
     go_roundg k1
     case measure => have := HK1.out; omega
     case rel => exact ⟨(wrap64 (x11_1 + 1)), rr, H', ⟨by have := HK1.out; omega⟩, dw⟩
    ·obtain rfl := Option.some.inj H
     obtain ⟨⟨ad315, e315, hx315_0⟩, p315, q315⟩ := pq (Kd.at_int HR0.out x11_1)
     cases e315
     go_wp2_with (first | ((with_reducible refine gate_callee (f := 59) rfl ?_); refine gl (some 18) Try.func59 #[.int .i64 (rd l0 x11_1), .int .i64 a1, .int .i64 a2] ?_; (with_reducible refine (impl_within.calls (rd l0 x11_1) a1 a2 false _ A7.out).mono ?_); rintro e w' ⟨rfl, ⟨nd, rfl⟩⟩; refine ⟨_, rfl, ?_⟩))
     go_ret
     exact ⟨rr, dw⟩
   ·obtain rfl := Option.some.inj H
    go_wp2
    go_ret
    exact ⟨rr, dw⟩


/-! ### impl_IsAscending: function 92 -/
def impl_IsAscending.l0 : Nat → List Int → Int → Option (Bool)
 | 0, _, _ => none
 | k + 1, x0, x3 => if x3 < (x0.length : Int) then (if 0 ≤ x3 then (if 0 ≤ (wrap64 (x3 - 1)) then (if (wrap64 (x3 - 1)) < (x0.length : Int) then (if (rd x0 x3) ≤ (rd x0 (wrap64 (x3 - 1))) then (some false) else (impl_IsAscending.l0 k x0 (wrap64 (x3 + 1)))) else (none)) else (none)) else (none)) else (some true)
def impl_IsAscending.f (k : Nat) (l0 : List Int) : Option (Bool) := impl_IsAscending.l0 k l0 1
set_option maxHeartbeats 8000000 in
set_option maxRecDepth 100000 in
theorem impl_IsAscending.calls (k : Nat) (A0 : Option Addr) (c0 : Nat) (l0 : List Int) (r : Bool) (w : World) (hr0 : Kd.C (Kd.int .i64) w A0 l0.length l0) (hc0 : l0.length ≤ c0) (h : impl_IsAscending.f k l0 = some r) :
  Calls Try.prog 92 #[.slice A0 l0.length c0] w fun e w' => e = .returned (.bool r) ∧ Drawn0 w w' := by
 have HR0 := Aside0.mk hr0
 have HC0 := Aside0.mk hc0
 clear hr0 hc0
 have H : (impl_IsAscending.l0 k l0 1) = some r := h
 clear h
 have H' := Aside0.mk H
 clear H
 go_enter Try.func92, Try.ntmps92
 go_wp2
 repeat (go_quiet (fail); try go_wp2)
 go_loopg [3] k (fun kq v3 w' => ∃ (x3_1 : Int), v3 = .int .i64 x3_1 ∧ Aside0 (impl_IsAscending.l0 kq l0 x3_1 = some r) ∧ Aside0 (kq ≤ k) ∧ Drawn0 w w')
 case atStart => exact ⟨(1), rr, H', ⟨Nat.le_refl _⟩, dw⟩
 case round =>
  clear H'
  obtain ⟨x3_1, rfl, HA, HK1, ⟨m1, rfl⟩⟩ := hrel
  cases gk with
  | zero => exact absurd HA.out (by simp [impl_IsAscending.l0])
  | succ k1 =>
   have H := HA.out
   clear HA
   simp only [impl_IsAscending.l0] at H
   replace H := gi H; obtain ⟨c2b0, H⟩ | ⟨c2b0, H⟩ := H
   ·replace H := gd H; obtain ⟨c3b0, H⟩ := H
    obtain ⟨ji4, hji4⟩ : ∃ j_ : Int, (wrap64 (x3_1 - 1)) = j_ := ⟨_, rfl⟩
    replace H : (if 0 ≤ (ji4) then (if (ji4) < (l0.length : Int) then (if (rd l0 x3_1) ≤ (rd l0 (ji4)) then (some false) else (impl_IsAscending.l0 k1 l0 (wrap64 (x3_1 + 1)))) else (none)) else (none)) = some r := by first | (rw [hji4] at H; exact H) | (simp only [hji4] at H ⊢; exact H)
    have hji4w : (IntKind.i64.wrap (x3_1 - 1)) = ji4 := (i64_w _).trans hji4
    replace H := gd H; obtain ⟨c5b0, H⟩ := H
    replace H := gd H; obtain ⟨c6b0, H⟩ := H
    replace H := gi H; obtain ⟨c7b0, H⟩ | ⟨c7b0, H⟩ := H
    ·obtain rfl := Option.some.inj H
     obtain ⟨⟨ad317, e317, hx317_0⟩, p317, q317⟩ := pq (Kd.at_int HR0.out x3_1)
     cases e317
     obtain ⟨⟨ad318, e318, hx318_0⟩, p318, q318⟩ := pq (Kd.at_int HR0.out (ji4))
     obtain rfl : ad317 = ad318 := (by injection e318)
     go_wp2
     repeat (go_quiet (fail); try go_wp2)
     go_ret
     exact ⟨by first | rfl | (simp; done) | (simp only [← hji4] <;> (first | rfl | simp)) | (simp [*]; done), dw⟩
    ·have H' := Aside0.mk H
     clear H
     obtain ⟨⟨ad317, e317, hx317_0⟩, p317, q317⟩ := pq (Kd.at_int HR0.out x3_1)
     cases e317
     obtain ⟨⟨ad318, e318, hx318_0⟩, p318, q318⟩ := pq (Kd.at_int HR0.out (ji4))
     obtain rfl : ad317 = ad318 := (by injection e318)
     go_wp2
     repeat (go_quiet (fail); try go_wp2)
     go_roundg k1
     case measure => have := HK1.out; omega
     case rel => exact ⟨(wrap64 (x3_1 + 1)), rr, H', ⟨by have := HK1.out; omega⟩, dw⟩
   ·obtain rfl := Option.some.inj H
    go_wp2
    repeat (go_quiet (fail); try go_wp2)
    go_ret
    exact ⟨rr, dw⟩


/-! ### impl_GcdOf: function 101 -/
def impl_GcdOf.l0 : Nat → Int → Int → Option (Int)
 | 0, _, _ => none
 | k + 1, x0, x1 => if x0 = 0 then (some x1) else (impl_GcdOf.l0 k (Int.tmod x1 x0) x0)
def impl_GcdOf.f (k : Nat) (a0 : Int) (a1 : Int) : Option (Int) := (impl_allWithin.f k (([a0, a1] : List Int)) (-1000000) 1000000).bind fun t322 => (if t322 = true then (impl_GcdOf.l0 k (mx a0 (wrap64 (-a0))) (mx a1 (wrap64 (-a1)))) else (some 0))
set_option maxHeartbeats 8000000 in
set_option maxRecDepth 100000 in
theorem impl_GcdOf.calls (k : Nat) (a0 : Int) (a1 : Int) (r : Int) (w : World) (h : impl_GcdOf.f k a0 a1 = some r) :
  Calls Try.prog 101 #[.int .i64 a0, .int .i64 a1] w fun e w' => e = .returned (.int .i64 r) ∧ Below w.heap.size w w' := by
 have HB := Aside0.mk (Below.refl w.heap.size w)
 have H : ((impl_allWithin.f k (([a0, a1] : List Int)) (-1000000) 1000000).bind fun t322 => (if t322 = true then (impl_GcdOf.l0 k (mx a0 (wrap64 (-a0))) (mx a1 (wrap64 (-a1)))) else (some 0))) = some r := h
 clear h
 obtain ⟨y319, hy319⟩ : ∃ y_ : List Int, y_ = (([a0, a1] : List Int)) := ⟨_, rfl⟩
 replace H : ((impl_allWithin.f k y319 (-1000000) 1000000).bind fun t322 => (if t322 = true then (impl_GcdOf.l0 k (mx a0 (wrap64 (-a0))) (mx a1 (wrap64 (-a1)))) else (some 0))) = some r := by first | (rw [hy319]; with_reducible exact H) | (have H2_ := (Option.bind_some _ _).symm.trans H; rw [hy319]; with_reducible exact H2_) | (have H2_ := (Option.bind_some _ _).symm.trans H; with_reducible exact H2_) | with_reducible exact H | (rw [hy319]; exact H) | exact H
 have Ny319 := Aside0.mk hy319
 clear hy319
 replace H := ga H; obtain ⟨t322, A3, H⟩ := H
 replace H := gb H; obtain ⟨rfl, H⟩ | ⟨rfl, H⟩ := H
 ·obtain ⟨ji5, hji5⟩ : ∃ j_ : Int, (mx a0 (wrap64 (-a0))) = j_ := ⟨_, rfl⟩
  replace H : (impl_GcdOf.l0 k ji5 (mx a1 (wrap64 (-a1)))) = some r := by first | (rw [hji5] at H; exact H) | (simp only [hji5] at H ⊢; exact H)
  (try rw [hji5] at A3)
  have hji5_ : (if a0 < (wrap64 (-a0)) then (wrap64 (-a0)) else a0) = ji5 := hji5
  obtain ⟨ji6, hji6⟩ : ∃ j_ : Int, (mx a1 (wrap64 (-a1))) = j_ := ⟨_, rfl⟩
  replace H : (impl_GcdOf.l0 k ji5 ji6) = some r := by first | (rw [hji6] at H; exact H) | (simp only [hji6] at H ⊢; exact H)
  (try rw [hji6] at A3)
  have hji6_ : (if a1 < (wrap64 (-a1)) then (wrap64 (-a1)) else a1) = ji6 := hji6
  have H' := Aside0.mk H
  clear H
  go_enter Try.func101, Try.ntmps101
  go_wp2_with (first | ((with_reducible refine gate_dst (N := 7) rfl ?_); refine Kd.R_lit (Kd.int .i64) _ 3 ?hg (N := 7) ?hd (xs := ([a0, a1] : List Int)) (inner := [.int .i64 a0, .int .i64 a1]) (ok := fun _ => True) (okp := fun _ => True) ?hr ?hp (fun _ hk => hk) trivial (Below.refl _ _) (Nat.le_refl _) (by simp) ?_; (case hd => rfl); (case hg => rfl); (case hr => first | (go_simp; done) | (go_simp; rfl)); (case hp => exact (Reps.one (show Kd.M (Kd.int .i64) _ _ _ a0 [.int .i64 a0] from rfl) (Reps.one (show Kd.M (Kd.int .i64) _ _ _ a1 [.int .i64 a1] from rfl) (Reps.none _ _)))); intro v320 w7 ho8 hb hg_ hnew_; clear hg_ hnew_; (first | rw [← Ny319.out] at ho8 | (simp only [Int.reduceToNat] at ho8; rw [← Ny319.out] at ho8)); have HO321 := Aside0.mk (Kd.R_lower ho8 (below_size bw)); replace HB := Aside0.mk (below_step bw hb); clear hb ho8; obtain ⟨Ao9, co9, eo9⟩ := Kd.R_slice HO321.out; subst eo9) | ((with_reducible refine gate_callee (f := 90) rfl ?_); refine gl (some 8) Try.func90 #[.slice Ao9 y319.length co9, .int .i64 (-1000000), .int .i64 1000000] ?_; (with_reducible refine (impl_allWithin.calls k _ _ y319 (-1000000) 1000000 true _ ?side1 ?side2 A3.out).mono ?_); (case side1 => exact co (Kd.R_reads' HO321.out).2.2); (case side2 => exact (Kd.R_reads' HO321.out).2.1); rintro e w' ⟨rfl, ⟨nd, rfl⟩⟩; refine ⟨_, rfl, ?_⟩))
  go_loopg [0, 1] k (fun kq v0 v1 w' => ∃ (x0_1 : Int) (x1_1 : Int), v0 = .int .i64 x0_1 ∧ v1 = .int .i64 x1_1 ∧ Aside0 (impl_GcdOf.l0 kq x0_1 x1_1 = some r) ∧ Aside0 (kq ≤ k) ∧ Aside0 (Below w.heap.size w w'))
  case atStart => exact ⟨(ji5), (ji6), (by first | rfl | (simp; done) | (simp only [← hji5] <;> (first | rfl | simp)) | (simp [*]; done)), (by first | rfl | (simp; done) | (simp only [← hji6] <;> (first | rfl | simp)) | (simp [*]; done)), H', ⟨Nat.le_refl _⟩, ⟨bw⟩⟩
  case round =>
   clear H'
   obtain ⟨x0_1, x1_1, rfl, rfl, HA, HK1, HB⟩ := hrel
   cases gk with
   | zero => exact absurd HA.out (by simp [impl_GcdOf.l0])
   | succ k1 =>
    have H := HA.out
    clear HA
    simp only [impl_GcdOf.l0] at H
    by_cases c10 : x0_1 = 0
    ·rw [if_pos c10] at H
     have c10b0 : (x0_1 == 0) = true := beq_iff_eq.mpr c10
     have c10b1 : (x0_1 != 0) = false := bne_eq_false_iff_eq.mpr c10
     clear c10
     obtain rfl := Option.some.inj H
     go_wp2
     go_ret
     exact ⟨by first | rfl | (simp [errW_none, errW_some] <;> rfl) | (simp only [← hji5, ← hji6]; first | rfl | (simp [errW_none, errW_some] <;> rfl)) | (simp [*, errW_none, errW_some] <;> rfl), bw⟩
    ·rw [if_neg c10] at H
     have c10b0 : (x0_1 == 0) = false := beq_eq_false_iff_ne.mpr c10
     have c10b1 : (x0_1 != 0) = true := bne_iff_ne.mpr c10
     have H' := Aside0.mk H
     clear H
     go_wp2
     go_roundg k1
     case measure => have := HK1.out; omega
     case rel => exact ⟨(Int.tmod x1_1 x0_1), (x0_1), rr, rr, H', ⟨by have := HK1.out; omega⟩, ⟨bw⟩⟩
 ·obtain rfl := Option.some.inj H
  go_enter Try.func101, Try.ntmps101
  go_wp2_with (first | ((with_reducible refine gate_dst (N := 7) rfl ?_); refine Kd.R_lit (Kd.int .i64) _ 3 ?hg (N := 7) ?hd (xs := ([a0, a1] : List Int)) (inner := [.int .i64 a0, .int .i64 a1]) (ok := fun _ => True) (okp := fun _ => True) ?hr ?hp (fun _ hk => hk) trivial (Below.refl _ _) (Nat.le_refl _) (by simp) ?_; (case hd => rfl); (case hg => rfl); (case hr => first | (go_simp; done) | (go_simp; rfl)); (case hp => exact (Reps.one (show Kd.M (Kd.int .i64) _ _ _ a0 [.int .i64 a0] from rfl) (Reps.one (show Kd.M (Kd.int .i64) _ _ _ a1 [.int .i64 a1] from rfl) (Reps.none _ _)))); intro v320 w11 ho12 hb hg_ hnew_; clear hg_ hnew_; (first | rw [← Ny319.out] at ho12 | (simp only [Int.reduceToNat] at ho12; rw [← Ny319.out] at ho12)); have HO321 := Aside0.mk (Kd.R_lower ho12 (below_size bw)); replace HB := Aside0.mk (below_step bw hb); clear hb ho12; obtain ⟨Ao13, co13, eo13⟩ := Kd.R_slice HO321.out; subst eo13) | ((with_reducible refine gate_callee (f := 90) rfl ?_); refine gl (some 8) Try.func90 #[.slice Ao13 y319.length co13, .int .i64 (-1000000), .int .i64 1000000] ?_; (with_reducible refine (impl_allWithin.calls k _ _ y319 (-1000000) 1000000 false _ ?side1 ?side2 A3.out).mono ?_); (case side1 => exact co (Kd.R_reads' HO321.out).2.2); (case side2 => exact (Kd.R_reads' HO321.out).2.1); rintro e w' ⟨rfl, ⟨nd, rfl⟩⟩; refine ⟨_, rfl, ?_⟩))
  go_ret
  exact ⟨re, bw⟩


/-! ### impl_GcdOfList: function 93 -/
def impl_GcdOfList.l0 : Nat → Int → List Int → Int → Int → Option (Int)
 | 0, _, _, _, _ => none
 | k + 1, x3, x6, x7, x8 => if x8 < x7 then (if 0 ≤ x8 then (if x8 < (x6.length : Int) then ((impl_GcdOf.f k x3 (rd x6 x8)).bind fun t324 => (impl_GcdOfList.l0 k t324 x6 x7 (wrap64 (x8 + 1)))) else (none)) else (none)) else (some x3)
def impl_GcdOfList.f (k : Nat) (l0 : List Int) : Option (Int) := impl_GcdOfList.l0 k 0 l0 (l0.length : Int) 0
set_option maxHeartbeats 8000000 in
set_option maxRecDepth 100000 in
theorem impl_GcdOfList.calls (k : Nat) (A0 : Option Addr) (c0 : Nat) (l0 : List Int) (r : Int) (w : World) (hr0 : Kd.C (Kd.int .i64) w A0 l0.length l0) (hc0 : l0.length ≤ c0) (h : impl_GcdOfList.f k l0 = some r) :
  Calls Try.prog 93 #[.slice A0 l0.length c0] w fun e w' => e = .returned (.int .i64 r) ∧ Below w.heap.size w w' := by
 have HR0 := Aside0.mk hr0
 have HC0 := Aside0.mk hc0
 clear hr0 hc0
 have HB := Aside0.mk (Below.refl w.heap.size w)
 have H : (impl_GcdOfList.l0 k 0 l0 (l0.length : Int) 0) = some r := h
 clear h
 have H' := Aside0.mk H
 clear H
 go_enter Try.func93, Try.ntmps93
 go_wp2
 go_loopg [3, 8] k (fun kq v3 v8 w' => ∃ (x3_1 : Int) (x8_1 : Int), v3 = .int .i64 x3_1 ∧ v8 = .int .i64 x8_1 ∧ Aside0 (impl_GcdOfList.l0 kq x3_1 l0 (l0.length : Int) x8_1 = some r) ∧ Aside0 (kq ≤ k) ∧ Aside0 (Below w.heap.size w w'))
 case atStart => exact ⟨(0), (0), rr, rr, H', ⟨Nat.le_refl _⟩, ⟨bw⟩⟩
 case round =>
  clear H'
  obtain ⟨x3_1, x8_1, rfl, rfl, HA, HK1, HB⟩ := hrel
  cases gk with
  | zero => exact absurd HA.out (by simp [impl_GcdOfList.l0])
  | succ k1 =>
   have H := HA.out
   clear HA
   simp only [impl_GcdOfList.l0] at H
   replace H := gi H; obtain ⟨c2b0, H⟩ | ⟨c2b0, H⟩ := H
   ·replace H := gd H; obtain ⟨c3b0, H⟩ := H
    replace H := gd H; obtain ⟨c4b0, H⟩ := H
    replace H := ga H; obtain ⟨t324, A5, H⟩ := H
    have H' := Aside0.mk H
    clear H
    obtain ⟨⟨ad323, e323, hx323_0⟩, p323, q323⟩ := pq (Kd.at_int HR0.out x8_1)
    cases e323
    replace hx323_0 := (HB.out.cell (World.block_lt_of_cell? w _ hx323_0)).trans hx323_0
    go_wp2_with (first | ((with_reducible refine gate_callee (f := 101) rfl ?_); refine gl (some 14) Try.func101 #[.int .i64 x3_1, .int .i64 (rd l0 x8_1)] ?_; (with_reducible refine (impl_GcdOf.calls k1 x3_1 (rd l0 x8_1) t324 _ A5.out).mono ?_); rintro e w6 ⟨rfl, hb⟩; refine ⟨_, rfl, ?_⟩; replace HB := Aside0.mk (below_step bw hb); clear hb))
    go_roundg k1
    case measure => have := HK1.out; omega
    case rel => exact ⟨(t324), (wrap64 (x8_1 + 1)), rr, rr, H', ⟨by have := HK1.out; omega⟩, ⟨bw⟩⟩
   ·obtain rfl := Option.some.inj H
    go_wp2
    go_ret
    exact ⟨re, bw⟩


/-! ### impl_leasts: function 95 -/
mutual
def impl_leasts.l0 : Nat → List Int → Int → List Int → Int → Int → Option (List Int)
 | 0, _, _, _, _, _ => none
 | k + 1, x0, x1, x5, x16, x17 => if x17 < x16 then (if 0 ≤ x17 then (if x17 < (x5.length : Int) then (impl_leasts.l0 k x0 x1 (x5.set (x17 : Int).toNat (-1)) x16 (wrap64 (x17 + 1))) else (none)) else (none)) else (if 0 < (x5.length : Int) then (impl_leasts.l1 k x0 x1 (x5.set (0 : Int).toNat 0) true) else (none))
def impl_leasts.l1 : Nat → List Int → Int → List Int → Bool → Option (List Int)
 | 0, _, _, _, _ => none
 | k + 1, x0, x1, x5, x7 => if x7 = true then (impl_leasts.l2 k x0 x1 x5 false (x5.length : Int) 0) else (some x5)
def impl_leasts.l2 : Nat → List Int → Int → List Int → Bool → Int → Int → Option (List Int)
 | 0, _, _, _, _, _, _ => none
 | k + 1, x0, x1, x5, x7, x28, x29 => if x29 < x28 then (if 0 ≤ x29 then (if x29 < (x5.length : Int) then (if (rd x5 x29) < 0 then (impl_leasts.l2 k x0 x1 x5 x7 x28 (wrap64 (x29 + 1))) else (impl_leasts.l3 k x0 x1 x5 x7 x29 (rd x5 x29) x28 x29 x0 (x0.length : Int) 0)) else (none)) else (none)) else (impl_leasts.l1 k x0 x1 x5 x7)
def impl_leasts.l3 : Nat → List Int → Int → List Int → Bool → Int → Int → Int → Int → List Int → Int → Int → Option (List Int)
 | 0, _, _, _, _, _, _, _, _, _, _, _ => none
 | k + 1, x0, x1, x5, x7, x8, x9, x28, x29, x36, x37, x38 => if x38 < x37 then (if 0 ≤ x38 then (if x38 < (x36.length : Int) then (if x1 = 0 then (none) else (if 0 ≤ (Int.tmod (wrap64 (x8 + (rd x36 x38))) x1) then (if (Int.tmod (wrap64 (x8 + (rd x36 x38))) x1) < (x5.length : Int) then (if (rd x5 (Int.tmod (wrap64 (x8 + (rd x36 x38))) x1)) < 0 then (impl_leasts.l3 k x0 x1 (x5.set ((Int.tmod (wrap64 (x8 + (rd x36 x38))) x1) : Int).toNat (wrap64 (x9 + (rd x36 x38)))) true x8 x9 x28 x29 x36 x37 (wrap64 (x38 + 1))) else (if (wrap64 (x9 + (rd x36 x38))) < (rd x5 (Int.tmod (wrap64 (x8 + (rd x36 x38))) x1)) then (impl_leasts.l3 k x0 x1 (x5.set ((Int.tmod (wrap64 (x8 + (rd x36 x38))) x1) : Int).toNat (wrap64 (x9 + (rd x36 x38)))) true x8 x9 x28 x29 x36 x37 (wrap64 (x38 + 1))) else (impl_leasts.l3 k x0 x1 x5 x7 x8 x9 x28 x29 x36 x37 (wrap64 (x38 + 1))))) else (none)) else (none))) else (none)) else (none)) else (impl_leasts.l2 k x0 x1 x5 x7 x28 (wrap64 (x29 + 1)))
end
def impl_leasts.f (k : Nat) (l0 : List Int) (a1 : Int) : Option (List Int) := if 0 ≤ a1 then (if (a1 : Int).toNat ≤ 35184372088832 then ((some (List.replicate (a1 : Int).toNat 0 : List Int)).bind fun y325 => (impl_leasts.l0 k l0 a1 y325 (y325.length : Int) 0)) else (none)) else (none)
set_option maxHeartbeats 8000000 in
set_option maxRecDepth 100000 in
theorem impl_leasts.calls (k : Nat) (A0 : Option Addr) (c0 : Nat) (l0 : List Int) (a1 : Int) (r : List Int) (w : World) (hr0 : Kd.C (Kd.int .i64) w A0 l0.length l0) (hc0 : l0.length ≤ c0) (h : impl_leasts.f k l0 a1 = some r) :
  Calls Try.prog 95 #[.slice A0 l0.length c0, .int .i64 a1] w fun e w' => ∃ v0_ : Value, e = .returned (v0_) ∧ Kd.R (Kd.int .i64) 3 w' w.heap.size (fun _ => True) v0_ r ∧ Below w.heap.size w w' := by
 have HR0 := Aside0.mk hr0
 have HC0 := Aside0.mk hc0
 clear hr0 hc0
 have HB := Aside0.mk (Below.refl w.heap.size w)
 have H : (if 0 ≤ a1 then (if (a1 : Int).toNat ≤ 35184372088832 then ((some (List.replicate (a1 : Int).toNat 0 : List Int)).bind fun y325 => (impl_leasts.l0 k l0 a1 y325 (y325.length : Int) 0)) else (none)) else (none)) = some r := h
 clear h
 replace H := gp H; obtain ⟨c3, H⟩ := H
 have c3b0 := eq_true c3
 have c3b1 : decide (0 ≤ a1) = true := decide_eq_true c3
 clear c3
 replace H := gp H; obtain ⟨c4, H⟩ := H
 have c4b0 := eq_true c4
 have c4b1 : decide ((a1 : Int).toNat ≤ 35184372088832) = true := decide_eq_true c4
 clear c4
 obtain ⟨y325, hy325⟩ : ∃ y_ : List Int, y_ = (List.replicate (a1 : Int).toNat 0) := ⟨_, rfl⟩
 replace H : (impl_leasts.l0 k l0 a1 y325 (y325.length : Int) 0) = some r := by first | (rw [hy325]; with_reducible exact H) | (have H2_ := (Option.bind_some _ _).symm.trans H; rw [hy325]; with_reducible exact H2_) | (have H2_ := (Option.bind_some _ _).symm.trans H; with_reducible exact H2_) | with_reducible exact H | (rw [hy325]; exact H) | exact H
 have Ny325 := Aside0.mk hy325
 clear hy325
 have H' := Aside0.mk H
 clear H
 go_enter Try.func95, Try.ntmps95
 go_wp2_with (first | ((with_reducible refine gate_dst (N := 14) rfl ?_); refine Kd.R_make (Kd.int .i64) _ 3 rfl (N := 14) rfl 22 _ _ rfl a1 rfl rfl Try.underlying22 (.int .i64 0) 8 info3 rfl (by decide) (by omega) 0 (ok := fun _ => True) (okp := fun _ => True) rfl (fun _ hk => hk) trivial (of_decide_eq_true (by first | (with_reducible assumption) | assumption)) (Nat.le_trans (Nat.mul_le_mul_right _ (of_decide_eq_true (by first | (with_reducible assumption) | assumption) : a1.toNat ≤ 35184372088832)) (by omega)) (Below.refl _ _) (Nat.le_refl _) ?_; intro v326 w5 ho6 hb hg_ hnew_; clear hg_ hnew_; (first | rw [← Ny325.out] at ho6 | (simp only [Int.reduceToNat] at ho6; rw [← Ny325.out] at ho6)); have HO327 := Aside0.mk (Kd.R_lower ho6 (below_size bw)); replace HB := Aside0.mk (below_step bw hb); clear hb ho6; obtain ⟨Ao7, co7, eo7⟩ := Kd.R_slice HO327.out; subst eo7))
 go_loopg [17] k (fun kq v17 w' => ∃ (x5_1 : List Int) (x17_1 : Int), v17 = .int .i64 x17_1 ∧ Aside0 (impl_leasts.l0 kq l0 a1 x5_1 (y325.length : Int) x17_1 = some r) ∧ Aside0 (kq ≤ k) ∧ Aside0 (Kd.R (Kd.int .i64) 3 w' w.heap.size (fun _ => True) (.slice Ao7 y325.length co7) x5_1) ∧ Aside0 (Below w.heap.size w w'))
 case atStart => exact ⟨(y325), (0), rr, H', ⟨Nat.le_refl _⟩, ⟨ro HO327.out⟩, ⟨bw⟩⟩
 case round =>
  clear H'
  try clear c3; try clear c3b0; try clear c3b1; try clear c4; try clear c4b0; try clear c4b1
  obtain ⟨x5_1, x17_1, rfl, HA, HK1, HO_5, HB⟩ := hrel
  have hl5_1 := (Kd.R_reads' HO_5.out).1
  rw [hl5_1] at HO_5
  (try simp only [hl5_1])
  cases gk with
  | zero => exact absurd HA.out (by simp [impl_leasts.l0])
  | succ k1 =>
   have H := HA.out
   clear HA
   simp only [impl_leasts.l0] at H
   by_cases c8 : x17_1 < (y325.length : Int)
   ·rw [if_pos c8] at H
    have c8b0 : decide (x17_1 < (y325.length : Int)) = true := decide_eq_true c8
    (try simp only [hl5_1] at c8b0)
    clear c8
    replace H := gd H; obtain ⟨c9b0, H⟩ := H
    by_cases c10 : x17_1 < (x5_1.length : Int)
    rotate_left
    ·rw [if_neg c10] at H
     exact absurd H (by simp)
    rw [if_pos c10] at H
    have c10b0 : decide (x17_1 < (x5_1.length : Int)) = true := decide_eq_true c10
    (try simp only [hl5_1] at c10b0)
    clear c10
    obtain ⟨y328, hy328⟩ : ∃ y_ : List Int, y_ = (x5_1.set (x17_1 : Int).toNat (-1)) := ⟨_, rfl⟩
    replace H : (impl_leasts.l0 k1 l0 a1 y328 (y325.length : Int) (wrap64 (x17_1 + 1))) = some r := by first | (rw [hy328]; with_reducible exact H) | (have H2_ := (Option.bind_some _ _).symm.trans H; rw [hy328]; with_reducible exact H2_) | (have H2_ := (Option.bind_some _ _).symm.trans H; with_reducible exact H2_) | with_reducible exact H | (rw [hy328]; exact H) | exact H
    have Ny328 := Aside0.mk hy328
    clear hy328
    have H' := Aside0.mk H
    clear H
    have p11 : 0 ≤ (x17_1 : Int) := of_decide_eq_true (by first | (with_reducible assumption) | assumption)
    have q11 : (x17_1 : Int) < ((x5_1.length : Int) : Int) := of_decide_eq_true (by first | (with_reducible assumption) | assumption)
    obtain ⟨go11, co11, eo11, gb11, gl11, cl11, HG11⟩ := Kd.R_form HO_5.out (by omega)
    (first | cases eo11 | (injection eo11 with ea_ en_ ec_; (first | subst ea_ | (injection ea_ with ea_; subst ea_)); subst ec_; clear en_))
    have GB11 := Aside0.mk gb11
    have GG11 := Aside0.mk HG11
    clear gb11 gl11 HG11
    obtain ⟨hx11_0, hf11_0⟩ := Kd.R_celln 0 HO_5.out (x17_1 : Int) p11 q11
    replace p11 := eq_true p11
    replace q11 := eq_true q11
    have HP12 := Kd.R_putg HO_5.out (x17_1 : Int) (-1)
    go_wp2_with (first | ((with_reducible refine gate_store (t := 3) (p := 22) rfl ?_); refine store_event (t := 3) (p := 22) (v := ?vo_w13) (w1 := (wr.setCell ⟨go11, (x17_1 : Int).toNat, none⟩ (.int .i64 (-1)))) ?hg ?ho ?hn ?hr ?_; (case ho => rfl); (case hg => rfl); (case hn => rfl); (case hr => first | (go_simp; done) | (go_simp; rfl)); intro w13 hw; have hg : wr.grownBy w13 (some go11) := (by rw [hw]; exact HP12.2); have hp_ : Kd.R (Kd.int .i64) 3 w13 w.heap.size (fun _ => True) (.slice (some ⟨go11, 0, none⟩) x5_1.length co7) y328 := (by rw [hw, Ny328.out]; exact HP12.1); clear HP12; replace HO_5 := Aside0.mk (hp_); replace HB := Aside0.mk ((by rw [hw]; exact below_set (HB.out) GB11.out : Below w.heap.size w w13)); clear hg hw hp_))
    (try simp only [← hl5_1])
    go_roundg k1
    case measure => have := HK1.out; omega
    case rel => exact ⟨(y328), (wrap64 (x17_1 + 1)), rr, H', ⟨by have := HK1.out; omega⟩, ⟨by (try simp only [hl5_1]); (with_reducible repeat (first | apply Kd.R_alloc | apply Kd.R_drewN | apply Kd.R_drew)); exact HO_5.out⟩, ⟨bw⟩⟩
   ·rw [if_neg c8] at H
    have c8b0 : decide (x17_1 < (y325.length : Int)) = false := decide_eq_false c8
    (try simp only [hl5_1] at c8b0)
    clear c8
    by_cases c14 : 0 < (x5_1.length : Int)
    rotate_left
    ·rw [if_neg c14] at H
     exact absurd H (by simp)
    rw [if_pos c14] at H
    have c14b0 : decide (0 < (x5_1.length : Int)) = true := decide_eq_true c14
    (try simp only [hl5_1] at c14b0)
    have c14b1 : decide (0 < x5_1.length) = true := decide_eq_true (by omega)
    (try simp only [hl5_1] at c14b1)
    clear c14
    obtain ⟨y329, hy329⟩ : ∃ y_ : List Int, y_ = (x5_1.set (0 : Int).toNat 0) := ⟨_, rfl⟩
    replace H : (impl_leasts.l1 k1 l0 a1 y329 true) = some r := by first | (rw [hy329]; with_reducible exact H) | (have H2_ := (Option.bind_some _ _).symm.trans H; rw [hy329]; with_reducible exact H2_) | (have H2_ := (Option.bind_some _ _).symm.trans H; with_reducible exact H2_) | with_reducible exact H | (rw [hy329]; exact H) | exact H
    have Ny329 := Aside0.mk hy329
    clear hy329
    have H' := Aside0.mk H
    clear H
    have p15 : 0 ≤ (0 : Int) := (by omega)
    have q15 : (0 : Int) < ((x5_1.length : Int) : Int) := of_decide_eq_true (by first | (with_reducible assumption) | assumption)
    have qi15 : (0 < x5_1.length) = True := eq_true (by omega)
    obtain ⟨go15, co15, eo15, gb15, gl15, cl15, HG15⟩ := Kd.R_form HO_5.out (by omega)
    (first | cases eo15 | (injection eo15 with ea_ en_ ec_; (first | subst ea_ | (injection ea_ with ea_; subst ea_)); subst ec_; clear en_))
    have GB15 := Aside0.mk gb15
    have GG15 := Aside0.mk HG15
    clear gb15 gl15 HG15
    obtain ⟨hx15_0, hf15_0⟩ := Kd.R_celln 0 HO_5.out (0 : Int) p15 q15
    (try rw [show ((0 : Int)).toNat = 0 from rfl] at hx15_0)
    (try simp only [Nat.reduceMul, Nat.zero_mul, Nat.zero_add, Nat.reduceAdd] at hx15_0)
    (try rw [show ((0 : Int)).toNat = 0 from rfl] at hf15_0)
    (try simp only [Nat.reduceMul, Nat.zero_mul, Nat.zero_add, Nat.reduceAdd] at hf15_0)
    replace p15 := eq_true p15
    replace q15 := eq_true q15
    have HP16 := Kd.R_putg HO_5.out (0 : Int) 0
    go_wp2_with (first | ((with_reducible refine gate_store (t := 3) (p := 25) rfl ?_); refine store_event (t := 3) (p := 25) (v := ?vo_w17) (w1 := (wr.setCell ⟨go15, (0 : Int).toNat, none⟩ (.int .i64 0))) ?hg ?ho ?hn ?hr ?_; (case ho => rfl); (case hg => rfl); (case hn => rfl); (case hr => first | (go_simp; done) | (go_simp; rfl)); intro w17 hw; have hg : wr.grownBy w17 (some go15) := (by rw [hw]; exact HP16.2); have hp_ : Kd.R (Kd.int .i64) 3 w17 w.heap.size (fun _ => True) (.slice (some ⟨go15, 0, none⟩) x5_1.length co7) y329 := (by rw [hw, Ny329.out]; exact HP16.1); clear HP16; replace HO_5 := Aside0.mk (hp_); replace HB := Aside0.mk ((by rw [hw]; exact below_set (HB.out) GB15.out : Below w.heap.size w w17)); clear hg hw hp_))
    go_loopg [7] k1 (fun kq v7 w' => ∃ (x5_2 : List Int) (x7_2 : Bool), v7 = .bool x7_2 ∧ Aside0 (impl_leasts.l1 kq l0 a1 x5_2 x7_2 = some r) ∧ Aside0 (kq ≤ k1) ∧ Aside0 (Kd.R (Kd.int .i64) 3 w' w.heap.size (fun _ => True) (.slice (some ⟨go15, 0, none⟩) x5_1.length co7) x5_2) ∧ Aside0 (Below w.heap.size w w'))
    case atStart => exact ⟨(y329), (true), rr, H', ⟨Nat.le_refl _⟩, ⟨by (try simp only [hl5_1]); (with_reducible repeat (first | apply Kd.R_alloc | apply Kd.R_drewN | apply Kd.R_drew)); exact HO_5.out⟩, ⟨bw⟩⟩
    case round =>
     clear H'
     try clear c3; try clear c3b0; try clear c3b1; try clear c4; try clear c4b0; try clear c4b1; try clear c8; try clear c8b0; try clear c9b0; try clear c10; try clear c10b0; try clear p11; try clear q11; try clear c14; try clear c14b0; try clear c14b1; try clear p15; try clear q15; try clear qi15; try clear hx11_0; try clear hx15_0
     obtain ⟨x5_2, x7_2, rfl, HA, HK2, HO_5, HB⟩ := hrel
     have hl5_2 := (Kd.R_reads' HO_5.out).1
     rw [hl5_2] at HO_5
     (try simp only [hl5_2])
     cases gk with
     | zero => exact absurd HA.out (by simp [impl_leasts.l1])
     | succ k2 =>
      have H := HA.out
      clear HA
      simp only [impl_leasts.l1] at H
      replace H := gb H; obtain ⟨rfl, H⟩ | ⟨rfl, H⟩ := H
      ·have H' := Aside0.mk H
       clear H
       go_wp2
       go_loopg [7, 29] k2 (fun kq v7 v29 w' => ∃ (x5_3 : List Int) (x7_3 : Bool) (x29_3 : Int), v7 = .bool x7_3 ∧ v29 = .int .i64 x29_3 ∧ Aside0 (impl_leasts.l2 kq l0 a1 x5_3 x7_3 (x5_2.length : Int) x29_3 = some r) ∧ Aside0 (kq ≤ k2) ∧ Aside0 (Kd.R (Kd.int .i64) 3 w' w.heap.size (fun _ => True) (.slice (some ⟨go15, 0, none⟩) x5_2.length co7) x5_3) ∧ Aside0 (Below w.heap.size w w'))
       case atStart => exact ⟨(x5_2), (false), (0), rr, rr, H', ⟨Nat.le_refl _⟩, ⟨by (try simp only [hl5_1]); (try simp only [hl5_2]); (with_reducible repeat (first | apply Kd.R_alloc | apply Kd.R_drewN | apply Kd.R_drew)); exact HO_5.out⟩, ⟨bw⟩⟩
       case round =>
        clear H'
        try clear c3; try clear c3b0; try clear c3b1; try clear c4; try clear c4b0; try clear c4b1; try clear c8; try clear c8b0; try clear c9b0; try clear c10; try clear c10b0; try clear p11; try clear q11; try clear c14; try clear c14b0; try clear c14b1; try clear p15; try clear q15; try clear qi15; try clear hx11_0; try clear hx15_0
        obtain ⟨x5_3, x7_3, x29_3, rfl, rfl, HA, HK3, HO_5, HB⟩ := hrel
        have hl5_3 := (Kd.R_reads' HO_5.out).1
        rw [hl5_3] at HO_5
        (try simp only [hl5_3])
        cases gk with
        | zero => exact absurd HA.out (by simp [impl_leasts.l2])
        | succ k3 =>
         have H := HA.out
         clear HA
         simp only [impl_leasts.l2] at H
         by_cases c19 : x29_3 < (x5_2.length : Int)
         ·rw [if_pos c19] at H
          have c19b0 : decide (x29_3 < (x5_2.length : Int)) = true := decide_eq_true c19
          (try simp only [hl5_1, hl5_2, hl5_3] at c19b0)
          clear c19
          replace H := gd H; obtain ⟨c20b0, H⟩ := H
          by_cases c21 : x29_3 < (x5_3.length : Int)
          rotate_left
          ·rw [if_neg c21] at H
           exact absurd H (by simp)
          rw [if_pos c21] at H
          have c21b0 : decide (x29_3 < (x5_3.length : Int)) = true := decide_eq_true c21
          (try simp only [hl5_1, hl5_2, hl5_3] at c21b0)
          clear c21
          replace H := gi H; obtain ⟨c22b0, H⟩ | ⟨c22b0, H⟩ := H
          ·have H' := Aside0.mk H
           clear H
           obtain ⟨⟨ad330, e330, hx330_0⟩, p330, q330⟩ := pq (Kd.at_int (Kd.R_reads' HO_5.out).2.2 x29_3)
           obtain rfl : (⟨go15, 0, none⟩ : Addr) = ad330 := (by injection e330)
           (first | simp only [add_plain] at hx330_0 | simp only [add_at] at hx330_0 | simp only [Addr.add, Nat.zero_add] at hx330_0 | skip)
           go_wp2
           (try simp only [← hl5_3])
           go_roundg k3
           case measure => have := HK1.out; have := HK2.out; have := HK3.out; omega
           case rel => exact ⟨(x5_3), (x7_3), (wrap64 (x29_3 + 1)), rr, rr, H', ⟨by have := HK1.out; have := HK2.out; have := HK3.out; omega⟩, ⟨by (try simp only [hl5_1]); (try simp only [hl5_2]); (try simp only [hl5_3]); (with_reducible repeat (first | apply Kd.R_alloc | apply Kd.R_drewN | apply Kd.R_drew)); exact HO_5.out⟩, ⟨bw⟩⟩
          ·have H' := Aside0.mk H
           clear H
           obtain ⟨⟨ad330, e330, hx330_0⟩, p330, q330⟩ := pq (Kd.at_int (Kd.R_reads' HO_5.out).2.2 x29_3)
           obtain rfl : (⟨go15, 0, none⟩ : Addr) = ad330 := (by injection e330)
           (first | simp only [add_plain] at hx330_0 | simp only [add_at] at hx330_0 | simp only [Addr.add, Nat.zero_add] at hx330_0 | skip)
           go_wp2
           go_loopg [7, 38] k3 (fun kq v7 v38 w' => ∃ (x5_4 : List Int) (x7_4 : Bool) (x38_4 : Int), v7 = .bool x7_4 ∧ v38 = .int .i64 x38_4 ∧ Aside0 (impl_leasts.l3 kq l0 a1 x5_4 x7_4 x29_3 (rd x5_3 x29_3) (x5_2.length : Int) x29_3 l0 (l0.length : Int) x38_4 = some r) ∧ Aside0 (kq ≤ k3) ∧ Aside0 (Kd.R (Kd.int .i64) 3 w' w.heap.size (fun _ => True) (.slice (some ⟨go15, 0, none⟩) x5_3.length co7) x5_4) ∧ Aside0 (Below w.heap.size w w'))
           case atStart => exact ⟨(x5_3), (x7_3), (0), rr, rr, H', ⟨Nat.le_refl _⟩, ⟨by (try simp only [hl5_1]); (try simp only [hl5_2]); (try simp only [hl5_3]); (with_reducible repeat (first | apply Kd.R_alloc | apply Kd.R_drewN | apply Kd.R_drew)); exact HO_5.out⟩, ⟨bw⟩⟩
           case round =>
            clear H'
            try clear c3; try clear c3b0; try clear c3b1; try clear c4; try clear c4b0; try clear c4b1; try clear c8; try clear c8b0; try clear c9b0; try clear c10; try clear c10b0; try clear p11; try clear q11; try clear c14; try clear c14b0; try clear c14b1; try clear p15; try clear q15; try clear qi15; try clear c19; try clear c19b0; try clear c20b0; try clear c21; try clear c21b0; try clear c22b0; try clear hx11_0; try clear hx15_0; try clear hx330_0; try clear p330; try clear q330
            obtain ⟨x5_4, x7_4, x38_4, rfl, rfl, HA, HK4, HO_5, HB⟩ := hrel
            have hl5_4 := (Kd.R_reads' HO_5.out).1
            rw [hl5_4] at HO_5
            (try simp only [hl5_4])
            cases gk with
            | zero => exact absurd HA.out (by simp [impl_leasts.l3])
            | succ k4 =>
             have H := HA.out
             clear HA
             simp only [impl_leasts.l3] at H
             replace H := gi H; obtain ⟨c23b0, H⟩ | ⟨c23b0, H⟩ := H
             ·replace H := gd H; obtain ⟨c24b0, H⟩ := H
              replace H := gd H; obtain ⟨c25b0, H⟩ := H
              by_cases c26 : a1 = 0
              ·rw [if_pos c26] at H
               exact absurd H (by simp)
              ·rw [if_neg c26] at H
               have c26b0 : (a1 == 0) = false := beq_eq_false_iff_ne.mpr c26
               have c26b1 : (a1 != 0) = true := bne_iff_ne.mpr c26
               obtain ⟨ji27, hji27⟩ : ∃ j_ : Int, (Int.tmod (wrap64 (x29_3 + (rd l0 x38_4))) a1) = j_ := ⟨_, rfl⟩
               replace H : (if 0 ≤ (ji27) then (if (ji27) < (x5_4.length : Int) then (if (rd x5_4 (ji27)) < 0 then (impl_leasts.l3 k4 l0 a1 (x5_4.set ((ji27) : Int).toNat (wrap64 ((rd x5_3 x29_3) + (rd l0 x38_4)))) true x29_3 (rd x5_3 x29_3) (x5_2.length : Int) x29_3 l0 (l0.length : Int) (wrap64 (x38_4 + 1))) else (if (wrap64 ((rd x5_3 x29_3) + (rd l0 x38_4))) < (rd x5_4 (ji27)) then (impl_leasts.l3 k4 l0 a1 (x5_4.set ((ji27) : Int).toNat (wrap64 ((rd x5_3 x29_3) + (rd l0 x38_4)))) true x29_3 (rd x5_3 x29_3) (x5_2.length : Int) x29_3 l0 (l0.length : Int) (wrap64 (x38_4 + 1))) else (impl_leasts.l3 k4 l0 a1 x5_4 x7_4 x29_3 (rd x5_3 x29_3) (x5_2.length : Int) x29_3 l0 (l0.length : Int) (wrap64 (x38_4 + 1))))) else (none)) else (none)) = some r := by first | (rw [hji27] at H; exact H) | (simp only [hji27] at H ⊢; exact H)
               replace H := gd H; obtain ⟨c28b0, H⟩ := H
               by_cases c29 : (ji27) < (x5_4.length : Int)
               rotate_left
               ·rw [if_neg c29] at H
                exact absurd H (by simp)
               rw [if_pos c29] at H
               have c29b0 : decide ((ji27) < (x5_4.length : Int)) = true := decide_eq_true c29
               (try simp only [hl5_1, hl5_2, hl5_3, hl5_4] at c29b0)
               clear c29
               replace H := gi H; obtain ⟨c30b0, H⟩ | ⟨c30b0, H⟩ := H
               ·obtain ⟨y333, hy333⟩ : ∃ y_ : List Int, y_ = (x5_4.set ((ji27) : Int).toNat (wrap64 ((rd x5_3 x29_3) + (rd l0 x38_4)))) := ⟨_, rfl⟩
                replace H : (impl_leasts.l3 k4 l0 a1 y333 true x29_3 (rd x5_3 x29_3) (x5_2.length : Int) x29_3 l0 (l0.length : Int) (wrap64 (x38_4 + 1))) = some r := by first | (rw [hy333]; with_reducible exact H) | (have H2_ := (Option.bind_some _ _).symm.trans H; rw [hy333]; with_reducible exact H2_) | (have H2_ := (Option.bind_some _ _).symm.trans H; with_reducible exact H2_) | with_reducible exact H | (rw [hy333]; exact H) | exact H
                have Ny333 := Aside0.mk hy333
                clear hy333
                have H' := Aside0.mk H
                clear H
                obtain ⟨⟨ad331, e331, hx331_0⟩, p331, q331⟩ := pq (Kd.at_int HR0.out x38_4)
                cases e331
                replace hx331_0 := (HB.out.cell (World.block_lt_of_cell? w _ hx331_0)).trans hx331_0
                obtain ⟨⟨ad332, e332, hx332_0⟩, p332, q332⟩ := pq (Kd.at_int (Kd.R_reads' HO_5.out).2.2 (ji27))
                obtain rfl : (⟨go15, 0, none⟩ : Addr) = ad332 := (by injection e332)
                (first | simp only [add_plain] at hx332_0 | simp only [add_at] at hx332_0 | simp only [Addr.add, Nat.zero_add] at hx332_0 | skip)
                have p31 : 0 ≤ ((ji27) : Int) := of_decide_eq_true (by first | (with_reducible assumption) | assumption)
                have q31 : ((ji27) : Int) < ((x5_4.length : Int) : Int) := of_decide_eq_true (by first | (with_reducible assumption) | assumption)
                obtain ⟨hx31_0, hf31_0⟩ := Kd.R_celln 0 HO_5.out ((ji27) : Int) p31 q31
                replace p31 := eq_true p31
                replace q31 := eq_true q31
                have HP32 := Kd.R_putg HO_5.out ((ji27) : Int) (wrap64 ((rd x5_3 x29_3) + (rd l0 x38_4)))
                go_wp2_with (first | ((with_reducible refine gate_store (t := 3) (p := 67) rfl ?_); refine store_event (t := 3) (p := 67) (v := ?vo_w33) (w1 := (wr.setCell ⟨go15, ((ji27) : Int).toNat, none⟩ (.int .i64 (wrap64 ((rd x5_3 x29_3) + (rd l0 x38_4)))))) ?hg ?ho ?hn ?hr ?_; (case ho => rfl); (case hg => rfl); (case hn => rfl); (case hr => first | (go_simp; done) | (go_simp; rfl)); intro w33 hw; have hg : wr.grownBy w33 (some go15) := (by rw [hw]; exact HP32.2); have hp_ : Kd.R (Kd.int .i64) 3 w33 w.heap.size (fun _ => True) (.slice (some ⟨go15, 0, none⟩) x5_4.length co7) y333 := (by rw [hw, Ny333.out]; exact HP32.1); clear HP32; replace HO_5 := Aside0.mk (hp_); replace HB := Aside0.mk ((by rw [hw]; exact below_set (HB.out) GB15.out : Below w.heap.size w w33)); clear hg hw hp_))
                (try simp only [← hl5_4])
                go_roundg k4
                case measure => have := HK1.out; have := HK2.out; have := HK3.out; have := HK4.out; omega
                case rel => exact ⟨(y333), (true), (wrap64 (x38_4 + 1)), rr, rr, H', ⟨by have := HK1.out; have := HK2.out; have := HK3.out; have := HK4.out; omega⟩, ⟨by (try simp only [hl5_1]); (try simp only [hl5_2]); (try simp only [hl5_3]); (try simp only [hl5_4]); (with_reducible repeat (first | apply Kd.R_alloc | apply Kd.R_drewN | apply Kd.R_drew)); exact HO_5.out⟩, ⟨bw⟩⟩
               ·replace H := gi H; obtain ⟨c34b0, H⟩ | ⟨c34b0, H⟩ := H
                ·obtain ⟨y335, hy335⟩ : ∃ y_ : List Int, y_ = (x5_4.set ((ji27) : Int).toNat (wrap64 ((rd x5_3 x29_3) + (rd l0 x38_4)))) := ⟨_, rfl⟩
                 replace H : (impl_leasts.l3 k4 l0 a1 y335 true x29_3 (rd x5_3 x29_3) (x5_2.length : Int) x29_3 l0 (l0.length : Int) (wrap64 (x38_4 + 1))) = some r := by first | (rw [hy335]; with_reducible exact H) | (have H2_ := (Option.bind_some _ _).symm.trans H; rw [hy335]; with_reducible exact H2_) | (have H2_ := (Option.bind_some _ _).symm.trans H; with_reducible exact H2_) | with_reducible exact H | (rw [hy335]; exact H) | exact H
                 have Ny335 := Aside0.mk hy335
                 clear hy335
                 have H' := Aside0.mk H
                 clear H
                 obtain ⟨⟨ad331, e331, hx331_0⟩, p331, q331⟩ := pq (Kd.at_int HR0.out x38_4)
                 cases e331
                 replace hx331_0 := (HB.out.cell (World.block_lt_of_cell? w _ hx331_0)).trans hx331_0
                 obtain ⟨⟨ad332, e332, hx332_0⟩, p332, q332⟩ := pq (Kd.at_int (Kd.R_reads' HO_5.out).2.2 (ji27))
                 obtain rfl : (⟨go15, 0, none⟩ : Addr) = ad332 := (by injection e332)
                 (first | simp only [add_plain] at hx332_0 | simp only [add_at] at hx332_0 | simp only [Addr.add, Nat.zero_add] at hx332_0 | skip)
                 obtain ⟨⟨ad334, e334, hx334_0⟩, p334, q334⟩ := pq (Kd.at_int (Kd.R_reads' HO_5.out).2.2 (ji27))
                 obtain rfl : (⟨go15, 0, none⟩ : Addr) = ad334 := (by injection e334)
                 (first | simp only [add_plain] at hx334_0 | simp only [add_at] at hx334_0 | simp only [Addr.add, Nat.zero_add] at hx334_0 | skip)
                 have p35 : 0 ≤ ((ji27) : Int) := of_decide_eq_true (by first | (with_reducible assumption) | assumption)
                 have q35 : ((ji27) : Int) < ((x5_4.length : Int) : Int) := of_decide_eq_true (by first | (with_reducible assumption) | assumption)
                 obtain ⟨hx35_0, hf35_0⟩ := Kd.R_celln 0 HO_5.out ((ji27) : Int) p35 q35
                 replace p35 := eq_true p35
                 replace q35 := eq_true q35
                 have HP36 := Kd.R_putg HO_5.out ((ji27) : Int) (wrap64 ((rd x5_3 x29_3) + (rd l0 x38_4)))
                 go_wp2_with (first | ((with_reducible refine gate_store (t := 3) (p := 67) rfl ?_); refine store_event (t := 3) (p := 67) (v := ?vo_w37) (w1 := (wr.setCell ⟨go15, ((ji27) : Int).toNat, none⟩ (.int .i64 (wrap64 ((rd x5_3 x29_3) + (rd l0 x38_4)))))) ?hg ?ho ?hn ?hr ?_; (case ho => rfl); (case hg => rfl); (case hn => rfl); (case hr => first | (go_simp; done) | (go_simp; rfl)); intro w37 hw; have hg : wr.grownBy w37 (some go15) := (by rw [hw]; exact HP36.2); have hp_ : Kd.R (Kd.int .i64) 3 w37 w.heap.size (fun _ => True) (.slice (some ⟨go15, 0, none⟩) x5_4.length co7) y335 := (by rw [hw, Ny335.out]; exact HP36.1); clear HP36; replace HO_5 := Aside0.mk (hp_); replace HB := Aside0.mk ((by rw [hw]; exact below_set (HB.out) GB15.out : Below w.heap.size w w37)); clear hg hw hp_))
                 (try simp only [← hl5_4])
                 go_roundg k4
                 case measure => have := HK1.out; have := HK2.out; have := HK3.out; have := HK4.out; omega
                 case rel => exact ⟨(y335), (true), (wrap64 (x38_4 + 1)), rr, rr, H', ⟨by have := HK1.out; have := HK2.out; have := HK3.out; have := HK4.out; omega⟩, ⟨by (try simp only [hl5_1]); (try simp only [hl5_2]); (try simp only [hl5_3]); (try simp only [hl5_4]); (with_reducible repeat (first | apply Kd.R_alloc | apply Kd.R_drewN | apply Kd.R_drew)); exact HO_5.out⟩, ⟨bw⟩⟩
                ·have H' := Aside0.mk H
                 clear H
                 obtain ⟨⟨ad331, e331, hx331_0⟩, p331, q331⟩ := pq (Kd.at_int HR0.out x38_4)
                 cases e331
                 replace hx331_0 := (HB.out.cell (World.block_lt_of_cell? w _ hx331_0)).trans hx331_0
                 obtain ⟨⟨ad332, e332, hx332_0⟩, p332, q332⟩ := pq (Kd.at_int (Kd.R_reads' HO_5.out).2.2 (ji27))
                 obtain rfl : (⟨go15, 0, none⟩ : Addr) = ad332 := (by injection e332)
                 (first | simp only [add_plain] at hx332_0 | simp only [add_at] at hx332_0 | simp only [Addr.add, Nat.zero_add] at hx332_0 | skip)
                 obtain ⟨⟨ad334, e334, hx334_0⟩, p334, q334⟩ := pq (Kd.at_int (Kd.R_reads' HO_5.out).2.2 (ji27))
                 obtain rfl : (⟨go15, 0, none⟩ : Addr) = ad334 := (by injection e334)
                 (first | simp only [add_plain] at hx334_0 | simp only [add_at] at hx334_0 | simp only [Addr.add, Nat.zero_add] at hx334_0 | skip)
                 go_wp2
                 (try simp only [← hl5_4])
                 go_roundg k4
                 case measure => have := HK1.out; have := HK2.out; have := HK3.out; have := HK4.out; omega
                 case rel => exact ⟨(x5_4), (x7_4), (wrap64 (x38_4 + 1)), rr, rr, H', ⟨by have := HK1.out; have := HK2.out; have := HK3.out; have := HK4.out; omega⟩, ⟨by (try simp only [hl5_1]); (try simp only [hl5_2]); (try simp only [hl5_3]); (try simp only [hl5_4]); (with_reducible repeat (first | apply Kd.R_alloc | apply Kd.R_drewN | apply Kd.R_drew)); exact HO_5.out⟩, ⟨bw⟩⟩
             ·have H' := Aside0.mk H
              clear H
              go_wp2
              (try simp only [← hl5_3, ← hl5_4])
              go_roundg k4
              case measure => have := HK1.out; have := HK2.out; have := HK3.out; have := HK4.out; omega
              case rel => exact ⟨(x5_4), (x7_4), (wrap64 (x29_3 + 1)), rr, rr, H', ⟨by have := HK1.out; have := HK2.out; have := HK3.out; have := HK4.out; omega⟩, ⟨by (try simp only [hl5_1]); (try simp only [hl5_2]); (try simp only [hl5_3]); (try simp only [hl5_4]); (with_reducible repeat (first | apply Kd.R_alloc | apply Kd.R_drewN | apply Kd.R_drew)); exact HO_5.out⟩, ⟨bw⟩⟩
         ·rw [if_neg c19] at H
          have c19b0 : decide (x29_3 < (x5_2.length : Int)) = false := decide_eq_false c19
          (try simp only [hl5_1, hl5_2, hl5_3] at c19b0)
          clear c19
          have H' := Aside0.mk H
          clear H
          go_wp2
          (try simp only [← hl5_2, ← hl5_3])
          go_roundg k3
          case measure => have := HK1.out; have := HK2.out; have := HK3.out; omega
          case rel => exact ⟨(x5_3), (x7_3), rr, H', ⟨by have := HK1.out; have := HK2.out; have := HK3.out; omega⟩, ⟨by (try simp only [hl5_1]); (try simp only [hl5_2]); (try simp only [hl5_3]); (with_reducible repeat (first | apply Kd.R_alloc | apply Kd.R_drewN | apply Kd.R_drew)); exact HO_5.out⟩, ⟨bw⟩⟩
      ·obtain rfl := Option.some.inj H
       go_wp2
       go_ret
       exact ⟨_, re, ro HO_5.out, bw⟩


/-! ### impl_usable: function 120 -/
def impl_usable.f (k : Nat) (l0 : List Int) : Option (Bool) := (impl_within.f (l0.length : Int) 1 20).bind fun t336 => (if t336 = true then ((impl_allWithin.f k l0 1 60).bind fun t337 => (some t337)) else (some false))
set_option maxHeartbeats 8000000 in
set_option maxRecDepth 100000 in
theorem impl_usable.calls (k : Nat) (A0 : Option Addr) (c0 : Nat) (l0 : List Int) (r : Bool) (w : World) (hr0 : Kd.C (Kd.int .i64) w A0 l0.length l0) (hc0 : l0.length ≤ c0) (h : impl_usable.f k l0 = some r) :
  Calls Try.prog 120 #[.slice A0 l0.length c0] w fun e w' => e = .returned (.bool r) ∧ Drawn0 w w' := by
 have HR0 := Aside0.mk hr0
 have HC0 := Aside0.mk hc0
 clear hr0 hc0
 have H : ((impl_within.f (l0.length : Int) 1 20).bind fun t336 => (if t336 = true then ((impl_allWithin.f k l0 1 60).bind fun t337 => (some t337)) else (some false))) = some r := h
 clear h
 replace H := ga H; obtain ⟨t336, A2, H⟩ := H
 replace H := gb H; obtain ⟨rfl, H⟩ | ⟨rfl, H⟩ := H
 ·replace H := ga H; obtain ⟨t337, A4, H⟩ := H
  obtain rfl := Option.some.inj H
  go_enter Try.func120, Try.ntmps120
  go_wp2_with (first | ((with_reducible refine gate_callee (f := 59) rfl ?_); refine gl (some 5) Try.func59 #[.int .i64 (l0.length : Int), .int .i64 1, .int .i64 20] ?_; (with_reducible refine (impl_within.calls (l0.length : Int) 1 20 true _ A2.out).mono ?_); rintro e w' ⟨rfl, ⟨nd, rfl⟩⟩; refine ⟨_, rfl, ?_⟩) | (go_at_call 90; (with_reducible refine (impl_allWithin.calls k _ _ l0 1 60 t337 _ ?side1 ?side2 A4.out).mono ?_); (case side1 => exact co HR0.out); (case side2 => exact HC0.out); rintro e w' ⟨rfl, ⟨nd, rfl⟩⟩))
  go_ret
  exact ⟨rr, dw⟩
 ·obtain rfl := Option.some.inj H
  go_enter Try.func120, Try.ntmps120
  go_wp2_with (first | ((with_reducible refine gate_callee (f := 59) rfl ?_); refine gl (some 5) Try.func59 #[.int .i64 (l0.length : Int), .int .i64 1, .int .i64 20] ?_; (with_reducible refine (impl_within.calls (l0.length : Int) 1 20 false _ A2.out).mono ?_); rintro e w' ⟨rfl, ⟨nd, rfl⟩⟩; refine ⟨_, rfl, ?_⟩))
  go_ret
  exact ⟨rr, dw⟩

end Go.Proofs.Ytiejmnnnjmmifaa.C
