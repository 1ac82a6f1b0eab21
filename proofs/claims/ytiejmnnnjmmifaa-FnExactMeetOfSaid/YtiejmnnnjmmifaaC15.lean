/- Contracts of functions of the program: spec_MeetOf. -/
import Derived.Test.YtiejmnnnjmmifaaC0
import Derived.Test.YtiejmnnnjmmifaaC2
import Derived.Test.YtiejmnnnjmmifaaC3
import Derived.Test.YtiejmnnnjmmifaaC14
namespace Go.Proofs.Ytiejmnnnjmmifaa.C
open Go.RowKit Go.Proofs.YtiejmnnnjmmifaaW.PrintWords Go.Proofs.YtiejmnnnjmmifaaW.PrintLast Go.Proofs.YtiejmnnnjmmifaaW.PrintMore
attribute [local go_sem] max2_int min2_int max_two min_two max_three min_three max_four min_four
set_option linter.unusedVariables false
set_option linter.unusedSimpArgs false

/-! ### spec_MeetOf: function 45 -/
def spec_MeetOf.j0 : Nat → Bool → List Int → List Int → Option (List Int × Bool)
 | 0, _, _, _ => none
 | k + 1, x15, x789000, x790000 => if x15 = true then (some (([] : List Int), false)) else ((spec_l4Gaps.f k x789000).bind fun t793 => ((spec_l4Gaps.f k x790000).bind fun t796 => (if t793.length + t796.length < 17592186044416 then ((spec_SortList.f k (t793 ++ t796)).bind fun t802 => ((spec_FromGaps.f k t802).bind fun bt805 => (some (bt805.1, bt805.2)))) else (none))))
def spec_MeetOf.f (k : Nat) (l0_0 : List Int) (l1_0 : List Int) : Option (List Int × Bool) := (spec_IsSemigroup.f k l0_0).bind fun t791 => (if t791 = true then ((spec_IsSemigroup.f k l1_0).bind fun t792 => (spec_MeetOf.j0 k (!t792) l0_0 l1_0)) else (spec_MeetOf.j0 k true l0_0 l1_0))
def spec_MeetOf.T3 : Bool × List (List Nat × List Nat) := (true, [([], []), ([0], [0]), ([], []), ([2, 1], [2]), ([1, 3, 3], [1, 3]), ([4, 4], [4]), ([5, 5], [5]), ([6], [6]), ([7], [7]), ([7], [7]), ([], []), ([10, 8, 6, 0, 1, 2, 3, 4, 5, 6, 7, 8, 10], [8, 10]), ([9, 11, 0, 1, 2, 3, 4, 5, 6, 7, 8, 9, 10, 11], [9])])
def spec_MeetOf.B3 : List Nat := [0, 1, 0, 7, 15, 31, 63, 127, 255, 255, 0, 1535, 4095]
theorem spec_MeetOf.tab3 : rtab .any (opsOf Try.f45 3) = spec_MeetOf.T3 := by kernel_rfl
theorem spec_MeetOf.bits3 : waitsOk spec_MeetOf.T3.2 spec_MeetOf.B3 = true := by kernel_rfl
set_option maxHeartbeats 8000000 in
set_option maxRecDepth 100000 in
theorem spec_MeetOf.calls (k : Nat) (A0_0 : Option Addr) (c0_0 : Nat) (l0_0 : List Int) (A1_0 : Option Addr) (c1_0 : Nat) (l1_0 : List Int) (r1 : List Int) (r2 : Bool) (w : World) (hr0_0 : Kd.C (Kd.int .i64) w A0_0 l0_0.length l0_0) (hc0_0 : l0_0.length ≤ c0_0) (hr1_0 : Kd.C (Kd.int .i64) w A1_0 l1_0.length l1_0) (hc1_0 : l1_0.length ≤ c1_0) (h : spec_MeetOf.f k l0_0 l1_0 = some (r1, r2)) :
  Calls Try.prog 45 #[.agg #[.slice A0_0 l0_0.length c0_0], .agg #[.slice A1_0 l1_0.length c1_0]] w fun e w' => ∃ v0_ : Value, e = .returned (.tuple #[.agg #[v0_], .bool r2]) ∧ Kd.R (Kd.int .i64) 3 w' w.heap.size (fun _ => True) v0_ r1 ∧ Below w.heap.size w w' := by
 have hu27 := Try.underlying27
 have HR0_0 := Aside0.mk hr0_0
 have HC0_0 := Aside0.mk hc0_0
 clear hr0_0 hc0_0
 have HR1_0 := Aside0.mk hr1_0
 have HC1_0 := Aside0.mk hc1_0
 clear hr1_0 hc1_0
 have HB := Aside0.mk (Below.refl w.heap.size w)
 have H : ((spec_IsSemigroup.f k l0_0).bind fun t791 => (if t791 = true then ((spec_IsSemigroup.f k l1_0).bind fun t792 => (spec_MeetOf.j0 k (!t792) l0_0 l1_0)) else (spec_MeetOf.j0 k true l0_0 l1_0))) = some (r1, r2) := h
 clear h
 have HC3 := Aside0.mk H
 clear H
 go_enter Try.func45, Try.ntmps45
 go_upto_region 1 with (first | ((with_reducible refine gate_dst (N := 2) rfl ?_); refine bx 2 #[.slice A0_0 l0_0.length c0_0] 27 ?_; intro gb788 hg w4 hbox hb; have BK788 := Aside0.mk (hbox); have GW788 := Aside0.mk (gs hg : w.heap.size ≤ gb788); have GE788 := Aside0.mk (gs hg : w.heap.size ≤ gb788); replace HB := Aside0.mk (below_step bw hb); clear hb hbox hg) | ((with_reducible refine gate_dst (N := 3) rfl ?_); refine bx 3 #[.slice A1_0 l1_0.length c1_0] 27 ?_; intro gb789 hg w5 hbox hb; have BK789 := Aside0.mk (hbox); have GW789 := Aside0.mk (gs hg : w.heap.size ≤ gb789); have GE789 := Aside0.mk (gs hg : w.heap.size ≤ gb789); replace HB := Aside0.mk (below_step bw hb); have NB788_789 := Aside0.mk ((by rw [hg]; exact Nat.ne_of_lt (blk_lt (g := gb788) (o := .cells #[.slice A0_0 l0_0.length c0_0] 27 (0, 0)) (bo BK788.out)) : gb788 ≠ gb789)); have NB789_788 := Aside0.mk ((by rw [hg]; exact Nat.ne_of_gt (blk_lt (g := gb788) (o := .cells #[.slice A0_0 l0_0.length c0_0] 27 (0, 0)) (bo BK788.out)) : gb789 ≠ gb788)); replace BK788 := Aside0.mk (blk_below (g := gb788) (o := .cells #[.slice A0_0 l0_0.length c0_0] 27 (0, 0)) (bo BK788.out) hb); clear hb hbox hg) | ((with_reducible refine gate_dst (N := 4) rfl ?_); refine bx 4 #[.slice none 0 0] 27 ?_; intro gb790 hg w6 hbox hb; have BK790 := Aside0.mk (hbox); have GW790 := Aside0.mk (gs hg : w.heap.size ≤ gb790); have GE790 := Aside0.mk (gs hg : w.heap.size ≤ gb790); replace HB := Aside0.mk (below_step bw hb); have NB788_790 := Aside0.mk ((by rw [hg]; exact Nat.ne_of_lt (blk_lt (g := gb788) (o := .cells #[.slice A0_0 l0_0.length c0_0] 27 (0, 0)) (bo BK788.out)) : gb788 ≠ gb790)); have NB790_788 := Aside0.mk ((by rw [hg]; exact Nat.ne_of_gt (blk_lt (g := gb788) (o := .cells #[.slice A0_0 l0_0.length c0_0] 27 (0, 0)) (bo BK788.out)) : gb790 ≠ gb788)); replace BK788 := Aside0.mk (blk_below (g := gb788) (o := .cells #[.slice A0_0 l0_0.length c0_0] 27 (0, 0)) (bo BK788.out) hb); have NB789_790 := Aside0.mk ((by rw [hg]; exact Nat.ne_of_lt (blk_lt (g := gb789) (o := .cells #[.slice A1_0 l1_0.length c1_0] 27 (0, 0)) (bo BK789.out)) : gb789 ≠ gb790)); have NB790_789 := Aside0.mk ((by rw [hg]; exact Nat.ne_of_gt (blk_lt (g := gb789) (o := .cells #[.slice A1_0 l1_0.length c1_0] 27 (0, 0)) (bo BK789.out)) : gb790 ≠ gb789)); replace BK789 := Aside0.mk (blk_below (g := gb789) (o := .cells #[.slice A1_0 l1_0.length c1_0] 27 (0, 0)) (bo BK789.out) hb); clear hb hbox hg))
 (try simp only [Act.put, List.setIfInBounds_toArray, List.set_cons_zero, List.set_cons_succ])
 go_cut [15] (fun v15 wc => ∃ (kq : Nat) (x15_2 : Bool), v15 = .bool x15_2 ∧ Aside0 (spec_MeetOf.j0 kq x15_2 l0_0 l1_0 = some (r1, r2)) ∧ Aside0 (kq ≤ k) ∧ Aside0 (wc.heap[gb788]? = some (.cells #[(.slice A0_0 l0_0.length c0_0)] 27 (0, 0))) ∧ Aside0 (wc.heap[gb789]? = some (.cells #[(.slice A1_0 l1_0.length c1_0)] 27 (0, 0))) ∧ Aside0 (wc.heap[gb790]? = some (.cells #[(.slice none 0 0)] 27 (0, 0))) ∧ Aside0 (Below w.heap.size w wc))
 case first =>
  have H := HC3.out
  clear HC3
  replace H := ga H; obtain ⟨t791, A7, H⟩ := H
  replace H := gb H; obtain ⟨rfl, H⟩ | ⟨rfl, H⟩ := H
  ·replace H := ga H; obtain ⟨t792, A9, H⟩ := H
   have H' := Aside0.mk H
   clear H
   have hnb10 := NB788_789.out
   have hnc10 := NB789_788.out
   have hnb11 := NB788_790.out
   have hnc11 := NB790_788.out
   have hcz12_0 := bc BK788 0 (.slice A0_0 l0_0.length c0_0)
   have hfz12_0 := blk_frozen BK788.out 0
   go_wp2_with (first | ((with_reducible refine gate_callee (f := 71) rfl ?_); refine gl (some 9) Try.func71 #[.agg #[.slice A0_0 l0_0.length c0_0]] ?_; (with_reducible refine (spec_IsSemigroup.calls k _ _ l0_0 true _ ?side1 ?side2 A7.out).mono ?_); (case side1 => exact co (Kd.C_below HR0_0.out HB.out)); (case side2 => exact HC0_0.out); rintro e w13 ⟨rfl, hb⟩; refine ⟨_, rfl, ?_⟩; replace BK788 := Aside0.mk (blk_below (g := gb788) (o := .cells #[.slice A0_0 l0_0.length c0_0] 27 (0, 0)) (bo BK788.out) hb); replace BK789 := Aside0.mk (blk_below (g := gb789) (o := .cells #[.slice A1_0 l1_0.length c1_0] 27 (0, 0)) (bo BK789.out) hb); replace BK790 := Aside0.mk (blk_below (g := gb790) (o := .cells #[.slice none 0 0] 27 (0, 0)) (bo BK790.out) hb); replace HB := Aside0.mk (below_step bw hb); clear hb; have hnb14 := NB789_790.out; have hnc14 := NB790_789.out; have hcz15_0 := bc BK789 0 (.slice A1_0 l1_0.length c1_0); have hfz15_0 := blk_frozen BK789.out 0) | (go_at_call 71; (with_reducible refine (spec_IsSemigroup.calls k _ _ l1_0 t792 _ ?side1 ?side2 A9.out).mono ?_); (case side1 => exact co (Kd.C_below HR1_0.out HB.out)); (case side2 => exact HC1_0.out); rintro e w16 ⟨rfl, hb⟩; replace BK788 := Aside0.mk (blk_below (g := gb788) (o := .cells #[.slice A0_0 l0_0.length c0_0] 27 (0, 0)) (bo BK788.out) hb); replace BK789 := Aside0.mk (blk_below (g := gb789) (o := .cells #[.slice A1_0 l1_0.length c1_0] 27 (0, 0)) (bo BK789.out) hb); replace BK790 := Aside0.mk (blk_below (g := gb790) (o := .cells #[.slice none 0 0] 27 (0, 0)) (bo BK790.out) hb); replace HB := Aside0.mk (below_step bw hb); clear hb))
   go_meet
   case rel => exact ⟨_, (!t792), rr, H', ⟨om⟩, ⟨bo BK788.out⟩, ⟨bo BK789.out⟩, ⟨bo BK790.out⟩, ⟨bw⟩⟩
  ·have H' := Aside0.mk H
   clear H
   have hnb17 := NB788_789.out
   have hnc17 := NB789_788.out
   have hnb18 := NB788_790.out
   have hnc18 := NB790_788.out
   have hcz19_0 := bc BK788 0 (.slice A0_0 l0_0.length c0_0)
   have hfz19_0 := blk_frozen BK788.out 0
   go_wp2_with (first | ((with_reducible refine gate_callee (f := 71) rfl ?_); refine gl (some 9) Try.func71 #[.agg #[.slice A0_0 l0_0.length c0_0]] ?_; (with_reducible refine (spec_IsSemigroup.calls k _ _ l0_0 false _ ?side1 ?side2 A7.out).mono ?_); (case side1 => exact co (Kd.C_below HR0_0.out HB.out)); (case side2 => exact HC0_0.out); rintro e w20 ⟨rfl, hb⟩; refine ⟨_, rfl, ?_⟩; replace BK788 := Aside0.mk (blk_below (g := gb788) (o := .cells #[.slice A0_0 l0_0.length c0_0] 27 (0, 0)) (bo BK788.out) hb); replace BK789 := Aside0.mk (blk_below (g := gb789) (o := .cells #[.slice A1_0 l1_0.length c1_0] 27 (0, 0)) (bo BK789.out) hb); replace BK790 := Aside0.mk (blk_below (g := gb790) (o := .cells #[.slice none 0 0] 27 (0, 0)) (bo BK790.out) hb); replace HB := Aside0.mk (below_step bw hb); clear hb))
   go_meet
   case rel => exact ⟨_, (true), rr, H', ⟨om⟩, ⟨bo BK788.out⟩, ⟨bo BK789.out⟩, ⟨bo BK790.out⟩, ⟨bw⟩⟩
 case rest =>
  clear HC3
  try clear hcz12_0; try clear hcz15_0; try clear hcz19_0; try clear hfz12_0; try clear hfz15_0; try clear hfz19_0
  obtain ⟨kq, x15_2, rfl, HA, HJ2, BK788, BK789, BK790, HB⟩ := hcut
  cases kq with
  | zero => exact absurd HA.out (by simp [spec_MeetOf.j0])
  | succ kj2 =>
   have H := HA.out
   clear HA
   simp only [spec_MeetOf.j0] at H
   replace H := gb H; obtain ⟨rfl, H⟩ | ⟨rfl, H⟩ := H
   ·simp only [Option.some.injEq, Prod.mk.injEq] at H
    obtain ⟨rfl, rfl⟩ := H
    have hnb22 := NB790_788.out
    have hnc22 := NB788_790.out
    have hnb23 := NB790_789.out
    have hnc23 := NB789_790.out
    have hcz24_0 := bc BK790 0 (.slice none 0 0)
    have hfz24_0 := blk_frozen BK790.out 0
    go_wp2
    refine bodyPost_ret (results_ct rfl _ _ gb790 27 #[.slice none 0 0] (0, 0) _ rfl (by (with_reducible repeat (first | refine blk_drewN ?_ _ | refine blk_drew ?_ | refine blk_alloc ?_ _)); refine blk_put (cs := #[.slice none 0 0]) ?_ 0 _ rfl; (with_reducible repeat (first | refine blk_drewN ?_ _ | refine blk_drew ?_ | refine blk_alloc ?_ _)); exact BK790.out) Try.underlying27 rfl (by kernel_rfl)) rfl ?_
    exact ⟨_, re, by first | exact Kd.R_nil _ _ _ _ _ | exact Kd.N_nil _ _ _ _ _ | exact Kd.V_nil _ _ _ _ _ | exact Kd.Q_nil _ _ _ _ _ | exact Kd.S_nil _ _ _ _ _, bw⟩
   ·replace H := ga H; obtain ⟨t793, A25, H⟩ := H
    replace H := ga H; obtain ⟨t796, A26, H⟩ := H
    by_cases c27 : t793.length + t796.length < 17592186044416
    rotate_left
    ·rw [if_neg c27] at H
     exact absurd H (by simp)
    rw [if_pos c27] at H
    have LMc27 := Aside0.mk c27
    clear c27
    obtain ⟨y799, hy799⟩ : ∃ y_ : List Int, y_ = (t793 ++ t796) := ⟨_, rfl⟩
    replace H : ((spec_SortList.f kj2 y799).bind fun t802 => ((spec_FromGaps.f kj2 t802).bind fun bt805 => (some (bt805.1, bt805.2)))) = some (r1, r2) := by first | (rw [hy799]; with_reducible exact H) | (have H2_ := (Option.bind_some _ _).symm.trans H; rw [hy799]; with_reducible exact H2_) | (have H2_ := (Option.bind_some _ _).symm.trans H; with_reducible exact H2_) | with_reducible exact H | (rw [hy799]; exact H) | exact H
    have Ny799 := Aside0.mk hy799
    clear hy799
    replace H := ga H; obtain ⟨t802, A28, H⟩ := H
    replace H := ga H; obtain ⟨⟨t805, t808⟩, A29, H⟩ := H
    replace H : (some (t805, t808)) = some (r1, r2) := H
    simp only [Option.some.injEq, Prod.mk.injEq] at H
    obtain ⟨rfl, rfl⟩ := H
    try go_wp2
    replace BK788 := Aside0.mk (blk_drew BK788.out)
    replace BK789 := Aside0.mk (blk_drew BK789.out)
    replace BK790 := Aside0.mk (blk_drew BK790.out)
    replace HB := Aside0.mk (below_drew1 HB.out)
    refine start_ (n := 13) (S := fun w' => w'.cell? ⟨gb788, 0, none⟩ = some (.slice A0_0 l0_0.length c0_0) ∧ w'.cell? ⟨gb789, 0, none⟩ = some (.slice A1_0 l1_0.length c1_0)) (ds := []) #[Z,Z,Z,Z,Z,Z,Z,Z,Z,Z,Z,Z,Z] (by kernel_rfl) rfl rfl ⟨(blk_cell BK788.out 0).trans rfl, (blk_cell BK789.out 0).trans rfl⟩ (fun hHeld => ?_); refine with_tabW spec_MeetOf.tab3 spec_MeetOf.bits3 (fun HT_ HW_ => ?_)
    generalize wc.drew = w30 at BK788 BK789 BK790 HB hHeld ⊢
    refine take_ (i := 0) (N := some 18) (v := ?_) (a' := ?_) #[Y,Z,Z,Z,Z,Z,Z,Z,Z,Z,Z,Z,Z] rfl rfl (take_ofW HT_.out HW_.out (by kernel_rfl)) (fun _ _ _ h => h) (Or.inl ⟨by rfl, ?_⟩) hHeld ?_ ?_
    rotate_left
    ·rintro w' ⟨s0, s1⟩
     go_simp
     with_reducible rfl
    rotate_left
    ·simp only [Act.put, qa, qb, qc, i64_w, i32_w]
     rfl
    refine take_ (i := 2) (N := some 20) (v := ?_) (a' := ?_) #[Y,Z,Y,Z,Z,Z,Z,Z,Z,Z,Z,Z,Z] rfl rfl (take_ofW HT_.out HW_.out (by kernel_rfl)) (fun _ _ _ h => h) (Or.inl ⟨by rfl, ?_⟩) hHeld ?_ ?_
    rotate_left
    ·rintro w' ⟨s0, s1⟩
     go_simp
     with_reducible rfl
    rotate_left
    ·simp only [Act.put, qa, qb, qc, i64_w, i32_w]
     rfl
    refine join_ (σ := Value × Value × Value × Value × Value × Nat) 2 #[Y,Y,Y,Y,Y,Y,Y,Y,Y,Y,Y,Z,Z] (fun s_ => [(19, s_.1), (21, s_.2.1), (22, s_.2.2.1), (23, s_.2.2.2.1), (24, .tuple #[.agg #[s_.2.2.2.2.1], .bool t808]), (6, .pointer (some ⟨s_.2.2.2.2.2, 0, none⟩)), (17, .tuple #[.agg #[s_.2.2.2.2.1], .bool t808]), (25, .agg #[s_.2.2.2.2.1]), (26, .bool t808)]) (fun s_ w' => (w'.cell? ⟨gb788, 0, none⟩ = some (.slice A0_0 l0_0.length c0_0) ∧ w'.cell? ⟨gb789, 0, none⟩ = some (.slice A1_0 l1_0.length c1_0)) ∧ (Kd.R (Kd.int .i64) 3 w' w.heap.size (fun k_ => some k_ ≠ (s_.2.2.1 : Value).ownBlock ∧ some k_ ≠ (s_.2.2.2.1 : Value).ownBlock ∧ some k_ ≠ (s_.2.2.2.2.1 : Value).ownBlock) s_.2.1 t796) ∧ (Kd.R (Kd.int .i64) 3 w' w.heap.size (fun k_ => some k_ ≠ (s_.2.1 : Value).ownBlock ∧ some k_ ≠ (s_.2.2.2.1 : Value).ownBlock ∧ some k_ ≠ (s_.2.2.2.2.1 : Value).ownBlock) s_.2.2.1 y799) ∧ (Kd.R (Kd.int .i64) 3 w' w.heap.size (fun k_ => some k_ ≠ (s_.2.1 : Value).ownBlock ∧ some k_ ≠ (s_.2.2.1 : Value).ownBlock ∧ some k_ ≠ (s_.2.2.2.2.1 : Value).ownBlock) s_.2.2.2.1 t802) ∧ (Kd.R (Kd.int .i64) 3 w' w.heap.size (fun k_ => some k_ ≠ (s_.2.1 : Value).ownBlock ∧ some k_ ≠ (s_.2.2.1 : Value).ownBlock ∧ some k_ ≠ (s_.2.2.2.1 : Value).ownBlock) s_.2.2.2.2.1 t805) ∧ (w'.heap[gb788]? = some (.cells #[.slice A0_0 l0_0.length c0_0] 27 (0, 0))) ∧ (w'.heap[gb789]? = some (.cells #[.slice A1_0 l1_0.length c1_0] 27 (0, 0))) ∧ (w'.heap[gb790]? = some (.cells #[.slice none 0 0] 27 (0, 0))) ∧ (w'.heap[s_.2.2.2.2.2]? = some (.cells #[.slice none 0 0] 27 (0, 0))) ∧ (w.heap.size ≤ s_.2.2.2.2.2) ∧ (w.heap.size ≤ s_.2.2.2.2.2) ∧ (gb788 ≠ s_.2.2.2.2.2) ∧ (s_.2.2.2.2.2 ≠ gb788) ∧ (gb789 ≠ s_.2.2.2.2.2) ∧ (s_.2.2.2.2.2 ≠ gb789) ∧ (gb790 ≠ s_.2.2.2.2.2) ∧ (s_.2.2.2.2.2 ≠ gb790) ∧ (Below w.heap.size w w')) ?_ ?_
    rotate_left
    ·intro hJ1_3_4_5_6_10
     refine join_ (σ := Value × Value × Value × Value × Value) 3 #[Y,Y,Y,Y,Y,Y,Y,Y,Y,Y,Z,Z,Z] (fun s_ => [(19, s_.1), (21, s_.2.1), (22, s_.2.2.1), (23, s_.2.2.2.1), (24, .tuple #[.agg #[s_.2.2.2.2], .bool t808]), (17, .tuple #[.agg #[s_.2.2.2.2], .bool t808]), (25, .agg #[s_.2.2.2.2]), (26, .bool t808)]) (fun s_ w' => (w'.cell? ⟨gb788, 0, none⟩ = some (.slice A0_0 l0_0.length c0_0) ∧ w'.cell? ⟨gb789, 0, none⟩ = some (.slice A1_0 l1_0.length c1_0)) ∧ (Kd.R (Kd.int .i64) 3 w' w.heap.size (fun k_ => some k_ ≠ (s_.2.2.1 : Value).ownBlock ∧ some k_ ≠ (s_.2.2.2.1 : Value).ownBlock ∧ some k_ ≠ (s_.2.2.2.2 : Value).ownBlock) s_.2.1 t796) ∧ (Kd.R (Kd.int .i64) 3 w' w.heap.size (fun k_ => some k_ ≠ (s_.2.1 : Value).ownBlock ∧ some k_ ≠ (s_.2.2.2.1 : Value).ownBlock ∧ some k_ ≠ (s_.2.2.2.2 : Value).ownBlock) s_.2.2.1 y799) ∧ (Kd.R (Kd.int .i64) 3 w' w.heap.size (fun k_ => some k_ ≠ (s_.2.1 : Value).ownBlock ∧ some k_ ≠ (s_.2.2.1 : Value).ownBlock ∧ some k_ ≠ (s_.2.2.2.2 : Value).ownBlock) s_.2.2.2.1 t802) ∧ (Kd.R (Kd.int .i64) 3 w' w.heap.size (fun k_ => some k_ ≠ (s_.2.1 : Value).ownBlock ∧ some k_ ≠ (s_.2.2.1 : Value).ownBlock ∧ some k_ ≠ (s_.2.2.2.1 : Value).ownBlock) s_.2.2.2.2 t805) ∧ (w'.heap[gb788]? = some (.cells #[.slice A0_0 l0_0.length c0_0] 27 (0, 0))) ∧ (w'.heap[gb789]? = some (.cells #[.slice A1_0 l1_0.length c1_0] 27 (0, 0))) ∧ (w'.heap[gb790]? = some (.cells #[.slice none 0 0] 27 (0, 0))) ∧ (Below w.heap.size w w')) ?_ ?_
     rotate_left
     ·intro hJ1_3_4_5_6
      refine join_ (σ := Value × Value × Value × Value × Nat) 6 #[Y,Y,Y,Y,Y,Y,Z,Z,Z,Z,Y,Z,Z] (fun s_ => [(19, s_.1), (21, s_.2.1), (22, s_.2.2.1), (23, s_.2.2.2.1), (6, .pointer (some ⟨s_.2.2.2.2, 0, none⟩))]) (fun s_ w' => (w'.cell? ⟨gb788, 0, none⟩ = some (.slice A0_0 l0_0.length c0_0) ∧ w'.cell? ⟨gb789, 0, none⟩ = some (.slice A1_0 l1_0.length c1_0)) ∧ (Kd.R (Kd.int .i64) 3 w' w.heap.size (fun k_ => some k_ ≠ (s_.2.2.1 : Value).ownBlock ∧ some k_ ≠ (s_.2.2.2.1 : Value).ownBlock) s_.2.1 t796) ∧ (Kd.R (Kd.int .i64) 3 w' w.heap.size (fun k_ => some k_ ≠ (s_.2.1 : Value).ownBlock ∧ some k_ ≠ (s_.2.2.2.1 : Value).ownBlock) s_.2.2.1 y799) ∧ (Kd.R (Kd.int .i64) 3 w' w.heap.size (fun k_ => some k_ ≠ (s_.2.1 : Value).ownBlock ∧ some k_ ≠ (s_.2.2.1 : Value).ownBlock) s_.2.2.2.1 t802) ∧ (w'.heap[gb788]? = some (.cells #[.slice A0_0 l0_0.length c0_0] 27 (0, 0))) ∧ (w'.heap[gb789]? = some (.cells #[.slice A1_0 l1_0.length c1_0] 27 (0, 0))) ∧ (w'.heap[gb790]? = some (.cells #[.slice none 0 0] 27 (0, 0))) ∧ (w'.heap[s_.2.2.2.2]? = some (.cells #[.slice none 0 0] 27 (0, 0))) ∧ (w.heap.size ≤ s_.2.2.2.2) ∧ (w.heap.size ≤ s_.2.2.2.2) ∧ (gb788 ≠ s_.2.2.2.2) ∧ (s_.2.2.2.2 ≠ gb788) ∧ (gb789 ≠ s_.2.2.2.2) ∧ (s_.2.2.2.2 ≠ gb789) ∧ (gb790 ≠ s_.2.2.2.2) ∧ (s_.2.2.2.2 ≠ gb790) ∧ (Below w.heap.size w w')) ?_ ?_
      rotate_left
      ·intro hJ1_3_4_5_10
       refine join_ (σ := Value × Value × Value × Value) 7 #[Y,Y,Y,Y,Y,Y,Z,Z,Z,Z,Z,Z,Z] (fun s_ => [(19, s_.1), (21, s_.2.1), (22, s_.2.2.1), (23, s_.2.2.2)]) (fun s_ w' => (w'.cell? ⟨gb788, 0, none⟩ = some (.slice A0_0 l0_0.length c0_0) ∧ w'.cell? ⟨gb789, 0, none⟩ = some (.slice A1_0 l1_0.length c1_0)) ∧ (Kd.R (Kd.int .i64) 3 w' w.heap.size (fun k_ => some k_ ≠ (s_.2.2.1 : Value).ownBlock ∧ some k_ ≠ (s_.2.2.2 : Value).ownBlock) s_.2.1 t796) ∧ (Kd.R (Kd.int .i64) 3 w' w.heap.size (fun k_ => some k_ ≠ (s_.2.1 : Value).ownBlock ∧ some k_ ≠ (s_.2.2.2 : Value).ownBlock) s_.2.2.1 y799) ∧ (Kd.R (Kd.int .i64) 3 w' w.heap.size (fun k_ => some k_ ≠ (s_.2.1 : Value).ownBlock ∧ some k_ ≠ (s_.2.2.1 : Value).ownBlock) s_.2.2.2 t802) ∧ (w'.heap[gb788]? = some (.cells #[.slice A0_0 l0_0.length c0_0] 27 (0, 0))) ∧ (w'.heap[gb789]? = some (.cells #[.slice A1_0 l1_0.length c1_0] 27 (0, 0))) ∧ (w'.heap[gb790]? = some (.cells #[.slice none 0 0] 27 (0, 0))) ∧ (Below w.heap.size w w')) ?_ ?_
       rotate_left
       ·intro hJ1_3_4_5
        refine join_ (σ := Value × Value × Value × Nat) 7 #[Y,Y,Y,Y,Y,Z,Z,Z,Z,Z,Y,Z,Z] (fun s_ => [(19, s_.1), (21, s_.2.1), (22, s_.2.2.1), (6, .pointer (some ⟨s_.2.2.2, 0, none⟩))]) (fun s_ w' => (w'.cell? ⟨gb788, 0, none⟩ = some (.slice A0_0 l0_0.length c0_0) ∧ w'.cell? ⟨gb789, 0, none⟩ = some (.slice A1_0 l1_0.length c1_0)) ∧ (Kd.R (Kd.int .i64) 3 w' w.heap.size (fun k_ => some k_ ≠ (s_.2.2.1 : Value).ownBlock) s_.2.1 t796) ∧ (Kd.R (Kd.int .i64) 3 w' w.heap.size (fun k_ => some k_ ≠ (s_.2.1 : Value).ownBlock) s_.2.2.1 y799) ∧ (w'.heap[gb788]? = some (.cells #[.slice A0_0 l0_0.length c0_0] 27 (0, 0))) ∧ (w'.heap[gb789]? = some (.cells #[.slice A1_0 l1_0.length c1_0] 27 (0, 0))) ∧ (w'.heap[gb790]? = some (.cells #[.slice none 0 0] 27 (0, 0))) ∧ (w'.heap[s_.2.2.2]? = some (.cells #[.slice none 0 0] 27 (0, 0))) ∧ (w.heap.size ≤ s_.2.2.2) ∧ (w.heap.size ≤ s_.2.2.2) ∧ (gb788 ≠ s_.2.2.2) ∧ (s_.2.2.2 ≠ gb788) ∧ (gb789 ≠ s_.2.2.2) ∧ (s_.2.2.2 ≠ gb789) ∧ (gb790 ≠ s_.2.2.2) ∧ (s_.2.2.2 ≠ gb790) ∧ (Below w.heap.size w w')) ?_ ?_
        rotate_left
        ·intro hJ1_3_4_10
         refine join_ (σ := Value × Value × Value) 8 #[Y,Y,Y,Y,Y,Z,Z,Z,Z,Z,Z,Z,Z] (fun s_ => [(19, s_.1), (21, s_.2.1), (22, s_.2.2)]) (fun s_ w' => (w'.cell? ⟨gb788, 0, none⟩ = some (.slice A0_0 l0_0.length c0_0) ∧ w'.cell? ⟨gb789, 0, none⟩ = some (.slice A1_0 l1_0.length c1_0)) ∧ (Kd.R (Kd.int .i64) 3 w' w.heap.size (fun k_ => some k_ ≠ (s_.2.2 : Value).ownBlock) s_.2.1 t796) ∧ (Kd.R (Kd.int .i64) 3 w' w.heap.size (fun k_ => some k_ ≠ (s_.2.1 : Value).ownBlock) s_.2.2 y799) ∧ (w'.heap[gb788]? = some (.cells #[.slice A0_0 l0_0.length c0_0] 27 (0, 0))) ∧ (w'.heap[gb789]? = some (.cells #[.slice A1_0 l1_0.length c1_0] 27 (0, 0))) ∧ (w'.heap[gb790]? = some (.cells #[.slice none 0 0] 27 (0, 0))) ∧ (Below w.heap.size w w')) ?_ ?_
         rotate_left
         ·intro hJ1_3_4
          refine join_ (σ := Value × Value × Nat) 8 #[Y,Y,Y,Y,Z,Z,Z,Z,Z,Z,Y,Z,Z] (fun s_ => [(19, s_.1), (21, s_.2.1), (6, .pointer (some ⟨s_.2.2, 0, none⟩))]) (fun s_ w' => (w'.cell? ⟨gb788, 0, none⟩ = some (.slice A0_0 l0_0.length c0_0) ∧ w'.cell? ⟨gb789, 0, none⟩ = some (.slice A1_0 l1_0.length c1_0)) ∧ (Kd.R (Kd.int .i64) 3 w' w.heap.size (fun k_ => some k_ ≠ (s_.2.1 : Value).ownBlock) s_.1 t793) ∧ (Kd.R (Kd.int .i64) 3 w' w.heap.size (fun k_ => some k_ ≠ (s_.1 : Value).ownBlock) s_.2.1 t796) ∧ (w'.heap[gb788]? = some (.cells #[.slice A0_0 l0_0.length c0_0] 27 (0, 0))) ∧ (w'.heap[gb789]? = some (.cells #[.slice A1_0 l1_0.length c1_0] 27 (0, 0))) ∧ (w'.heap[gb790]? = some (.cells #[.slice none 0 0] 27 (0, 0))) ∧ (w'.heap[s_.2.2]? = some (.cells #[.slice none 0 0] 27 (0, 0))) ∧ (w.heap.size ≤ s_.2.2) ∧ (w.heap.size ≤ s_.2.2) ∧ (gb788 ≠ s_.2.2) ∧ (s_.2.2 ≠ gb788) ∧ (gb789 ≠ s_.2.2) ∧ (s_.2.2 ≠ gb789) ∧ (gb790 ≠ s_.2.2) ∧ (s_.2.2 ≠ gb790) ∧ (Below w.heap.size w w')) ?_ ?_
          rotate_left
          ·intro hJ1_3_10
           refine join_ (σ := Value × Value) 9 #[Y,Y,Y,Y,Z,Z,Z,Z,Z,Z,Z,Z,Z] (fun s_ => [(19, s_.1), (21, s_.2)]) (fun s_ w' => (w'.cell? ⟨gb788, 0, none⟩ = some (.slice A0_0 l0_0.length c0_0) ∧ w'.cell? ⟨gb789, 0, none⟩ = some (.slice A1_0 l1_0.length c1_0)) ∧ (Kd.R (Kd.int .i64) 3 w' w.heap.size (fun k_ => some k_ ≠ (s_.2 : Value).ownBlock) s_.1 t793) ∧ (Kd.R (Kd.int .i64) 3 w' w.heap.size (fun k_ => some k_ ≠ (s_.1 : Value).ownBlock) s_.2 t796) ∧ (w'.heap[gb788]? = some (.cells #[.slice A0_0 l0_0.length c0_0] 27 (0, 0))) ∧ (w'.heap[gb789]? = some (.cells #[.slice A1_0 l1_0.length c1_0] 27 (0, 0))) ∧ (w'.heap[gb790]? = some (.cells #[.slice none 0 0] 27 (0, 0))) ∧ (Below w.heap.size w w')) ?_ ?_
           rotate_left
           ·intro hJ1_3
            refine join_ (σ := Value × Nat) 9 #[Y,Y,Y,Z,Z,Z,Z,Z,Z,Z,Y,Z,Z] (fun s_ => [(19, s_.1), (6, .pointer (some ⟨s_.2, 0, none⟩))]) (fun s_ w' => (w'.cell? ⟨gb788, 0, none⟩ = some (.slice A0_0 l0_0.length c0_0) ∧ w'.cell? ⟨gb789, 0, none⟩ = some (.slice A1_0 l1_0.length c1_0)) ∧ (Kd.R (Kd.int .i64) 3 w' w.heap.size (fun _ => True) s_.1 t793) ∧ (w'.heap[gb788]? = some (.cells #[.slice A0_0 l0_0.length c0_0] 27 (0, 0))) ∧ (w'.heap[gb789]? = some (.cells #[.slice A1_0 l1_0.length c1_0] 27 (0, 0))) ∧ (w'.heap[gb790]? = some (.cells #[.slice none 0 0] 27 (0, 0))) ∧ (w'.heap[s_.2]? = some (.cells #[.slice none 0 0] 27 (0, 0))) ∧ (w.heap.size ≤ s_.2) ∧ (w.heap.size ≤ s_.2) ∧ (gb788 ≠ s_.2) ∧ (s_.2 ≠ gb788) ∧ (gb789 ≠ s_.2) ∧ (s_.2 ≠ gb789) ∧ (gb790 ≠ s_.2) ∧ (s_.2 ≠ gb790) ∧ (Below w.heap.size w w')) ?_ ?_
            rotate_left
            ·intro hJ1_10
             refine join_ (σ := Value) 10 #[Y,Y,Y,Z,Z,Z,Z,Z,Z,Z,Z,Z,Z] (fun s_ => [(19, s_)]) (fun s_ w' => (w'.cell? ⟨gb788, 0, none⟩ = some (.slice A0_0 l0_0.length c0_0) ∧ w'.cell? ⟨gb789, 0, none⟩ = some (.slice A1_0 l1_0.length c1_0)) ∧ (Kd.R (Kd.int .i64) 3 w' w.heap.size (fun _ => True) s_ t793) ∧ (w'.heap[gb788]? = some (.cells #[.slice A0_0 l0_0.length c0_0] 27 (0, 0))) ∧ (w'.heap[gb789]? = some (.cells #[.slice A1_0 l1_0.length c1_0] 27 (0, 0))) ∧ (w'.heap[gb790]? = some (.cells #[.slice none 0 0] 27 (0, 0))) ∧ (Below w.heap.size w w')) ?_ ?_
             rotate_left
             ·intro hJ1
              refine join_ (σ := Nat) 10 #[Y,Z,Y,Z,Z,Z,Z,Z,Z,Z,Y,Z,Z] (fun s_ => [(6, .pointer (some ⟨s_, 0, none⟩))]) (fun s_ w' => (w'.cell? ⟨gb788, 0, none⟩ = some (.slice A0_0 l0_0.length c0_0) ∧ w'.cell? ⟨gb789, 0, none⟩ = some (.slice A1_0 l1_0.length c1_0)) ∧ (w'.heap[gb788]? = some (.cells #[.slice A0_0 l0_0.length c0_0] 27 (0, 0))) ∧ (w'.heap[gb789]? = some (.cells #[.slice A1_0 l1_0.length c1_0] 27 (0, 0))) ∧ (w'.heap[gb790]? = some (.cells #[.slice none 0 0] 27 (0, 0))) ∧ (w'.heap[s_]? = some (.cells #[.slice none 0 0] 27 (0, 0))) ∧ (w.heap.size ≤ s_) ∧ (w.heap.size ≤ s_) ∧ (gb788 ≠ s_) ∧ (s_ ≠ gb788) ∧ (gb789 ≠ s_) ∧ (s_ ≠ gb789) ∧ (gb790 ≠ s_) ∧ (s_ ≠ gb790) ∧ (Below w.heap.size w w')) ?_ ?_
              rotate_left
              ·intro hJ10
               refine two_ (i := 1) (j := 10) (Ni := some 19) (Nj := some 6) #[Y,Y,Y,Z,Z,Z,Z,Z,Z,Z,Z,Z,Z] #[Y,Z,Y,Z,Z,Z,Z,Z,Z,Z,Y,Z,Z] rfl rfl rfl rfl (two_of HT_.out (by kernel_rfl)) (by decide) (by decide) (fun K hK => ?_) (fun K hK => ?_)
               ·skip
                refine gm Try.func82 #[.agg #[.slice A0_0 l0_0.length c0_0]] ?_
                with_reducible refine (spec_l4Gaps.calls kj2 _ _ l0_0 t793 _ ?side1 ?side2 A25.out).mono ?_
                (case side1 => exact co (Kd.C_below HR0_0.out HB.out))
                (case side2 => exact HC0_0.out)
                rintro e w31 ⟨v794, rfl, ho0, hb⟩
                refine ⟨_, rfl, ?_⟩
                have HO795 := Aside0.mk (Kd.R_lower ho0 (below_size bw))
                replace BK788 := Aside0.mk (blk_below (g := gb788) (o := .cells #[.slice A0_0 l0_0.length c0_0] 27 (0, 0)) (bo BK788.out) hb)
                replace BK789 := Aside0.mk (blk_below (g := gb789) (o := .cells #[.slice A1_0 l1_0.length c1_0] 27 (0, 0)) (bo BK789.out) hb)
                replace BK790 := Aside0.mk (blk_below (g := gb790) (o := .cells #[.slice none 0 0] 27 (0, 0)) (bo BK790.out) hb)
                replace HB := Aside0.mk (below_step bw hb)
                clear hb ho0
                refine hK.out _ _ ⟨(blk_cell BK788.out 0).trans rfl, (blk_cell BK789.out 0).trans rfl⟩ (fun hHeld => ?_)
                clear hK K
                refine norm_ (a' := ?_) ?_ ?_
                rotate_left
                ·show Act.put _ (some 19) _ = _
                 simp only [Act.put, qa, qb, qc, i64_w, i32_w]
                 rfl
                exact norm_ (by first | (simp only [putAll, Act.put, List.setIfInBounds_toArray, List.set_cons_zero, List.set_cons_succ]; done) | (simp only [putAll, Act.put, List.setIfInBounds_toArray, List.set_cons_zero, List.set_cons_succ]; rfl)) (hJ1 (v794) _ ⟨hHeld, (ro HO795.out), (bo BK788.out), (bo BK789.out), (bo BK790.out), bw⟩)
               ·skip
                refine box_step ?hg (N := 6) ?hd (cs := #[.slice none 0 0]) (t := 27) ?hr ?_; (case hd => rfl); (case hg => rfl); (case hr => first | (go_simp; done) | (go_simp; rfl))
                intro gb809 hg w31 hbox hb
                have BK809 := Aside0.mk (hbox)
                have GW809 := Aside0.mk (gs hg : w.heap.size ≤ gb809)
                have GE809 := Aside0.mk (gs hg : w.heap.size ≤ gb809)
                replace HB := Aside0.mk (below_step bw hb)
                have NB788_809 := Aside0.mk ((by rw [hg]; exact Nat.ne_of_lt (blk_lt (g := gb788) (o := .cells #[.slice A0_0 l0_0.length c0_0] 27 (0, 0)) (bo BK788.out)) : gb788 ≠ gb809))
                have NB809_788 := Aside0.mk ((by rw [hg]; exact Nat.ne_of_gt (blk_lt (g := gb788) (o := .cells #[.slice A0_0 l0_0.length c0_0] 27 (0, 0)) (bo BK788.out)) : gb809 ≠ gb788))
                replace BK788 := Aside0.mk (blk_below (g := gb788) (o := .cells #[.slice A0_0 l0_0.length c0_0] 27 (0, 0)) (bo BK788.out) hb)
                have NB789_809 := Aside0.mk ((by rw [hg]; exact Nat.ne_of_lt (blk_lt (g := gb789) (o := .cells #[.slice A1_0 l1_0.length c1_0] 27 (0, 0)) (bo BK789.out)) : gb789 ≠ gb809))
                have NB809_789 := Aside0.mk ((by rw [hg]; exact Nat.ne_of_gt (blk_lt (g := gb789) (o := .cells #[.slice A1_0 l1_0.length c1_0] 27 (0, 0)) (bo BK789.out)) : gb809 ≠ gb789))
                replace BK789 := Aside0.mk (blk_below (g := gb789) (o := .cells #[.slice A1_0 l1_0.length c1_0] 27 (0, 0)) (bo BK789.out) hb)
                have NB790_809 := Aside0.mk ((by rw [hg]; exact Nat.ne_of_lt (blk_lt (g := gb790) (o := .cells #[.slice none 0 0] 27 (0, 0)) (bo BK790.out)) : gb790 ≠ gb809))
                have NB809_790 := Aside0.mk ((by rw [hg]; exact Nat.ne_of_gt (blk_lt (g := gb790) (o := .cells #[.slice none 0 0] 27 (0, 0)) (bo BK790.out)) : gb809 ≠ gb790))
                replace BK790 := Aside0.mk (blk_below (g := gb790) (o := .cells #[.slice none 0 0] 27 (0, 0)) (bo BK790.out) hb)
                clear hb hbox hg
                refine hK.out _ _ ⟨(blk_cell BK788.out 0).trans rfl, (blk_cell BK789.out 0).trans rfl⟩ (fun hHeld => ?_)
                clear hK K
                refine norm_ (a' := ?_) ?_ ?_
                rotate_left
                ·show Act.put _ (some 6) _ = _
                 simp only [Act.put, qa, qb, qc, i64_w, i32_w]
                 rfl
                exact norm_ (by first | (simp only [putAll, Act.put, List.setIfInBounds_toArray, List.set_cons_zero, List.set_cons_succ]; done) | (simp only [putAll, Act.put, List.setIfInBounds_toArray, List.set_cons_zero, List.set_cons_succ]; rfl)) (hJ10 (gb809) _ ⟨hHeld, (bo BK788.out), (bo BK789.out), (bo BK790.out), (bo BK809.out), GW809.out, GE809.out, NB788_809.out, NB809_788.out, NB789_809.out, NB809_789.out, NB790_809.out, NB809_790.out, bw⟩)
              ·skip
               rintro gb809 w32 ⟨hS_, h0_, h1_, h2_, h3_, h4_, h5_, h6_, h7_, h8_, h9_, h10_, h11_, h12_⟩
               have n0_ : Aside0 (w32.heap[gb788]? = some (.cells #[.slice A0_0 l0_0.length c0_0] 27 (0, 0))) := ⟨h0_⟩
               have n1_ : Aside0 (w32.heap[gb789]? = some (.cells #[.slice A1_0 l1_0.length c1_0] 27 (0, 0))) := ⟨h1_⟩
               have n2_ : Aside0 (w32.heap[gb790]? = some (.cells #[.slice none 0 0] 27 (0, 0))) := ⟨h2_⟩
               have n3_ : Aside0 (w32.heap[gb809]? = some (.cells #[.slice none 0 0] 27 (0, 0))) := ⟨h3_⟩
               have n4_ : Aside0 (w.heap.size ≤ gb809) := ⟨h4_⟩
               have n5_ : Aside0 (w.heap.size ≤ gb809) := ⟨h5_⟩
               have n6_ : Aside0 (gb788 ≠ gb809) := ⟨h6_⟩
               have n7_ : Aside0 (gb809 ≠ gb788) := ⟨h7_⟩
               have n8_ : Aside0 (gb789 ≠ gb809) := ⟨h8_⟩
               have n9_ : Aside0 (gb809 ≠ gb789) := ⟨h9_⟩
               have n10_ : Aside0 (gb790 ≠ gb809) := ⟨h10_⟩
               have n11_ : Aside0 (gb809 ≠ gb790) := ⟨h11_⟩
               have n12_ : Aside0 (Below w.heap.size w w32) := ⟨h12_⟩
               clear BK788
               clear BK789
               clear BK790
               clear HB
               clear h0_ h1_ h2_ h3_ h4_ h5_ h6_ h7_ h8_ h9_ h10_ h11_ h12_
               have BK788 := n0_
               have BK789 := n1_
               have BK790 := n2_
               have BK809 := n3_
               have GW809 := n4_
               have GE809 := n5_
               have NB788_809 := n6_
               have NB809_788 := n7_
               have NB789_809 := n8_
               have NB809_789 := n9_
               have NB790_809 := n10_
               have NB809_790 := n11_
               have HB := n12_
               clear n0_ n1_ n2_ n3_ n4_ n5_ n6_ n7_ n8_ n9_ n10_ n11_ n12_
               have hHeld : w32.cell? ⟨gb788, 0, none⟩ = some (.slice A0_0 l0_0.length c0_0) ∧ w32.cell? ⟨gb789, 0, none⟩ = some (.slice A1_0 l1_0.length c1_0) := hS_
               refine norm_ (a' := ?_) ?_ ?_
               rotate_left
               ·simp only [putAll, Act.put, List.setIfInBounds_toArray, List.set_cons_zero, List.set_cons_succ]
                rfl
               refine oa 1 (some 19) #[Y,Y,Y,Z,Z,Z,Z,Z,Z,Z,Y,Z,Z] HT_ (fun K hK => ?_)
               refine gm Try.func82 #[.agg #[.slice A0_0 l0_0.length c0_0]] ?_
               with_reducible refine (spec_l4Gaps.calls kj2 _ _ l0_0 t793 _ ?side1 ?side2 A25.out).mono ?_
               (case side1 => exact co (Kd.C_below HR0_0.out HB.out))
               (case side2 => exact HC0_0.out)
               rintro e w33 ⟨v794, rfl, ho0, hb⟩
               refine ⟨_, rfl, ?_⟩
               have HO795 := Aside0.mk (Kd.R_lower ho0 (below_size bw))
               replace BK788 := Aside0.mk (blk_below (g := gb788) (o := .cells #[.slice A0_0 l0_0.length c0_0] 27 (0, 0)) (bo BK788.out) hb)
               replace BK789 := Aside0.mk (blk_below (g := gb789) (o := .cells #[.slice A1_0 l1_0.length c1_0] 27 (0, 0)) (bo BK789.out) hb)
               replace BK790 := Aside0.mk (blk_below (g := gb790) (o := .cells #[.slice none 0 0] 27 (0, 0)) (bo BK790.out) hb)
               replace BK809 := Aside0.mk (blk_below (g := gb809) (o := .cells #[.slice none 0 0] 27 (0, 0)) (bo BK809.out) hb)
               replace HB := Aside0.mk (below_step bw hb)
               clear hb ho0
               refine hK.out _ _ ⟨(blk_cell BK788.out 0).trans rfl, (blk_cell BK789.out 0).trans rfl⟩ (fun hHeld => ?_)
               clear hK K
               refine norm_ (a' := ?_) ?_ ?_
               rotate_left
               ·show Act.put _ (some 19) _ = _
                simp only [Act.put, qa, qb, qc, i64_w, i32_w]
                rfl
               exact norm_ (by first | (simp only [putAll, Act.put, List.setIfInBounds_toArray, List.set_cons_zero, List.set_cons_succ]; done) | (simp only [putAll, Act.put, List.setIfInBounds_toArray, List.set_cons_zero, List.set_cons_succ]; rfl)) (hJ1_10 (v794, gb809) _ ⟨hHeld, (ro HO795.out), (bo BK788.out), (bo BK789.out), (bo BK790.out), (bo BK809.out), GW809.out, GE809.out, NB788_809.out, NB809_788.out, NB789_809.out, NB809_789.out, NB790_809.out, NB809_790.out, bw⟩)
             ·skip
              rintro v794 w32 ⟨hS_, h0_, h1_, h2_, h3_, h4_⟩
              have n0_ : Aside0 (Kd.R (Kd.int .i64) 3 w32 w.heap.size (fun _ => True) v794 t793) := ⟨h0_⟩
              have n1_ : Aside0 (w32.heap[gb788]? = some (.cells #[.slice A0_0 l0_0.length c0_0] 27 (0, 0))) := ⟨h1_⟩
              have n2_ : Aside0 (w32.heap[gb789]? = some (.cells #[.slice A1_0 l1_0.length c1_0] 27 (0, 0))) := ⟨h2_⟩
              have n3_ : Aside0 (w32.heap[gb790]? = some (.cells #[.slice none 0 0] 27 (0, 0))) := ⟨h3_⟩
              have n4_ : Aside0 (Below w.heap.size w w32) := ⟨h4_⟩
              clear BK788
              clear BK789
              clear BK790
              clear HB
              clear h0_ h1_ h2_ h3_ h4_
              have HO795 := n0_
              have BK788 := n1_
              have BK789 := n2_
              have BK790 := n3_
              have HB := n4_
              clear n0_ n1_ n2_ n3_ n4_
              have hHeld : w32.cell? ⟨gb788, 0, none⟩ = some (.slice A0_0 l0_0.length c0_0) ∧ w32.cell? ⟨gb789, 0, none⟩ = some (.slice A1_0 l1_0.length c1_0) := hS_
              refine norm_ (a' := ?_) ?_ ?_
              rotate_left
              ·simp only [putAll, Act.put, List.setIfInBounds_toArray, List.set_cons_zero, List.set_cons_succ]
               rfl
              refine two_ (i := 3) (j := 10) (Ni := some 21) (Nj := some 6) #[Y,Y,Y,Y,Z,Z,Z,Z,Z,Z,Z,Z,Z] #[Y,Y,Y,Z,Z,Z,Z,Z,Z,Z,Y,Z,Z] rfl rfl rfl rfl (two_of HT_.out (by kernel_rfl)) (by decide) (by decide) (fun K hK => ?_) (fun K hK => ?_)
              ·skip
               refine gm Try.func82 #[.agg #[.slice A1_0 l1_0.length c1_0]] ?_
               with_reducible refine (spec_l4Gaps.calls kj2 _ _ l1_0 t796 _ ?side1 ?side2 A26.out).mono ?_
               (case side1 => exact co (Kd.C_below HR1_0.out HB.out))
               (case side2 => exact HC1_0.out)
               rintro e w33 ⟨v797, rfl, ho0, hb⟩
               refine ⟨_, rfl, ?_⟩
               have HO798 := Aside0.mk (Kd.R_lower (Kd.R_new' ho0 (Kd.R_lt (ro HO795.out))) (below_size bw))
               replace HO795 := Aside0.mk (Kd.R_elder' (ro HO795.out) (Kd.R_base ho0) hb)
               replace BK788 := Aside0.mk (blk_below (g := gb788) (o := .cells #[.slice A0_0 l0_0.length c0_0] 27 (0, 0)) (bo BK788.out) hb)
               replace BK789 := Aside0.mk (blk_below (g := gb789) (o := .cells #[.slice A1_0 l1_0.length c1_0] 27 (0, 0)) (bo BK789.out) hb)
               replace BK790 := Aside0.mk (blk_below (g := gb790) (o := .cells #[.slice none 0 0] 27 (0, 0)) (bo BK790.out) hb)
               replace HB := Aside0.mk (below_step bw hb)
               clear hb ho0
               refine hK.out _ _ ⟨(blk_cell BK788.out 0).trans rfl, (blk_cell BK789.out 0).trans rfl⟩ (fun hHeld => ?_)
               clear hK K
               refine norm_ (a' := ?_) ?_ ?_
               rotate_left
               ·show Act.put _ (some 21) _ = _
                simp only [Act.put, qa, qb, qc, i64_w, i32_w]
                rfl
               exact norm_ (by first | (simp only [putAll, Act.put, List.setIfInBounds_toArray, List.set_cons_zero, List.set_cons_succ]; done) | (simp only [putAll, Act.put, List.setIfInBounds_toArray, List.set_cons_zero, List.set_cons_succ]; rfl)) (hJ1_3 (v794, v797) _ ⟨hHeld, (by (with_reducible repeat (first | apply Kd.R_alloc | apply Kd.R_drewN | apply Kd.R_drew)); exact Kd.R_mono HO795.out (fun _ hk => hk.2)), (by (with_reducible repeat (first | apply Kd.R_alloc | apply Kd.R_drewN | apply Kd.R_drew)); exact Kd.R_mono HO798.out (fun _ hk => hk.2)), (bo BK788.out), (bo BK789.out), (bo BK790.out), bw⟩)
              ·skip
               refine box_step ?hg (N := 6) ?hd (cs := #[.slice none 0 0]) (t := 27) ?hr ?_; (case hd => rfl); (case hg => rfl); (case hr => first | (go_simp; done) | (go_simp; rfl))
               intro gb809 hg w33 hbox hb
               replace HO795 := Aside0.mk (Kd.R_below (ro HO795.out) hb)
               have BK809 := Aside0.mk (hbox)
               have GW809 := Aside0.mk (gs hg : w.heap.size ≤ gb809)
               have GE809 := Aside0.mk (gs hg : w.heap.size ≤ gb809)
               replace HB := Aside0.mk (below_step bw hb)
               have NB788_809 := Aside0.mk ((by rw [hg]; exact Nat.ne_of_lt (blk_lt (g := gb788) (o := .cells #[.slice A0_0 l0_0.length c0_0] 27 (0, 0)) (bo BK788.out)) : gb788 ≠ gb809))
               have NB809_788 := Aside0.mk ((by rw [hg]; exact Nat.ne_of_gt (blk_lt (g := gb788) (o := .cells #[.slice A0_0 l0_0.length c0_0] 27 (0, 0)) (bo BK788.out)) : gb809 ≠ gb788))
               replace BK788 := Aside0.mk (blk_below (g := gb788) (o := .cells #[.slice A0_0 l0_0.length c0_0] 27 (0, 0)) (bo BK788.out) hb)
               have NB789_809 := Aside0.mk ((by rw [hg]; exact Nat.ne_of_lt (blk_lt (g := gb789) (o := .cells #[.slice A1_0 l1_0.length c1_0] 27 (0, 0)) (bo BK789.out)) : gb789 ≠ gb809))
               have NB809_789 := Aside0.mk ((by rw [hg]; exact Nat.ne_of_gt (blk_lt (g := gb789) (o := .cells #[.slice A1_0 l1_0.length c1_0] 27 (0, 0)) (bo BK789.out)) : gb809 ≠ gb789))
               replace BK789 := Aside0.mk (blk_below (g := gb789) (o := .cells #[.slice A1_0 l1_0.length c1_0] 27 (0, 0)) (bo BK789.out) hb)
               have NB790_809 := Aside0.mk ((by rw [hg]; exact Nat.ne_of_lt (blk_lt (g := gb790) (o := .cells #[.slice none 0 0] 27 (0, 0)) (bo BK790.out)) : gb790 ≠ gb809))
               have NB809_790 := Aside0.mk ((by rw [hg]; exact Nat.ne_of_gt (blk_lt (g := gb790) (o := .cells #[.slice none 0 0] 27 (0, 0)) (bo BK790.out)) : gb809 ≠ gb790))
               replace BK790 := Aside0.mk (blk_below (g := gb790) (o := .cells #[.slice none 0 0] 27 (0, 0)) (bo BK790.out) hb)
               clear hb hbox hg
               refine hK.out _ _ ⟨(blk_cell BK788.out 0).trans rfl, (blk_cell BK789.out 0).trans rfl⟩ (fun hHeld => ?_)
               clear hK K
               refine norm_ (a' := ?_) ?_ ?_
               rotate_left
               ·show Act.put _ (some 6) _ = _
                simp only [Act.put, qa, qb, qc, i64_w, i32_w]
                rfl
               exact norm_ (by first | (simp only [putAll, Act.put, List.setIfInBounds_toArray, List.set_cons_zero, List.set_cons_succ]; done) | (simp only [putAll, Act.put, List.setIfInBounds_toArray, List.set_cons_zero, List.set_cons_succ]; rfl)) (hJ1_10 (v794, gb809) _ ⟨hHeld, (ro HO795.out), (bo BK788.out), (bo BK789.out), (bo BK790.out), (bo BK809.out), GW809.out, GE809.out, NB788_809.out, NB809_788.out, NB789_809.out, NB809_789.out, NB790_809.out, NB809_790.out, bw⟩)
            ·skip
             rintro ⟨v794, gb809⟩ w33 ⟨hS_, h0_, h1_, h2_, h3_, h4_, h5_, h6_, h7_, h8_, h9_, h10_, h11_, h12_, h13_⟩
             have n0_ : Aside0 (Kd.R (Kd.int .i64) 3 w33 w.heap.size (fun _ => True) v794 t793) := ⟨h0_⟩
             have n1_ : Aside0 (w33.heap[gb788]? = some (.cells #[.slice A0_0 l0_0.length c0_0] 27 (0, 0))) := ⟨h1_⟩
             have n2_ : Aside0 (w33.heap[gb789]? = some (.cells #[.slice A1_0 l1_0.length c1_0] 27 (0, 0))) := ⟨h2_⟩
             have n3_ : Aside0 (w33.heap[gb790]? = some (.cells #[.slice none 0 0] 27 (0, 0))) := ⟨h3_⟩
             have n4_ : Aside0 (w33.heap[gb809]? = some (.cells #[.slice none 0 0] 27 (0, 0))) := ⟨h4_⟩
             have n5_ : Aside0 (w.heap.size ≤ gb809) := ⟨h5_⟩
             have n6_ : Aside0 (w.heap.size ≤ gb809) := ⟨h6_⟩
             have n7_ : Aside0 (gb788 ≠ gb809) := ⟨h7_⟩
             have n8_ : Aside0 (gb809 ≠ gb788) := ⟨h8_⟩
             have n9_ : Aside0 (gb789 ≠ gb809) := ⟨h9_⟩
             have n10_ : Aside0 (gb809 ≠ gb789) := ⟨h10_⟩
             have n11_ : Aside0 (gb790 ≠ gb809) := ⟨h11_⟩
             have n12_ : Aside0 (gb809 ≠ gb790) := ⟨h12_⟩
             have n13_ : Aside0 (Below w.heap.size w w33) := ⟨h13_⟩
             clear BK788
             clear BK789
             clear BK790
             clear HB
             clear h0_ h1_ h2_ h3_ h4_ h5_ h6_ h7_ h8_ h9_ h10_ h11_ h12_ h13_
             have HO795 := n0_
             have BK788 := n1_
             have BK789 := n2_
             have BK790 := n3_
             have BK809 := n4_
             have GW809 := n5_
             have GE809 := n6_
             have NB788_809 := n7_
             have NB809_788 := n8_
             have NB789_809 := n9_
             have NB809_789 := n10_
             have NB790_809 := n11_
             have NB809_790 := n12_
             have HB := n13_
             clear n0_ n1_ n2_ n3_ n4_ n5_ n6_ n7_ n8_ n9_ n10_ n11_ n12_ n13_
             have hHeld : w33.cell? ⟨gb788, 0, none⟩ = some (.slice A0_0 l0_0.length c0_0) ∧ w33.cell? ⟨gb789, 0, none⟩ = some (.slice A1_0 l1_0.length c1_0) := hS_
             refine norm_ (a' := ?_) ?_ ?_
             rotate_left
             ·simp only [putAll, Act.put, List.setIfInBounds_toArray, List.set_cons_zero, List.set_cons_succ]
              rfl
             refine oa 3 (some 21) #[Y,Y,Y,Y,Z,Z,Z,Z,Z,Z,Y,Z,Z] HT_ (fun K hK => ?_)
             refine gm Try.func82 #[.agg #[.slice A1_0 l1_0.length c1_0]] ?_
             with_reducible refine (spec_l4Gaps.calls kj2 _ _ l1_0 t796 _ ?side1 ?side2 A26.out).mono ?_
             (case side1 => exact co (Kd.C_below HR1_0.out HB.out))
             (case side2 => exact HC1_0.out)
             rintro e w34 ⟨v797, rfl, ho0, hb⟩
             refine ⟨_, rfl, ?_⟩
             have HO798 := Aside0.mk (Kd.R_lower (Kd.R_new' ho0 (Kd.R_lt (ro HO795.out))) (below_size bw))
             replace HO795 := Aside0.mk (Kd.R_elder' (ro HO795.out) (Kd.R_base ho0) hb)
             replace BK788 := Aside0.mk (blk_below (g := gb788) (o := .cells #[.slice A0_0 l0_0.length c0_0] 27 (0, 0)) (bo BK788.out) hb)
             replace BK789 := Aside0.mk (blk_below (g := gb789) (o := .cells #[.slice A1_0 l1_0.length c1_0] 27 (0, 0)) (bo BK789.out) hb)
             replace BK790 := Aside0.mk (blk_below (g := gb790) (o := .cells #[.slice none 0 0] 27 (0, 0)) (bo BK790.out) hb)
             replace BK809 := Aside0.mk (blk_below (g := gb809) (o := .cells #[.slice none 0 0] 27 (0, 0)) (bo BK809.out) hb)
             replace HB := Aside0.mk (below_step bw hb)
             clear hb ho0
             refine hK.out _ _ ⟨(blk_cell BK788.out 0).trans rfl, (blk_cell BK789.out 0).trans rfl⟩ (fun hHeld => ?_)
             clear hK K
             refine norm_ (a' := ?_) ?_ ?_
             rotate_left
             ·show Act.put _ (some 21) _ = _
              simp only [Act.put, qa, qb, qc, i64_w, i32_w]
              rfl
             exact norm_ (by first | (simp only [putAll, Act.put, List.setIfInBounds_toArray, List.set_cons_zero, List.set_cons_succ]; done) | (simp only [putAll, Act.put, List.setIfInBounds_toArray, List.set_cons_zero, List.set_cons_succ]; rfl)) (hJ1_3_10 (v794, v797, gb809) _ ⟨hHeld, (by (with_reducible repeat (first | apply Kd.R_alloc | apply Kd.R_drewN | apply Kd.R_drew)); exact Kd.R_mono HO795.out (fun _ hk => hk.2)), (by (with_reducible repeat (first | apply Kd.R_alloc | apply Kd.R_drewN | apply Kd.R_drew)); exact Kd.R_mono HO798.out (fun _ hk => hk.2)), (bo BK788.out), (bo BK789.out), (bo BK790.out), (bo BK809.out), GW809.out, GE809.out, NB788_809.out, NB809_788.out, NB789_809.out, NB809_789.out, NB790_809.out, NB809_790.out, bw⟩)
           ·skip
            rintro ⟨v794, v797⟩ w33 ⟨hS_, h0_, h1_, h2_, h3_, h4_, h5_⟩
            have n0_ : Aside0 (Kd.R (Kd.int .i64) 3 w33 w.heap.size (fun k_ => some k_ ≠ (v797 : Value).ownBlock) v794 t793) := ⟨h0_⟩
            have n1_ : Aside0 (Kd.R (Kd.int .i64) 3 w33 w.heap.size (fun k_ => some k_ ≠ (v794 : Value).ownBlock) v797 t796) := ⟨h1_⟩
            have n2_ : Aside0 (w33.heap[gb788]? = some (.cells #[.slice A0_0 l0_0.length c0_0] 27 (0, 0))) := ⟨h2_⟩
            have n3_ : Aside0 (w33.heap[gb789]? = some (.cells #[.slice A1_0 l1_0.length c1_0] 27 (0, 0))) := ⟨h3_⟩
            have n4_ : Aside0 (w33.heap[gb790]? = some (.cells #[.slice none 0 0] 27 (0, 0))) := ⟨h4_⟩
            have n5_ : Aside0 (Below w.heap.size w w33) := ⟨h5_⟩
            clear BK788
            clear BK789
            clear BK790
            clear HB
            clear h0_ h1_ h2_ h3_ h4_ h5_
            have HO795 := n0_
            have HO798 := n1_
            have BK788 := n2_
            have BK789 := n3_
            have BK790 := n4_
            have HB := n5_
            clear n0_ n1_ n2_ n3_ n4_ n5_
            have hHeld : w33.cell? ⟨gb788, 0, none⟩ = some (.slice A0_0 l0_0.length c0_0) ∧ w33.cell? ⟨gb789, 0, none⟩ = some (.slice A1_0 l1_0.length c1_0) := hS_
            obtain ⟨Ao35, co35, eo35⟩ := Kd.R_slice HO798.out
            (first | subst eo35 | (injection eo35 with f1_ f2_ f3_; have f4_ := f1_.symm; have f5_ := f3_.symm; clear f1_ f2_ f3_; subst f4_; subst f5_))
            refine norm_ (a' := ?_) ?_ ?_
            rotate_left
            ·simp only [putAll, Act.put, List.setIfInBounds_toArray, List.set_cons_zero, List.set_cons_succ]
             rfl
            refine two_ (i := 4) (j := 10) (Ni := some 22) (Nj := some 6) #[Y,Y,Y,Y,Y,Z,Z,Z,Z,Z,Z,Z,Z] #[Y,Y,Y,Y,Z,Z,Z,Z,Z,Z,Y,Z,Z] rfl rfl rfl rfl (two_of HT_.out (by kernel_rfl)) (by decide) (by decide) (fun K hK => ?_) (fun K hK => ?_)
            ·skip
             refine Kd.R_append_rows_step (Kd.int .i64) (w0 := w) w.heap.size (by rfl) (.tmp 19) (.tmp 21) 22 3 (.int .i64 0) 8 rfl Try.underlying22 info3 rfl (by decide) (by omega) v794 t793 t796 _ _ _ (fun k_ => some k_ ≠ (.slice Ao35 t796.length co35 : Value).ownBlock) (fun _ => False) rfl rfl ?aO ?aR (fun _ _ h => h) (fun _ h => h.elim) ?aF ?aB ?aS ?aL ?_
             (case aR => exact co (Kd.R_reads' HO798.out).2.2)
             (case aB => exact bw)
             (case aF => exact (fun k_ hk => Kd.fresh' (Kd.R_lt (ro HO798.out)) k_ hk))
             (case aO => exact (ro HO795.out))
             (case aS => exact (below_size bw))
             (case aL => have := LMc27.out; omega)
             intro v800 w34 ho hb hg hat
             rw [← Ny799.out] at ho
             replace BK788 := Aside0.mk (blk_grown (g := gb788) (o := .cells #[.slice A0_0 l0_0.length c0_0] 27 (0, 0)) (bo BK788.out) hg (Kd.R_ne HO795.out BK788.out (by decide)))
             replace BK789 := Aside0.mk (blk_grown (g := gb789) (o := .cells #[.slice A1_0 l1_0.length c1_0] 27 (0, 0)) (bo BK789.out) hg (Kd.R_ne HO795.out BK789.out (by decide)))
             replace BK790 := Aside0.mk (blk_grown (g := gb790) (o := .cells #[.slice none 0 0] 27 (0, 0)) (bo BK790.out) hg (Kd.R_ne HO795.out BK790.out (by decide)))
             replace HO798 := Aside0.mk (Kd.R_after (ok := (fun _ => True)) (by (with_reducible repeat (first | apply Kd.R_alloc | apply Kd.R_drewN | apply Kd.R_drew)); exact Kd.R_mono HO798.out (fun _ hk => ⟨trivial, by first | exact hk | exact (by intro a n m c x h; cases a <;> exact h : ∀ (a : Option Addr) (n m c x : Nat), some x ≠ (Value.slice a n c).ownBlock → some x ≠ (Value.slice a m c).ownBlock) _ _ _ _ _ hk⟩)) hg hat)
             replace HB := Aside0.mk (hb)
             have HO801 := Aside0.mk (ho)
             clear HO795 ho hb hg hat
             refine hK.out _ _ ⟨(blk_cell BK788.out 0).trans rfl, (blk_cell BK789.out 0).trans rfl⟩ (fun hHeld => ?_)
             clear hK K
             refine norm_ (a' := ?_) ?_ ?_
             rotate_left
             ·show Act.put _ (some 22) _ = _
              simp only [Act.put, qa, qb, qc, i64_w, i32_w]
              rfl
             exact norm_ (by first | (simp only [putAll, Act.put, List.setIfInBounds_toArray, List.set_cons_zero, List.set_cons_succ]; done) | (simp only [putAll, Act.put, List.setIfInBounds_toArray, List.set_cons_zero, List.set_cons_succ]; rfl)) (hJ1_3_4 (v794, .slice Ao35 t796.length co35, v800) _ ⟨hHeld, (by (with_reducible repeat (first | apply Kd.R_alloc | apply Kd.R_drewN | apply Kd.R_drew)); exact Kd.R_mono HO798.out (fun _ hk => hk.2)), (ro HO801.out), (bo BK788.out), (bo BK789.out), (bo BK790.out), bw⟩)
            ·skip
             refine box_step ?hg (N := 6) ?hd (cs := #[.slice none 0 0]) (t := 27) ?hr ?_; (case hd => rfl); (case hg => rfl); (case hr => first | (go_simp; done) | (go_simp; rfl))
             intro gb809 hg w34 hbox hb
             replace HO795 := Aside0.mk (Kd.R_below (ro HO795.out) hb)
             replace HO798 := Aside0.mk (Kd.R_below (ro HO798.out) hb)
             have BK809 := Aside0.mk (hbox)
             have GW809 := Aside0.mk (gs hg : w.heap.size ≤ gb809)
             have GE809 := Aside0.mk (gs hg : w.heap.size ≤ gb809)
             replace HB := Aside0.mk (below_step bw hb)
             have NB788_809 := Aside0.mk ((by rw [hg]; exact Nat.ne_of_lt (blk_lt (g := gb788) (o := .cells #[.slice A0_0 l0_0.length c0_0] 27 (0, 0)) (bo BK788.out)) : gb788 ≠ gb809))
             have NB809_788 := Aside0.mk ((by rw [hg]; exact Nat.ne_of_gt (blk_lt (g := gb788) (o := .cells #[.slice A0_0 l0_0.length c0_0] 27 (0, 0)) (bo BK788.out)) : gb809 ≠ gb788))
             replace BK788 := Aside0.mk (blk_below (g := gb788) (o := .cells #[.slice A0_0 l0_0.length c0_0] 27 (0, 0)) (bo BK788.out) hb)
             have NB789_809 := Aside0.mk ((by rw [hg]; exact Nat.ne_of_lt (blk_lt (g := gb789) (o := .cells #[.slice A1_0 l1_0.length c1_0] 27 (0, 0)) (bo BK789.out)) : gb789 ≠ gb809))
             have NB809_789 := Aside0.mk ((by rw [hg]; exact Nat.ne_of_gt (blk_lt (g := gb789) (o := .cells #[.slice A1_0 l1_0.length c1_0] 27 (0, 0)) (bo BK789.out)) : gb809 ≠ gb789))
             replace BK789 := Aside0.mk (blk_below (g := gb789) (o := .cells #[.slice A1_0 l1_0.length c1_0] 27 (0, 0)) (bo BK789.out) hb)
             have NB790_809 := Aside0.mk ((by rw [hg]; exact Nat.ne_of_lt (blk_lt (g := gb790) (o := .cells #[.slice none 0 0] 27 (0, 0)) (bo BK790.out)) : gb790 ≠ gb809))
             have NB809_790 := Aside0.mk ((by rw [hg]; exact Nat.ne_of_gt (blk_lt (g := gb790) (o := .cells #[.slice none 0 0] 27 (0, 0)) (bo BK790.out)) : gb809 ≠ gb790))
             replace BK790 := Aside0.mk (blk_below (g := gb790) (o := .cells #[.slice none 0 0] 27 (0, 0)) (bo BK790.out) hb)
             clear hb hbox hg
             refine hK.out _ _ ⟨(blk_cell BK788.out 0).trans rfl, (blk_cell BK789.out 0).trans rfl⟩ (fun hHeld => ?_)
             clear hK K
             refine norm_ (a' := ?_) ?_ ?_
             rotate_left
             ·show Act.put _ (some 6) _ = _
              simp only [Act.put, qa, qb, qc, i64_w, i32_w]
              rfl
             exact norm_ (by first | (simp only [putAll, Act.put, List.setIfInBounds_toArray, List.set_cons_zero, List.set_cons_succ]; done) | (simp only [putAll, Act.put, List.setIfInBounds_toArray, List.set_cons_zero, List.set_cons_succ]; rfl)) (hJ1_3_10 (v794, .slice Ao35 t796.length co35, gb809) _ ⟨hHeld, (ro HO795.out), (ro HO798.out), (bo BK788.out), (bo BK789.out), (bo BK790.out), (bo BK809.out), GW809.out, GE809.out, NB788_809.out, NB809_788.out, NB789_809.out, NB809_789.out, NB790_809.out, NB809_790.out, bw⟩)
          ·skip
           rintro ⟨v794, v797, gb809⟩ w34 ⟨hS_, h0_, h1_, h2_, h3_, h4_, h5_, h6_, h7_, h8_, h9_, h10_, h11_, h12_, h13_, h14_⟩
           have n0_ : Aside0 (Kd.R (Kd.int .i64) 3 w34 w.heap.size (fun k_ => some k_ ≠ (v797 : Value).ownBlock) v794 t793) := ⟨h0_⟩
           have n1_ : Aside0 (Kd.R (Kd.int .i64) 3 w34 w.heap.size (fun k_ => some k_ ≠ (v794 : Value).ownBlock) v797 t796) := ⟨h1_⟩
           have n2_ : Aside0 (w34.heap[gb788]? = some (.cells #[.slice A0_0 l0_0.length c0_0] 27 (0, 0))) := ⟨h2_⟩
           have n3_ : Aside0 (w34.heap[gb789]? = some (.cells #[.slice A1_0 l1_0.length c1_0] 27 (0, 0))) := ⟨h3_⟩
           have n4_ : Aside0 (w34.heap[gb790]? = some (.cells #[.slice none 0 0] 27 (0, 0))) := ⟨h4_⟩
           have n5_ : Aside0 (w34.heap[gb809]? = some (.cells #[.slice none 0 0] 27 (0, 0))) := ⟨h5_⟩
           have n6_ : Aside0 (w.heap.size ≤ gb809) := ⟨h6_⟩
           have n7_ : Aside0 (w.heap.size ≤ gb809) := ⟨h7_⟩
           have n8_ : Aside0 (gb788 ≠ gb809) := ⟨h8_⟩
           have n9_ : Aside0 (gb809 ≠ gb788) := ⟨h9_⟩
           have n10_ : Aside0 (gb789 ≠ gb809) := ⟨h10_⟩
           have n11_ : Aside0 (gb809 ≠ gb789) := ⟨h11_⟩
           have n12_ : Aside0 (gb790 ≠ gb809) := ⟨h12_⟩
           have n13_ : Aside0 (gb809 ≠ gb790) := ⟨h13_⟩
           have n14_ : Aside0 (Below w.heap.size w w34) := ⟨h14_⟩
           clear BK788
           clear BK789
           clear BK790
           clear HB
           clear h0_ h1_ h2_ h3_ h4_ h5_ h6_ h7_ h8_ h9_ h10_ h11_ h12_ h13_ h14_
           have HO795 := n0_
           have HO798 := n1_
           have BK788 := n2_
           have BK789 := n3_
           have BK790 := n4_
           have BK809 := n5_
           have GW809 := n6_
           have GE809 := n7_
           have NB788_809 := n8_
           have NB809_788 := n9_
           have NB789_809 := n10_
           have NB809_789 := n11_
           have NB790_809 := n12_
           have NB809_790 := n13_
           have HB := n14_
           clear n0_ n1_ n2_ n3_ n4_ n5_ n6_ n7_ n8_ n9_ n10_ n11_ n12_ n13_ n14_
           have hHeld : w34.cell? ⟨gb788, 0, none⟩ = some (.slice A0_0 l0_0.length c0_0) ∧ w34.cell? ⟨gb789, 0, none⟩ = some (.slice A1_0 l1_0.length c1_0) := hS_
           obtain ⟨Ao36, co36, eo36⟩ := Kd.R_slice HO798.out
           (first | subst eo36 | (injection eo36 with f1_ f2_ f3_; have f4_ := f1_.symm; have f5_ := f3_.symm; clear f1_ f2_ f3_; subst f4_; subst f5_))
           refine norm_ (a' := ?_) ?_ ?_
           rotate_left
           ·simp only [putAll, Act.put, List.setIfInBounds_toArray, List.set_cons_zero, List.set_cons_succ]
            rfl
           refine oa 4 (some 22) #[Y,Y,Y,Y,Y,Z,Z,Z,Z,Z,Y,Z,Z] HT_ (fun K hK => ?_)
           refine Kd.R_append_rows_step (Kd.int .i64) (w0 := w) w.heap.size (by rfl) (.tmp 19) (.tmp 21) 22 3 (.int .i64 0) 8 rfl Try.underlying22 info3 rfl (by decide) (by omega) v794 t793 t796 _ _ _ (fun k_ => some k_ ≠ (.slice Ao36 t796.length co36 : Value).ownBlock) (fun _ => False) rfl rfl ?aO ?aR (fun _ _ h => h) (fun _ h => h.elim) ?aF ?aB ?aS ?aL ?_
           (case aR => exact co (Kd.R_reads' HO798.out).2.2)
           (case aB => exact bw)
           (case aF => exact (fun k_ hk => Kd.fresh' (Kd.R_lt (ro HO798.out)) k_ hk))
           (case aO => exact (ro HO795.out))
           (case aS => exact (below_size bw))
           (case aL => have := LMc27.out; omega)
           intro v800 w35 ho hb hg hat
           rw [← Ny799.out] at ho
           replace BK788 := Aside0.mk (blk_grown (g := gb788) (o := .cells #[.slice A0_0 l0_0.length c0_0] 27 (0, 0)) (bo BK788.out) hg (Kd.R_ne HO795.out BK788.out (by decide)))
           replace BK789 := Aside0.mk (blk_grown (g := gb789) (o := .cells #[.slice A1_0 l1_0.length c1_0] 27 (0, 0)) (bo BK789.out) hg (Kd.R_ne HO795.out BK789.out (by decide)))
           replace BK790 := Aside0.mk (blk_grown (g := gb790) (o := .cells #[.slice none 0 0] 27 (0, 0)) (bo BK790.out) hg (Kd.R_ne HO795.out BK790.out (by decide)))
           replace HO798 := Aside0.mk (Kd.R_after (ok := (fun _ => True)) (by (with_reducible repeat (first | apply Kd.R_alloc | apply Kd.R_drewN | apply Kd.R_drew)); exact Kd.R_mono HO798.out (fun _ hk => ⟨trivial, by first | exact hk | exact (by intro a n m c x h; cases a <;> exact h : ∀ (a : Option Addr) (n m c x : Nat), some x ≠ (Value.slice a n c).ownBlock → some x ≠ (Value.slice a m c).ownBlock) _ _ _ _ _ hk⟩)) hg hat)
           replace BK809 := Aside0.mk (blk_grown (g := gb809) (o := .cells #[.slice none 0 0] 27 (0, 0)) (bo BK809.out) hg (Kd.R_ne HO795.out BK809.out (by decide)))
           replace HB := Aside0.mk (hb)
           have HO801 := Aside0.mk (ho)
           clear HO795 ho hb hg hat
           refine hK.out _ _ ⟨(blk_cell BK788.out 0).trans rfl, (blk_cell BK789.out 0).trans rfl⟩ (fun hHeld => ?_)
           clear hK K
           refine norm_ (a' := ?_) ?_ ?_
           rotate_left
           ·show Act.put _ (some 22) _ = _
            simp only [Act.put, qa, qb, qc, i64_w, i32_w]
            rfl
           exact norm_ (by first | (simp only [putAll, Act.put, List.setIfInBounds_toArray, List.set_cons_zero, List.set_cons_succ]; done) | (simp only [putAll, Act.put, List.setIfInBounds_toArray, List.set_cons_zero, List.set_cons_succ]; rfl)) (hJ1_3_4_10 (v794, .slice Ao36 t796.length co36, v800, gb809) _ ⟨hHeld, (by (with_reducible repeat (first | apply Kd.R_alloc | apply Kd.R_drewN | apply Kd.R_drew)); exact Kd.R_mono HO798.out (fun _ hk => hk.2)), (ro HO801.out), (bo BK788.out), (bo BK789.out), (bo BK790.out), (bo BK809.out), GW809.out, GE809.out, NB788_809.out, NB809_788.out, NB789_809.out, NB809_789.out, NB790_809.out, NB809_790.out, bw⟩)
         ·skip
          rintro ⟨v794, v797, v800⟩ w35 ⟨hS_, h0_, h1_, h2_, h3_, h4_, h5_⟩
          have n0_ : Aside0 (Kd.R (Kd.int .i64) 3 w35 w.heap.size (fun k_ => some k_ ≠ (v800 : Value).ownBlock) v797 t796) := ⟨h0_⟩
          have n1_ : Aside0 (Kd.R (Kd.int .i64) 3 w35 w.heap.size (fun k_ => some k_ ≠ (v797 : Value).ownBlock) v800 y799) := ⟨h1_⟩
          have n2_ : Aside0 (w35.heap[gb788]? = some (.cells #[.slice A0_0 l0_0.length c0_0] 27 (0, 0))) := ⟨h2_⟩
          have n3_ : Aside0 (w35.heap[gb789]? = some (.cells #[.slice A1_0 l1_0.length c1_0] 27 (0, 0))) := ⟨h3_⟩
          have n4_ : Aside0 (w35.heap[gb790]? = some (.cells #[.slice none 0 0] 27 (0, 0))) := ⟨h4_⟩
          have n5_ : Aside0 (Below w.heap.size w w35) := ⟨h5_⟩
          clear BK788
          clear BK789
          clear BK790
          clear HB
          clear h0_ h1_ h2_ h3_ h4_ h5_
          have HO798 := n0_
          have HO801 := n1_
          have BK788 := n2_
          have BK789 := n3_
          have BK790 := n4_
          have HB := n5_
          clear n0_ n1_ n2_ n3_ n4_ n5_
          have hHeld : w35.cell? ⟨gb788, 0, none⟩ = some (.slice A0_0 l0_0.length c0_0) ∧ w35.cell? ⟨gb789, 0, none⟩ = some (.slice A1_0 l1_0.length c1_0) := hS_
          obtain ⟨Ao36, co36, eo36⟩ := Kd.R_slice HO801.out
          (first | subst eo36 | (injection eo36 with f1_ f2_ f3_; have f4_ := f1_.symm; have f5_ := f3_.symm; clear f1_ f2_ f3_; subst f4_; subst f5_))
          refine norm_ (a' := ?_) ?_ ?_
          rotate_left
          ·simp only [putAll, Act.put, List.setIfInBounds_toArray, List.set_cons_zero, List.set_cons_succ]
           rfl
          refine two_ (i := 5) (j := 10) (Ni := some 23) (Nj := some 6) #[Y,Y,Y,Y,Y,Y,Z,Z,Z,Z,Z,Z,Z] #[Y,Y,Y,Y,Y,Z,Z,Z,Z,Z,Y,Z,Z] rfl rfl rfl rfl (two_of HT_.out (by kernel_rfl)) (by decide) (by decide) (fun K hK => ?_) (fun K hK => ?_)
          ·skip
           refine gm Try.func57 #[.slice Ao36 y799.length co36] ?_
           with_reducible refine (spec_SortList.calls kj2 _ _ y799 t802 _ ?side1 ?side2 A28.out).mono ?_
           (case side1 => exact co (Kd.R_reads' HO801.out).2.2)
           (case side2 => exact (Kd.R_reads' HO801.out).2.1)
           rintro e w37 ⟨v803, rfl, ho0, hb⟩
           refine ⟨_, rfl, ?_⟩
           have HO804 := Aside0.mk (Kd.R_lower (Kd.R_new' (Kd.R_new' ho0 (Kd.R_lt (ro HO798.out))) (Kd.R_lt (ro HO801.out))) (below_size bw))
           replace HO798 := Aside0.mk (Kd.R_elder' (ro HO798.out) (Kd.R_base ho0) hb)
           replace HO801 := Aside0.mk (Kd.R_elder' (ro HO801.out) (Kd.R_base ho0) hb)
           replace BK788 := Aside0.mk (blk_below (g := gb788) (o := .cells #[.slice A0_0 l0_0.length c0_0] 27 (0, 0)) (bo BK788.out) hb)
           replace BK789 := Aside0.mk (blk_below (g := gb789) (o := .cells #[.slice A1_0 l1_0.length c1_0] 27 (0, 0)) (bo BK789.out) hb)
           replace BK790 := Aside0.mk (blk_below (g := gb790) (o := .cells #[.slice none 0 0] 27 (0, 0)) (bo BK790.out) hb)
           replace HB := Aside0.mk (below_step bw hb)
           clear hb ho0
           refine hK.out _ _ ⟨(blk_cell BK788.out 0).trans rfl, (blk_cell BK789.out 0).trans rfl⟩ (fun hHeld => ?_)
           clear hK K
           refine norm_ (a' := ?_) ?_ ?_
           rotate_left
           ·show Act.put _ (some 23) _ = _
            simp only [Act.put, qa, qb, qc, i64_w, i32_w]
            rfl
           exact norm_ (by first | (simp only [putAll, Act.put, List.setIfInBounds_toArray, List.set_cons_zero, List.set_cons_succ]; done) | (simp only [putAll, Act.put, List.setIfInBounds_toArray, List.set_cons_zero, List.set_cons_succ]; rfl)) (hJ1_3_4_5 (v794, v797, .slice Ao36 y799.length co36, v803) _ ⟨hHeld, (ro HO798.out), (ro HO801.out), (by (with_reducible repeat (first | apply Kd.R_alloc | apply Kd.R_drewN | apply Kd.R_drew)); exact Kd.R_mono HO804.out (fun _ hk => by first | exact ⟨hk.1.2, hk.2⟩ | simp_all)), (bo BK788.out), (bo BK789.out), (bo BK790.out), bw⟩)
          ·skip
           refine box_step ?hg (N := 6) ?hd (cs := #[.slice none 0 0]) (t := 27) ?hr ?_; (case hd => rfl); (case hg => rfl); (case hr => first | (go_simp; done) | (go_simp; rfl))
           intro gb809 hg w36 hbox hb
           replace HO798 := Aside0.mk (Kd.R_below (ro HO798.out) hb)
           replace HO801 := Aside0.mk (Kd.R_below (ro HO801.out) hb)
           have BK809 := Aside0.mk (hbox)
           have GW809 := Aside0.mk (gs hg : w.heap.size ≤ gb809)
           have GE809 := Aside0.mk (gs hg : w.heap.size ≤ gb809)
           replace HB := Aside0.mk (below_step bw hb)
           have NB788_809 := Aside0.mk ((by rw [hg]; exact Nat.ne_of_lt (blk_lt (g := gb788) (o := .cells #[.slice A0_0 l0_0.length c0_0] 27 (0, 0)) (bo BK788.out)) : gb788 ≠ gb809))
           have NB809_788 := Aside0.mk ((by rw [hg]; exact Nat.ne_of_gt (blk_lt (g := gb788) (o := .cells #[.slice A0_0 l0_0.length c0_0] 27 (0, 0)) (bo BK788.out)) : gb809 ≠ gb788))
           replace BK788 := Aside0.mk (blk_below (g := gb788) (o := .cells #[.slice A0_0 l0_0.length c0_0] 27 (0, 0)) (bo BK788.out) hb)
           have NB789_809 := Aside0.mk ((by rw [hg]; exact Nat.ne_of_lt (blk_lt (g := gb789) (o := .cells #[.slice A1_0 l1_0.length c1_0] 27 (0, 0)) (bo BK789.out)) : gb789 ≠ gb809))
           have NB809_789 := Aside0.mk ((by rw [hg]; exact Nat.ne_of_gt (blk_lt (g := gb789) (o := .cells #[.slice A1_0 l1_0.length c1_0] 27 (0, 0)) (bo BK789.out)) : gb809 ≠ gb789))
           replace BK789 := Aside0.mk (blk_below (g := gb789) (o := .cells #[.slice A1_0 l1_0.length c1_0] 27 (0, 0)) (bo BK789.out) hb)
           have NB790_809 := Aside0.mk ((by rw [hg]; exact Nat.ne_of_lt (blk_lt (g := gb790) (o := .cells #[.slice none 0 0] 27 (0, 0)) (bo BK790.out)) : gb790 ≠ gb809))
           have NB809_790 := Aside0.mk ((by rw [hg]; exact Nat.ne_of_gt (blk_lt (g := gb790) (o := .cells #[.slice none 0 0] 27 (0, 0)) (bo BK790.out)) : gb809 ≠ gb790))
           replace BK790 := Aside0.mk (blk_below (g := gb790) (o := .cells #[.slice none 0 0] 27 (0, 0)) (bo BK790.out) hb)
           clear hb hbox hg
           refine hK.out _ _ ⟨(blk_cell BK788.out 0).trans rfl, (blk_cell BK789.out 0).trans rfl⟩ (fun hHeld => ?_)
           clear hK K
           refine norm_ (a' := ?_) ?_ ?_
           rotate_left
           ·show Act.put _ (some 6) _ = _
            simp only [Act.put, qa, qb, qc, i64_w, i32_w]
            rfl
           exact norm_ (by first | (simp only [putAll, Act.put, List.setIfInBounds_toArray, List.set_cons_zero, List.set_cons_succ]; done) | (simp only [putAll, Act.put, List.setIfInBounds_toArray, List.set_cons_zero, List.set_cons_succ]; rfl)) (hJ1_3_4_10 (v794, v797, .slice Ao36 y799.length co36, gb809) _ ⟨hHeld, (ro HO798.out), (ro HO801.out), (bo BK788.out), (bo BK789.out), (bo BK790.out), (bo BK809.out), GW809.out, GE809.out, NB788_809.out, NB809_788.out, NB789_809.out, NB809_789.out, NB790_809.out, NB809_790.out, bw⟩)
        ·skip
         rintro ⟨v794, v797, v800, gb809⟩ w36 ⟨hS_, h0_, h1_, h2_, h3_, h4_, h5_, h6_, h7_, h8_, h9_, h10_, h11_, h12_, h13_, h14_⟩
         have n0_ : Aside0 (Kd.R (Kd.int .i64) 3 w36 w.heap.size (fun k_ => some k_ ≠ (v800 : Value).ownBlock) v797 t796) := ⟨h0_⟩
         have n1_ : Aside0 (Kd.R (Kd.int .i64) 3 w36 w.heap.size (fun k_ => some k_ ≠ (v797 : Value).ownBlock) v800 y799) := ⟨h1_⟩
         have n2_ : Aside0 (w36.heap[gb788]? = some (.cells #[.slice A0_0 l0_0.length c0_0] 27 (0, 0))) := ⟨h2_⟩
         have n3_ : Aside0 (w36.heap[gb789]? = some (.cells #[.slice A1_0 l1_0.length c1_0] 27 (0, 0))) := ⟨h3_⟩
         have n4_ : Aside0 (w36.heap[gb790]? = some (.cells #[.slice none 0 0] 27 (0, 0))) := ⟨h4_⟩
         have n5_ : Aside0 (w36.heap[gb809]? = some (.cells #[.slice none 0 0] 27 (0, 0))) := ⟨h5_⟩
         have n6_ : Aside0 (w.heap.size ≤ gb809) := ⟨h6_⟩
         have n7_ : Aside0 (w.heap.size ≤ gb809) := ⟨h7_⟩
         have n8_ : Aside0 (gb788 ≠ gb809) := ⟨h8_⟩
         have n9_ : Aside0 (gb809 ≠ gb788) := ⟨h9_⟩
         have n10_ : Aside0 (gb789 ≠ gb809) := ⟨h10_⟩
         have n11_ : Aside0 (gb809 ≠ gb789) := ⟨h11_⟩
         have n12_ : Aside0 (gb790 ≠ gb809) := ⟨h12_⟩
         have n13_ : Aside0 (gb809 ≠ gb790) := ⟨h13_⟩
         have n14_ : Aside0 (Below w.heap.size w w36) := ⟨h14_⟩
         clear BK788
         clear BK789
         clear BK790
         clear HB
         clear h0_ h1_ h2_ h3_ h4_ h5_ h6_ h7_ h8_ h9_ h10_ h11_ h12_ h13_ h14_
         have HO798 := n0_
         have HO801 := n1_
         have BK788 := n2_
         have BK789 := n3_
         have BK790 := n4_
         have BK809 := n5_
         have GW809 := n6_
         have GE809 := n7_
         have NB788_809 := n8_
         have NB809_788 := n9_
         have NB789_809 := n10_
         have NB809_789 := n11_
         have NB790_809 := n12_
         have NB809_790 := n13_
         have HB := n14_
         clear n0_ n1_ n2_ n3_ n4_ n5_ n6_ n7_ n8_ n9_ n10_ n11_ n12_ n13_ n14_
         have hHeld : w36.cell? ⟨gb788, 0, none⟩ = some (.slice A0_0 l0_0.length c0_0) ∧ w36.cell? ⟨gb789, 0, none⟩ = some (.slice A1_0 l1_0.length c1_0) := hS_
         obtain ⟨Ao37, co37, eo37⟩ := Kd.R_slice HO801.out
         (first | subst eo37 | (injection eo37 with f1_ f2_ f3_; have f4_ := f1_.symm; have f5_ := f3_.symm; clear f1_ f2_ f3_; subst f4_; subst f5_))
         refine norm_ (a' := ?_) ?_ ?_
         rotate_left
         ·simp only [putAll, Act.put, List.setIfInBounds_toArray, List.set_cons_zero, List.set_cons_succ]
          rfl
         refine oa 5 (some 23) #[Y,Y,Y,Y,Y,Y,Z,Z,Z,Z,Y,Z,Z] HT_ (fun K hK => ?_)
         refine gm Try.func57 #[.slice Ao37 y799.length co37] ?_
         with_reducible refine (spec_SortList.calls kj2 _ _ y799 t802 _ ?side1 ?side2 A28.out).mono ?_
         (case side1 => exact co (Kd.R_reads' HO801.out).2.2)
         (case side2 => exact (Kd.R_reads' HO801.out).2.1)
         rintro e w38 ⟨v803, rfl, ho0, hb⟩
         refine ⟨_, rfl, ?_⟩
         have HO804 := Aside0.mk (Kd.R_lower (Kd.R_new' (Kd.R_new' ho0 (Kd.R_lt (ro HO798.out))) (Kd.R_lt (ro HO801.out))) (below_size bw))
         replace HO798 := Aside0.mk (Kd.R_elder' (ro HO798.out) (Kd.R_base ho0) hb)
         replace HO801 := Aside0.mk (Kd.R_elder' (ro HO801.out) (Kd.R_base ho0) hb)
         replace BK788 := Aside0.mk (blk_below (g := gb788) (o := .cells #[.slice A0_0 l0_0.length c0_0] 27 (0, 0)) (bo BK788.out) hb)
         replace BK789 := Aside0.mk (blk_below (g := gb789) (o := .cells #[.slice A1_0 l1_0.length c1_0] 27 (0, 0)) (bo BK789.out) hb)
         replace BK790 := Aside0.mk (blk_below (g := gb790) (o := .cells #[.slice none 0 0] 27 (0, 0)) (bo BK790.out) hb)
         replace BK809 := Aside0.mk (blk_below (g := gb809) (o := .cells #[.slice none 0 0] 27 (0, 0)) (bo BK809.out) hb)
         replace HB := Aside0.mk (below_step bw hb)
         clear hb ho0
         refine hK.out _ _ ⟨(blk_cell BK788.out 0).trans rfl, (blk_cell BK789.out 0).trans rfl⟩ (fun hHeld => ?_)
         clear hK K
         refine norm_ (a' := ?_) ?_ ?_
         rotate_left
         ·show Act.put _ (some 23) _ = _
          simp only [Act.put, qa, qb, qc, i64_w, i32_w]
          rfl
         exact norm_ (by first | (simp only [putAll, Act.put, List.setIfInBounds_toArray, List.set_cons_zero, List.set_cons_succ]; done) | (simp only [putAll, Act.put, List.setIfInBounds_toArray, List.set_cons_zero, List.set_cons_succ]; rfl)) (hJ1_3_4_5_10 (v794, v797, .slice Ao37 y799.length co37, v803, gb809) _ ⟨hHeld, (ro HO798.out), (ro HO801.out), (by (with_reducible repeat (first | apply Kd.R_alloc | apply Kd.R_drewN | apply Kd.R_drew)); exact Kd.R_mono HO804.out (fun _ hk => by first | exact ⟨hk.1.2, hk.2⟩ | simp_all)), (bo BK788.out), (bo BK789.out), (bo BK790.out), (bo BK809.out), GW809.out, GE809.out, NB788_809.out, NB809_788.out, NB789_809.out, NB809_789.out, NB790_809.out, NB809_790.out, bw⟩)
       ·skip
        rintro ⟨v794, v797, v800, v803⟩ w37 ⟨hS_, h0_, h1_, h2_, h3_, h4_, h5_, h6_⟩
        have n0_ : Aside0 (Kd.R (Kd.int .i64) 3 w37 w.heap.size (fun k_ => some k_ ≠ (v800 : Value).ownBlock ∧ some k_ ≠ (v803 : Value).ownBlock) v797 t796) := ⟨h0_⟩
        have n1_ : Aside0 (Kd.R (Kd.int .i64) 3 w37 w.heap.size (fun k_ => some k_ ≠ (v797 : Value).ownBlock ∧ some k_ ≠ (v803 : Value).ownBlock) v800 y799) := ⟨h1_⟩
        have n2_ : Aside0 (Kd.R (Kd.int .i64) 3 w37 w.heap.size (fun k_ => some k_ ≠ (v797 : Value).ownBlock ∧ some k_ ≠ (v800 : Value).ownBlock) v803 t802) := ⟨h2_⟩
        have n3_ : Aside0 (w37.heap[gb788]? = some (.cells #[.slice A0_0 l0_0.length c0_0] 27 (0, 0))) := ⟨h3_⟩
        have n4_ : Aside0 (w37.heap[gb789]? = some (.cells #[.slice A1_0 l1_0.length c1_0] 27 (0, 0))) := ⟨h4_⟩
        have n5_ : Aside0 (w37.heap[gb790]? = some (.cells #[.slice none 0 0] 27 (0, 0))) := ⟨h5_⟩
        have n6_ : Aside0 (Below w.heap.size w w37) := ⟨h6_⟩
        clear BK788
        clear BK789
        clear BK790
        clear HB
        clear h0_ h1_ h2_ h3_ h4_ h5_ h6_
        have HO798 := n0_
        have HO801 := n1_
        have HO804 := n2_
        have BK788 := n3_
        have BK789 := n4_
        have BK790 := n5_
        have HB := n6_
        clear n0_ n1_ n2_ n3_ n4_ n5_ n6_
        have hHeld : w37.cell? ⟨gb788, 0, none⟩ = some (.slice A0_0 l0_0.length c0_0) ∧ w37.cell? ⟨gb789, 0, none⟩ = some (.slice A1_0 l1_0.length c1_0) := hS_
        obtain ⟨Ao38, co38, eo38⟩ := Kd.R_slice HO804.out
        (first | subst eo38 | (injection eo38 with f1_ f2_ f3_; have f4_ := f1_.symm; have f5_ := f3_.symm; clear f1_ f2_ f3_; subst f4_; subst f5_))
        refine norm_ (a' := ?_) ?_ ?_
        rotate_left
        ·simp only [putAll, Act.put, List.setIfInBounds_toArray, List.set_cons_zero, List.set_cons_succ]
         rfl
        refine two_ (i := 6) (j := 10) (Ni := some 24) (Nj := some 6) #[Y,Y,Y,Y,Y,Y,Y,Z,Z,Z,Z,Z,Z] #[Y,Y,Y,Y,Y,Y,Z,Z,Z,Z,Y,Z,Z] rfl rfl rfl rfl (two_of HT_.out (by kernel_rfl)) (by decide) (by decide) (fun K hK => ?_) (fun K hK => ?_)
        ·skip
         refine gm Try.func81 #[.slice Ao38 t802.length co38] ?_
         with_reducible refine (spec_FromGaps.calls kj2 _ _ t802 t805 t808 _ ?side1 ?side2 A29.out).mono ?_
         (case side1 => exact co (Kd.R_reads' HO804.out).2.2)
         (case side2 => exact (Kd.R_reads' HO804.out).2.1)
         rintro e w39 ⟨v806, rfl, ho0, hb⟩
         refine ⟨_, rfl, ?_⟩
         have HO807 := Aside0.mk (Kd.R_lower (Kd.R_new' (Kd.R_new' (Kd.R_new' ho0 (Kd.R_lt (ro HO798.out))) (Kd.R_lt (ro HO801.out))) (Kd.R_lt (ro HO804.out))) (below_size bw))
         replace HO798 := Aside0.mk (Kd.R_elder' (ro HO798.out) (Kd.R_base ho0) hb)
         replace HO801 := Aside0.mk (Kd.R_elder' (ro HO801.out) (Kd.R_base ho0) hb)
         replace HO804 := Aside0.mk (Kd.R_elder' (ro HO804.out) (Kd.R_base ho0) hb)
         replace BK788 := Aside0.mk (blk_below (g := gb788) (o := .cells #[.slice A0_0 l0_0.length c0_0] 27 (0, 0)) (bo BK788.out) hb)
         replace BK789 := Aside0.mk (blk_below (g := gb789) (o := .cells #[.slice A1_0 l1_0.length c1_0] 27 (0, 0)) (bo BK789.out) hb)
         replace BK790 := Aside0.mk (blk_below (g := gb790) (o := .cells #[.slice none 0 0] 27 (0, 0)) (bo BK790.out) hb)
         replace HB := Aside0.mk (below_step bw hb)
         clear hb ho0
         refine hK.out _ _ ⟨(blk_cell BK788.out 0).trans rfl, (blk_cell BK789.out 0).trans rfl⟩ (fun hHeld => ?_)
         clear hK K
         refine norm_ (a' := ?_) ?_ ?_
         rotate_left
         ·show Act.put _ (some 24) _ = _
          simp only [Act.put, qa, qb, qc, i64_w, i32_w]
          rfl
         refine pa 7 (some 17) #[Y,Y,Y,Y,Y,Y,Y,Y,Z,Z,Z,Z,Z] HT_ ?_
         refine pa 8 (some 25) #[Y,Y,Y,Y,Y,Y,Y,Y,Y,Z,Z,Z,Z] HT_ ?_
         refine pa 9 (some 26) #[Y,Y,Y,Y,Y,Y,Y,Y,Y,Y,Z,Z,Z] HT_ ?_
         exact norm_ (by first | (simp only [putAll, Act.put, List.setIfInBounds_toArray, List.set_cons_zero, List.set_cons_succ]; done) | (simp only [putAll, Act.put, List.setIfInBounds_toArray, List.set_cons_zero, List.set_cons_succ]; rfl)) (hJ1_3_4_5_6 (v794, v797, v800, .slice Ao38 t802.length co38, v806) _ ⟨hHeld, (by (with_reducible repeat (first | apply Kd.R_alloc | apply Kd.R_drewN | apply Kd.R_drew)); exact Kd.R_mono HO798.out (fun _ hk => ⟨hk.1.1, ⟨hk.1.2, hk.2⟩⟩)), (by (with_reducible repeat (first | apply Kd.R_alloc | apply Kd.R_drewN | apply Kd.R_drew)); exact Kd.R_mono HO801.out (fun _ hk => ⟨hk.1.1, ⟨hk.1.2, hk.2⟩⟩)), (by (with_reducible repeat (first | apply Kd.R_alloc | apply Kd.R_drewN | apply Kd.R_drew)); exact Kd.R_mono HO804.out (fun _ hk => ⟨hk.1.1, ⟨hk.1.2, hk.2⟩⟩)), (by (with_reducible repeat (first | apply Kd.R_alloc | apply Kd.R_drewN | apply Kd.R_drew)); exact Kd.R_mono HO807.out (fun _ hk => ⟨hk.1.1.2, ⟨hk.1.2, hk.2⟩⟩)), (bo BK788.out), (bo BK789.out), (bo BK790.out), bw⟩)
        ·skip
         refine box_step ?hg (N := 6) ?hd (cs := #[.slice none 0 0]) (t := 27) ?hr ?_; (case hd => rfl); (case hg => rfl); (case hr => first | (go_simp; done) | (go_simp; rfl))
         intro gb809 hg w38 hbox hb
         replace HO798 := Aside0.mk (Kd.R_below (ro HO798.out) hb)
         replace HO801 := Aside0.mk (Kd.R_below (ro HO801.out) hb)
         replace HO804 := Aside0.mk (Kd.R_below (ro HO804.out) hb)
         have BK809 := Aside0.mk (hbox)
         have GW809 := Aside0.mk (gs hg : w.heap.size ≤ gb809)
         have GE809 := Aside0.mk (gs hg : w.heap.size ≤ gb809)
         replace HB := Aside0.mk (below_step bw hb)
         have NB788_809 := Aside0.mk ((by rw [hg]; exact Nat.ne_of_lt (blk_lt (g := gb788) (o := .cells #[.slice A0_0 l0_0.length c0_0] 27 (0, 0)) (bo BK788.out)) : gb788 ≠ gb809))
         have NB809_788 := Aside0.mk ((by rw [hg]; exact Nat.ne_of_gt (blk_lt (g := gb788) (o := .cells #[.slice A0_0 l0_0.length c0_0] 27 (0, 0)) (bo BK788.out)) : gb809 ≠ gb788))
         replace BK788 := Aside0.mk (blk_below (g := gb788) (o := .cells #[.slice A0_0 l0_0.length c0_0] 27 (0, 0)) (bo BK788.out) hb)
         have NB789_809 := Aside0.mk ((by rw [hg]; exact Nat.ne_of_lt (blk_lt (g := gb789) (o := .cells #[.slice A1_0 l1_0.length c1_0] 27 (0, 0)) (bo BK789.out)) : gb789 ≠ gb809))
         have NB809_789 := Aside0.mk ((by rw [hg]; exact Nat.ne_of_gt (blk_lt (g := gb789) (o := .cells #[.slice A1_0 l1_0.length c1_0] 27 (0, 0)) (bo BK789.out)) : gb809 ≠ gb789))
         replace BK789 := Aside0.mk (blk_below (g := gb789) (o := .cells #[.slice A1_0 l1_0.length c1_0] 27 (0, 0)) (bo BK789.out) hb)
         have NB790_809 := Aside0.mk ((by rw [hg]; exact Nat.ne_of_lt (blk_lt (g := gb790) (o := .cells #[.slice none 0 0] 27 (0, 0)) (bo BK790.out)) : gb790 ≠ gb809))
         have NB809_790 := Aside0.mk ((by rw [hg]; exact Nat.ne_of_gt (blk_lt (g := gb790) (o := .cells #[.slice none 0 0] 27 (0, 0)) (bo BK790.out)) : gb809 ≠ gb790))
         replace BK790 := Aside0.mk (blk_below (g := gb790) (o := .cells #[.slice none 0 0] 27 (0, 0)) (bo BK790.out) hb)
         clear hb hbox hg
         refine hK.out _ _ ⟨(blk_cell BK788.out 0).trans rfl, (blk_cell BK789.out 0).trans rfl⟩ (fun hHeld => ?_)
         clear hK K
         refine norm_ (a' := ?_) ?_ ?_
         rotate_left
         ·show Act.put _ (some 6) _ = _
          simp only [Act.put, qa, qb, qc, i64_w, i32_w]
          rfl
         exact norm_ (by first | (simp only [putAll, Act.put, List.setIfInBounds_toArray, List.set_cons_zero, List.set_cons_succ]; done) | (simp only [putAll, Act.put, List.setIfInBounds_toArray, List.set_cons_zero, List.set_cons_succ]; rfl)) (hJ1_3_4_5_10 (v794, v797, v800, .slice Ao38 t802.length co38, gb809) _ ⟨hHeld, (ro HO798.out), (ro HO801.out), (ro HO804.out), (bo BK788.out), (bo BK789.out), (bo BK790.out), (bo BK809.out), GW809.out, GE809.out, NB788_809.out, NB809_788.out, NB789_809.out, NB809_789.out, NB790_809.out, NB809_790.out, bw⟩)
      ·skip
       rintro ⟨v794, v797, v800, v803, gb809⟩ w38 ⟨hS_, h0_, h1_, h2_, h3_, h4_, h5_, h6_, h7_, h8_, h9_, h10_, h11_, h12_, h13_, h14_, h15_⟩
       have n0_ : Aside0 (Kd.R (Kd.int .i64) 3 w38 w.heap.size (fun k_ => some k_ ≠ (v800 : Value).ownBlock ∧ some k_ ≠ (v803 : Value).ownBlock) v797 t796) := ⟨h0_⟩
       have n1_ : Aside0 (Kd.R (Kd.int .i64) 3 w38 w.heap.size (fun k_ => some k_ ≠ (v797 : Value).ownBlock ∧ some k_ ≠ (v803 : Value).ownBlock) v800 y799) := ⟨h1_⟩
       have n2_ : Aside0 (Kd.R (Kd.int .i64) 3 w38 w.heap.size (fun k_ => some k_ ≠ (v797 : Value).ownBlock ∧ some k_ ≠ (v800 : Value).ownBlock) v803 t802) := ⟨h2_⟩
       have n3_ : Aside0 (w38.heap[gb788]? = some (.cells #[.slice A0_0 l0_0.length c0_0] 27 (0, 0))) := ⟨h3_⟩
       have n4_ : Aside0 (w38.heap[gb789]? = some (.cells #[.slice A1_0 l1_0.length c1_0] 27 (0, 0))) := ⟨h4_⟩
       have n5_ : Aside0 (w38.heap[gb790]? = some (.cells #[.slice none 0 0] 27 (0, 0))) := ⟨h5_⟩
       have n6_ : Aside0 (w38.heap[gb809]? = some (.cells #[.slice none 0 0] 27 (0, 0))) := ⟨h6_⟩
       have n7_ : Aside0 (w.heap.size ≤ gb809) := ⟨h7_⟩
       have n8_ : Aside0 (w.heap.size ≤ gb809) := ⟨h8_⟩
       have n9_ : Aside0 (gb788 ≠ gb809) := ⟨h9_⟩
       have n10_ : Aside0 (gb809 ≠ gb788) := ⟨h10_⟩
       have n11_ : Aside0 (gb789 ≠ gb809) := ⟨h11_⟩
       have n12_ : Aside0 (gb809 ≠ gb789) := ⟨h12_⟩
       have n13_ : Aside0 (gb790 ≠ gb809) := ⟨h13_⟩
       have n14_ : Aside0 (gb809 ≠ gb790) := ⟨h14_⟩
       have n15_ : Aside0 (Below w.heap.size w w38) := ⟨h15_⟩
       clear BK788
       clear BK789
       clear BK790
       clear HB
       clear h0_ h1_ h2_ h3_ h4_ h5_ h6_ h7_ h8_ h9_ h10_ h11_ h12_ h13_ h14_ h15_
       have HO798 := n0_
       have HO801 := n1_
       have HO804 := n2_
       have BK788 := n3_
       have BK789 := n4_
       have BK790 := n5_
       have BK809 := n6_
       have GW809 := n7_
       have GE809 := n8_
       have NB788_809 := n9_
       have NB809_788 := n10_
       have NB789_809 := n11_
       have NB809_789 := n12_
       have NB790_809 := n13_
       have NB809_790 := n14_
       have HB := n15_
       clear n0_ n1_ n2_ n3_ n4_ n5_ n6_ n7_ n8_ n9_ n10_ n11_ n12_ n13_ n14_ n15_
       have hHeld : w38.cell? ⟨gb788, 0, none⟩ = some (.slice A0_0 l0_0.length c0_0) ∧ w38.cell? ⟨gb789, 0, none⟩ = some (.slice A1_0 l1_0.length c1_0) := hS_
       obtain ⟨Ao39, co39, eo39⟩ := Kd.R_slice HO804.out
       (first | subst eo39 | (injection eo39 with f1_ f2_ f3_; have f4_ := f1_.symm; have f5_ := f3_.symm; clear f1_ f2_ f3_; subst f4_; subst f5_))
       refine norm_ (a' := ?_) ?_ ?_
       rotate_left
       ·simp only [putAll, Act.put, List.setIfInBounds_toArray, List.set_cons_zero, List.set_cons_succ]
        rfl
       refine oa 6 (some 24) #[Y,Y,Y,Y,Y,Y,Y,Z,Z,Z,Y,Z,Z] HT_ (fun K hK => ?_)
       refine gm Try.func81 #[.slice Ao39 t802.length co39] ?_
       with_reducible refine (spec_FromGaps.calls kj2 _ _ t802 t805 t808 _ ?side1 ?side2 A29.out).mono ?_
       (case side1 => exact co (Kd.R_reads' HO804.out).2.2)
       (case side2 => exact (Kd.R_reads' HO804.out).2.1)
       rintro e w40 ⟨v806, rfl, ho0, hb⟩
       refine ⟨_, rfl, ?_⟩
       have HO807 := Aside0.mk (Kd.R_lower (Kd.R_new' (Kd.R_new' (Kd.R_new' ho0 (Kd.R_lt (ro HO798.out))) (Kd.R_lt (ro HO801.out))) (Kd.R_lt (ro HO804.out))) (below_size bw))
       replace HO798 := Aside0.mk (Kd.R_elder' (ro HO798.out) (Kd.R_base ho0) hb)
       replace HO801 := Aside0.mk (Kd.R_elder' (ro HO801.out) (Kd.R_base ho0) hb)
       replace HO804 := Aside0.mk (Kd.R_elder' (ro HO804.out) (Kd.R_base ho0) hb)
       replace BK788 := Aside0.mk (blk_below (g := gb788) (o := .cells #[.slice A0_0 l0_0.length c0_0] 27 (0, 0)) (bo BK788.out) hb)
       replace BK789 := Aside0.mk (blk_below (g := gb789) (o := .cells #[.slice A1_0 l1_0.length c1_0] 27 (0, 0)) (bo BK789.out) hb)
       replace BK790 := Aside0.mk (blk_below (g := gb790) (o := .cells #[.slice none 0 0] 27 (0, 0)) (bo BK790.out) hb)
       replace BK809 := Aside0.mk (blk_below (g := gb809) (o := .cells #[.slice none 0 0] 27 (0, 0)) (bo BK809.out) hb)
       replace HB := Aside0.mk (below_step bw hb)
       clear hb ho0
       refine hK.out _ _ ⟨(blk_cell BK788.out 0).trans rfl, (blk_cell BK789.out 0).trans rfl⟩ (fun hHeld => ?_)
       clear hK K
       refine norm_ (a' := ?_) ?_ ?_
       rotate_left
       ·show Act.put _ (some 24) _ = _
        simp only [Act.put, qa, qb, qc, i64_w, i32_w]
        rfl
       refine pa 7 (some 17) #[Y,Y,Y,Y,Y,Y,Y,Y,Z,Z,Y,Z,Z] HT_ ?_
       refine pa 8 (some 25) #[Y,Y,Y,Y,Y,Y,Y,Y,Y,Z,Y,Z,Z] HT_ ?_
       refine pa 9 (some 26) #[Y,Y,Y,Y,Y,Y,Y,Y,Y,Y,Y,Z,Z] HT_ ?_
       exact norm_ (by first | (simp only [putAll, Act.put, List.setIfInBounds_toArray, List.set_cons_zero, List.set_cons_succ]; done) | (simp only [putAll, Act.put, List.setIfInBounds_toArray, List.set_cons_zero, List.set_cons_succ]; rfl)) (hJ1_3_4_5_6_10 (v794, v797, v800, .slice Ao39 t802.length co39, v806, gb809) _ ⟨hHeld, (by (with_reducible repeat (first | apply Kd.R_alloc | apply Kd.R_drewN | apply Kd.R_drew)); exact Kd.R_mono HO798.out (fun _ hk => ⟨hk.1.1, ⟨hk.1.2, hk.2⟩⟩)), (by (with_reducible repeat (first | apply Kd.R_alloc | apply Kd.R_drewN | apply Kd.R_drew)); exact Kd.R_mono HO801.out (fun _ hk => ⟨hk.1.1, ⟨hk.1.2, hk.2⟩⟩)), (by (with_reducible repeat (first | apply Kd.R_alloc | apply Kd.R_drewN | apply Kd.R_drew)); exact Kd.R_mono HO804.out (fun _ hk => ⟨hk.1.1, ⟨hk.1.2, hk.2⟩⟩)), (by (with_reducible repeat (first | apply Kd.R_alloc | apply Kd.R_drewN | apply Kd.R_drew)); exact Kd.R_mono HO807.out (fun _ hk => ⟨hk.1.1.2, ⟨hk.1.2, hk.2⟩⟩)), (bo BK788.out), (bo BK789.out), (bo BK790.out), (bo BK809.out), GW809.out, GE809.out, NB788_809.out, NB809_788.out, NB789_809.out, NB809_789.out, NB790_809.out, NB809_790.out, bw⟩)
     ·skip
      rintro ⟨v794, v797, v800, v803, v806⟩ w39 ⟨hS_, h0_, h1_, h2_, h3_, h4_, h5_, h6_, h7_⟩
      have n0_ : Aside0 (Kd.R (Kd.int .i64) 3 w39 w.heap.size (fun k_ => some k_ ≠ (v800 : Value).ownBlock ∧ some k_ ≠ (v803 : Value).ownBlock ∧ some k_ ≠ (v806 : Value).ownBlock) v797 t796) := ⟨h0_⟩
      have n1_ : Aside0 (Kd.R (Kd.int .i64) 3 w39 w.heap.size (fun k_ => some k_ ≠ (v797 : Value).ownBlock ∧ some k_ ≠ (v803 : Value).ownBlock ∧ some k_ ≠ (v806 : Value).ownBlock) v800 y799) := ⟨h1_⟩
      have n2_ : Aside0 (Kd.R (Kd.int .i64) 3 w39 w.heap.size (fun k_ => some k_ ≠ (v797 : Value).ownBlock ∧ some k_ ≠ (v800 : Value).ownBlock ∧ some k_ ≠ (v806 : Value).ownBlock) v803 t802) := ⟨h2_⟩
      have n3_ : Aside0 (Kd.R (Kd.int .i64) 3 w39 w.heap.size (fun k_ => some k_ ≠ (v797 : Value).ownBlock ∧ some k_ ≠ (v800 : Value).ownBlock ∧ some k_ ≠ (v803 : Value).ownBlock) v806 t805) := ⟨h3_⟩
      have n4_ : Aside0 (w39.heap[gb788]? = some (.cells #[.slice A0_0 l0_0.length c0_0] 27 (0, 0))) := ⟨h4_⟩
      have n5_ : Aside0 (w39.heap[gb789]? = some (.cells #[.slice A1_0 l1_0.length c1_0] 27 (0, 0))) := ⟨h5_⟩
      have n6_ : Aside0 (w39.heap[gb790]? = some (.cells #[.slice none 0 0] 27 (0, 0))) := ⟨h6_⟩
      have n7_ : Aside0 (Below w.heap.size w w39) := ⟨h7_⟩
      clear BK788
      clear BK789
      clear BK790
      clear HB
      clear h0_ h1_ h2_ h3_ h4_ h5_ h6_ h7_
      have HO798 := n0_
      have HO801 := n1_
      have HO804 := n2_
      have HO807 := n3_
      have BK788 := n4_
      have BK789 := n5_
      have BK790 := n6_
      have HB := n7_
      clear n0_ n1_ n2_ n3_ n4_ n5_ n6_ n7_
      have hHeld : w39.cell? ⟨gb788, 0, none⟩ = some (.slice A0_0 l0_0.length c0_0) ∧ w39.cell? ⟨gb789, 0, none⟩ = some (.slice A1_0 l1_0.length c1_0) := hS_
      refine norm_ (a' := ?_) ?_ ?_
      rotate_left
      ·simp only [putAll, Act.put, List.setIfInBounds_toArray, List.set_cons_zero, List.set_cons_succ]
       rfl
      refine oa 10 (some 6) #[Y,Y,Y,Y,Y,Y,Y,Y,Y,Y,Y,Z,Z] HT_ (fun K hK => ?_)
      refine box_step ?hg (N := 6) ?hd (cs := #[.slice none 0 0]) (t := 27) ?hr ?_; (case hd => rfl); (case hg => rfl); (case hr => first | (go_simp; done) | (go_simp; rfl))
      intro gb809 hg w40 hbox hb
      replace HO798 := Aside0.mk (Kd.R_below (ro HO798.out) hb)
      replace HO801 := Aside0.mk (Kd.R_below (ro HO801.out) hb)
      replace HO804 := Aside0.mk (Kd.R_below (ro HO804.out) hb)
      replace HO807 := Aside0.mk (Kd.R_below (ro HO807.out) hb)
      have BK809 := Aside0.mk (hbox)
      have GW809 := Aside0.mk (gs hg : w.heap.size ≤ gb809)
      have GE809 := Aside0.mk (gs hg : w.heap.size ≤ gb809)
      replace HB := Aside0.mk (below_step bw hb)
      have NB788_809 := Aside0.mk ((by rw [hg]; exact Nat.ne_of_lt (blk_lt (g := gb788) (o := .cells #[.slice A0_0 l0_0.length c0_0] 27 (0, 0)) (bo BK788.out)) : gb788 ≠ gb809))
      have NB809_788 := Aside0.mk ((by rw [hg]; exact Nat.ne_of_gt (blk_lt (g := gb788) (o := .cells #[.slice A0_0 l0_0.length c0_0] 27 (0, 0)) (bo BK788.out)) : gb809 ≠ gb788))
      replace BK788 := Aside0.mk (blk_below (g := gb788) (o := .cells #[.slice A0_0 l0_0.length c0_0] 27 (0, 0)) (bo BK788.out) hb)
      have NB789_809 := Aside0.mk ((by rw [hg]; exact Nat.ne_of_lt (blk_lt (g := gb789) (o := .cells #[.slice A1_0 l1_0.length c1_0] 27 (0, 0)) (bo BK789.out)) : gb789 ≠ gb809))
      have NB809_789 := Aside0.mk ((by rw [hg]; exact Nat.ne_of_gt (blk_lt (g := gb789) (o := .cells #[.slice A1_0 l1_0.length c1_0] 27 (0, 0)) (bo BK789.out)) : gb809 ≠ gb789))
      replace BK789 := Aside0.mk (blk_below (g := gb789) (o := .cells #[.slice A1_0 l1_0.length c1_0] 27 (0, 0)) (bo BK789.out) hb)
      have NB790_809 := Aside0.mk ((by rw [hg]; exact Nat.ne_of_lt (blk_lt (g := gb790) (o := .cells #[.slice none 0 0] 27 (0, 0)) (bo BK790.out)) : gb790 ≠ gb809))
      have NB809_790 := Aside0.mk ((by rw [hg]; exact Nat.ne_of_gt (blk_lt (g := gb790) (o := .cells #[.slice none 0 0] 27 (0, 0)) (bo BK790.out)) : gb809 ≠ gb790))
      replace BK790 := Aside0.mk (blk_below (g := gb790) (o := .cells #[.slice none 0 0] 27 (0, 0)) (bo BK790.out) hb)
      clear hb hbox hg
      refine hK.out _ _ ⟨(blk_cell BK788.out 0).trans rfl, (blk_cell BK789.out 0).trans rfl⟩ (fun hHeld => ?_)
      clear hK K
      refine norm_ (a' := ?_) ?_ ?_
      rotate_left
      ·show Act.put _ (some 6) _ = _
       simp only [Act.put, qa, qb, qc, i64_w, i32_w]
       rfl
      exact norm_ (by first | (simp only [putAll, Act.put, List.setIfInBounds_toArray, List.set_cons_zero, List.set_cons_succ]; done) | (simp only [putAll, Act.put, List.setIfInBounds_toArray, List.set_cons_zero, List.set_cons_succ]; rfl)) (hJ1_3_4_5_6_10 (v794, v797, v800, v803, v806, gb809) _ ⟨hHeld, (ro HO798.out), (ro HO801.out), (ro HO804.out), (ro HO807.out), (bo BK788.out), (bo BK789.out), (bo BK790.out), (bo BK809.out), GW809.out, GE809.out, NB788_809.out, NB809_788.out, NB789_809.out, NB809_789.out, NB790_809.out, NB809_790.out, bw⟩)
    rintro ⟨v794, v797, v800, v803, v806, gb809⟩ w40 ⟨hS_, h0_, h1_, h2_, h3_, h4_, h5_, h6_, h7_, h8_, h9_, h10_, h11_, h12_, h13_, h14_, h15_, h16_⟩
    have n0_ : Aside0 (Kd.R (Kd.int .i64) 3 w40 w.heap.size (fun k_ => some k_ ≠ (v800 : Value).ownBlock ∧ some k_ ≠ (v803 : Value).ownBlock ∧ some k_ ≠ (v806 : Value).ownBlock) v797 t796) := ⟨h0_⟩
    have n1_ : Aside0 (Kd.R (Kd.int .i64) 3 w40 w.heap.size (fun k_ => some k_ ≠ (v797 : Value).ownBlock ∧ some k_ ≠ (v803 : Value).ownBlock ∧ some k_ ≠ (v806 : Value).ownBlock) v800 y799) := ⟨h1_⟩
    have n2_ : Aside0 (Kd.R (Kd.int .i64) 3 w40 w.heap.size (fun k_ => some k_ ≠ (v797 : Value).ownBlock ∧ some k_ ≠ (v800 : Value).ownBlock ∧ some k_ ≠ (v806 : Value).ownBlock) v803 t802) := ⟨h2_⟩
    have n3_ : Aside0 (Kd.R (Kd.int .i64) 3 w40 w.heap.size (fun k_ => some k_ ≠ (v797 : Value).ownBlock ∧ some k_ ≠ (v800 : Value).ownBlock ∧ some k_ ≠ (v803 : Value).ownBlock) v806 t805) := ⟨h3_⟩
    have n4_ : Aside0 (w40.heap[gb788]? = some (.cells #[.slice A0_0 l0_0.length c0_0] 27 (0, 0))) := ⟨h4_⟩
    have n5_ : Aside0 (w40.heap[gb789]? = some (.cells #[.slice A1_0 l1_0.length c1_0] 27 (0, 0))) := ⟨h5_⟩
    have n6_ : Aside0 (w40.heap[gb790]? = some (.cells #[.slice none 0 0] 27 (0, 0))) := ⟨h6_⟩
    have n7_ : Aside0 (w40.heap[gb809]? = some (.cells #[.slice none 0 0] 27 (0, 0))) := ⟨h7_⟩
    have n8_ : Aside0 (w.heap.size ≤ gb809) := ⟨h8_⟩
    have n9_ : Aside0 (w.heap.size ≤ gb809) := ⟨h9_⟩
    have n10_ : Aside0 (gb788 ≠ gb809) := ⟨h10_⟩
    have n11_ : Aside0 (gb809 ≠ gb788) := ⟨h11_⟩
    have n12_ : Aside0 (gb789 ≠ gb809) := ⟨h12_⟩
    have n13_ : Aside0 (gb809 ≠ gb789) := ⟨h13_⟩
    have n14_ : Aside0 (gb790 ≠ gb809) := ⟨h14_⟩
    have n15_ : Aside0 (gb809 ≠ gb790) := ⟨h15_⟩
    have n16_ : Aside0 (Below w.heap.size w w40) := ⟨h16_⟩
    clear BK788
    clear BK789
    clear BK790
    clear HB
    clear h0_ h1_ h2_ h3_ h4_ h5_ h6_ h7_ h8_ h9_ h10_ h11_ h12_ h13_ h14_ h15_ h16_
    have HO798 := n0_
    have HO801 := n1_
    have HO804 := n2_
    have HO807 := n3_
    have BK788 := n4_
    have BK789 := n5_
    have BK790 := n6_
    have BK809 := n7_
    have GW809 := n8_
    have GE809 := n9_
    have NB788_809 := n10_
    have NB809_788 := n11_
    have NB789_809 := n12_
    have NB809_789 := n13_
    have NB790_809 := n14_
    have NB809_790 := n15_
    have HB := n16_
    clear n0_ n1_ n2_ n3_ n4_ n5_ n6_ n7_ n8_ n9_ n10_ n11_ n12_ n13_ n14_ n15_ n16_
    have hHeld : w40.cell? ⟨gb788, 0, none⟩ = some (.slice A0_0 l0_0.length c0_0) ∧ w40.cell? ⟨gb789, 0, none⟩ = some (.slice A1_0 l1_0.length c1_0) := hS_
    obtain ⟨Ao41, co41, eo41⟩ := Kd.R_slice HO807.out
    (first | subst eo41 | (injection eo41 with f1_ f2_ f3_; have f4_ := f1_.symm; have f5_ := f3_.symm; clear f1_ f2_ f3_; subst f4_; subst f5_))
    refine norm_ (a' := ?_) ?_ ?_
    rotate_left
    ·simp only [putAll, Act.put, List.setIfInBounds_toArray, List.set_cons_zero, List.set_cons_succ]
     rfl
    refine oa 11 none #[Y,Y,Y,Y,Y,Y,Y,Y,Y,Y,Y,Y,Z] HT_ (fun K hK => ?_)
    have hs42 := bc BK809 0 (.slice none 0 0)
    have hfs42 := blk_frozen BK809.out 0
    have hns42_0 := NB788_809.out
    have hns42_1 := NB789_809.out
    have hns42_2 := NB790_809.out
    have hms42_0 := NB809_788.out
    have hms42_1 := NB809_789.out
    have hms42_2 := NB809_790.out
    refine skip_ (w1 := ?_) (by rfl) rfl ?_ ?_
    rotate_left
    ·go_simp
     rfl
    refine hK.out _ _ ⟨((cell_far (p := ⟨gb809, _, none⟩) NB788_809.out _).trans (hHeld.1)), ((cell_far (p := ⟨gb809, _, none⟩) NB789_809.out _).trans (hHeld.2))⟩ (fun hHeld => ?_)
    clear hK K
    refine pa 12 (some 7) #[Y,Y,Y,Y,Y,Y,Y,Y,Y,Y,Y,Y,Y] HT_ ?_
    refine done_ (done_of HT_.out (by kernel_rfl)) ?_
    have hnb43 := NB809_788.out
    have hnc43 := NB788_809.out
    have hnb44 := NB809_789.out
    have hnc44 := NB789_809.out
    have hnb45 := NB809_790.out
    have hnc45 := NB790_809.out
    have hcz46_0 := bc BK809 0 (.slice none 0 0)
    have hfz46_0 := blk_frozen BK809.out 0
    have hnb47 := NB790_788.out
    have hnc47 := NB788_790.out
    have hnb48 := NB790_789.out
    have hnc48 := NB789_790.out
    have hcz49_0 := bc BK790 0 (.slice none 0 0)
    have hfz49_0 := blk_frozen BK790.out 0
    try go_wp2
    refine bodyPost_ret (results_ct rfl _ _ gb790 27 #[.slice Ao41 t805.length co41] (0, 0) _ rfl (by (with_reducible repeat (first | refine blk_drewN ?_ _ | refine blk_drew ?_ | refine blk_alloc ?_ _)); refine blk_put (cs := #[.slice none 0 0]) ?_ 0 _ rfl; (with_reducible repeat (first | refine blk_drewN ?_ _ | refine blk_drew ?_ | refine blk_alloc ?_ _)); refine blk_far ?_ NB790_809.out _; (with_reducible repeat (first | refine blk_drewN ?_ _ | refine blk_drew ?_ | refine blk_alloc ?_ _)); exact BK790.out) Try.underlying27 rfl (by kernel_rfl)) rfl ?_
    exact ⟨_, re, by (with_reducible repeat (first | apply Kd.R_alloc | apply Kd.R_drewN | apply Kd.R_drew)); exact Kd.R_mono (Kd.R_far (p := ⟨gb790, 0, none⟩) (Kd.R_far (p := ⟨gb809, 0, none⟩) (Kd.R_types (Kd.R_types HO807.out BK809.out (by decide)) BK790.out (by decide)) (fun _ hk => by first | exact hk.1.2 | simp_all) (.slice Ao41 t805.length co41)) (fun _ hk => hk.2) (.slice Ao41 t805.length co41)) (fun _ hk => trivial), bw⟩

end Go.Proofs.Ytiejmnnnjmmifaa.C
