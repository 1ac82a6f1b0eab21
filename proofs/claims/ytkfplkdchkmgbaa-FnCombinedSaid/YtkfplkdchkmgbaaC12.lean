/- Contracts of functions of the program: spec_MeetOf, spec_DrawAddOf. -/
import Derived.Test.YtkfplkdchkmgbaaC0
import Derived.Test.YtkfplkdchkmgbaaC2
import Derived.Test.YtkfplkdchkmgbaaC3
import Derived.Test.YtkfplkdchkmgbaaC4
import Derived.Test.YtkfplkdchkmgbaaC5
import Derived.Test.YtkfplkdchkmgbaaC6
import Derived.Test.YtkfplkdchkmgbaaC11
namespace Go.Proofs.Ytkfplkdchkmgbaa.C
open Go.RowKit Go.Proofs.YtkfplkdchkmgbaaW.PrintWords Go.Proofs.YtkfplkdchkmgbaaW.PrintLast Go.Proofs.YtkfplkdchkmgbaaW.PrintMore
attribute [local go_sem] max2_int min2_int max_two min_two max_three min_three max_four min_four
set_option linter.unusedVariables false
set_option linter.unusedSimpArgs false

/-! ### spec_MeetOf: function 110 -/
def spec_MeetOf.j0 : Nat → Bool → List Int → List Int → Option (List Int × Bool)
 | 0, _, _, _ => none
 | k + 1, x15, x686000, x687000 => if x15 = true then (some (([] : List Int), false)) else ((spec_l4Gaps.f k x686000).bind fun t690 => ((spec_l4Gaps.f k x687000).bind fun t693 => (if t690.length + t693.length < 17592186044416 then ((spec_SortList.f k (t690 ++ t693)).bind fun t699 => ((spec_FromGaps.f k t699).bind fun bt702 => (some (bt702.1, bt702.2)))) else (none))))
def spec_MeetOf.f (k : Nat) (l0_0 : List Int) (l1_0 : List Int) : Option (List Int × Bool) := (spec_IsSemigroup.f k l0_0).bind fun t688 => (if t688 = true then ((spec_IsSemigroup.f k l1_0).bind fun t689 => (spec_MeetOf.j0 k (!t689) l0_0 l1_0)) else (spec_MeetOf.j0 k true l0_0 l1_0))
def spec_MeetOf.T3 : Bool × List (List Nat × List Nat) := (true, [([], []), ([0], [0]), ([], []), ([2, 1], [2]), ([1, 3, 3], [1, 3]), ([4, 4], [4]), ([5, 5], [5]), ([6], [6]), ([7], [7]), ([7], [7]), ([], []), ([10, 8, 6, 0, 1, 2, 3, 4, 5, 6, 7, 8, 10], [8, 10]), ([9, 11, 0, 1, 2, 3, 4, 5, 6, 7, 8, 9, 10, 11], [9])])
def spec_MeetOf.B3 : List Nat := [0, 1, 0, 7, 15, 31, 63, 127, 255, 255, 0, 1535, 4095]
theorem spec_MeetOf.tab3 : rtab .any (opsOf Try.f110 3) = spec_MeetOf.T3 := by kernel_rfl
theorem spec_MeetOf.bits3 : waitsOk spec_MeetOf.T3.2 spec_MeetOf.B3 = true := by kernel_rfl
set_option maxHeartbeats 8000000 in
set_option maxRecDepth 100000 in
theorem spec_MeetOf.calls (k : Nat) (A0_0 : Option Addr) (c0_0 : Nat) (l0_0 : List Int) (A1_0 : Option Addr) (c1_0 : Nat) (l1_0 : List Int) (r1 : List Int) (r2 : Bool) (w : World) (hr0_0 : Kd.C (Kd.int .i64) w A0_0 l0_0.length l0_0) (hc0_0 : l0_0.length ≤ c0_0) (hr1_0 : Kd.C (Kd.int .i64) w A1_0 l1_0.length l1_0) (hc1_0 : l1_0.length ≤ c1_0) (h : spec_MeetOf.f k l0_0 l1_0 = some (r1, r2)) :
  Calls Try.prog 110 #[.agg #[.slice A0_0 l0_0.length c0_0], .agg #[.slice A1_0 l1_0.length c1_0]] w fun e w' => ∃ v0_ : Value, e = .returned (.tuple #[.agg #[v0_], .bool r2]) ∧ Kd.R (Kd.int .i64) 3 w' w.heap.size (fun _ => True) v0_ r1 ∧ Below w.heap.size w w' := by
 have hu26 := Try.underlying26
 have HR0_0 := am hr0_0
 have HC0_0 := am hc0_0
 clear hr0_0 hc0_0
 have HR1_0 := am hr1_0
 have HC1_0 := am hc1_0
 clear hr1_0 hc1_0
 have HB := am (Below.refl w.heap.size w)
 have H : ((spec_IsSemigroup.f k l0_0).bind fun t688 => (if t688 = true then ((spec_IsSemigroup.f k l1_0).bind fun t689 => (spec_MeetOf.j0 k (!t689) l0_0 l1_0)) else (spec_MeetOf.j0 k true l0_0 l1_0))) = some (r1, r2) := h
 clear h
 have HC3 := am H
 clear H
 go_enter Try.func110, Try.ntmps110
 go_upto_region 1 with (first | ((with_reducible refine gate_dst (N := 2) rfl ?_); refine bx 2 #[.slice A0_0 l0_0.length c0_0] 26 ?_; intro gb685 hg w4 hbox hb; have BK685 := am (hbox); have GW685 := am (gs hg : w.heap.size ≤ gb685); have GE685 := GW685; replace HB := am (below_step bw hb); clear hb hbox hg) | ((with_reducible refine gate_dst (N := 3) rfl ?_); refine bx 3 #[.slice A1_0 l1_0.length c1_0] 26 ?_; intro gb686 hg w5 hbox hb; have BK686 := am (hbox); have GW686 := am (gs hg : w.heap.size ≤ gb686); have GE686 := GW686; replace HB := am (below_step bw hb); have NB685_686 := nl hg BK685; have NB686_685 := ns NB685_686; replace BK685 := kb BK685 hb; clear hb hbox hg) | ((with_reducible refine gate_dst (N := 4) rfl ?_); refine bx 4 #[.slice none 0 0] 26 ?_; intro gb687 hg w6 hbox hb; have BK687 := am (hbox); have GW687 := am (gs hg : w.heap.size ≤ gb687); have GE687 := GW687; replace HB := am (below_step bw hb); have NB685_687 := nl hg BK685; have NB687_685 := ns NB685_687; replace BK685 := kb BK685 hb; have NB686_687 := nl hg BK686; have NB687_686 := ns NB686_687; replace BK686 := kb BK686 hb; clear hb hbox hg))
 (try simp only [Act.put, List.setIfInBounds_toArray, List.set_cons_zero, List.set_cons_succ])
 go_cut [15] (fun v15 wc => ∃ (kq : Nat) (x15_2 : Bool), v15 = .bool x15_2 ∧ Aside0 (spec_MeetOf.j0 kq x15_2 l0_0 l1_0 = some (r1, r2)) ∧ Aside0 (kq ≤ k) ∧ Aside0 (wc.heap[gb685]? = some (.cells #[(.slice A0_0 l0_0.length c0_0)] 26 (0, 0))) ∧ Aside0 (wc.heap[gb686]? = some (.cells #[(.slice A1_0 l1_0.length c1_0)] 26 (0, 0))) ∧ Aside0 (wc.heap[gb687]? = some (.cells #[(.slice none 0 0)] 26 (0, 0))) ∧ Aside0 (Below w.heap.size w wc))
 case first =>
  have H := HC3.out
  clear HC3
  replace H := ga H; obtain ⟨t688, A7, H⟩ := H
  replace H := gb H; obtain ⟨rfl, H⟩ | ⟨rfl, H⟩ := H
  ·replace H := ga H; obtain ⟨t689, A9, H⟩ := H
   have H' := am H
   clear H
   have hnb10 := NB685_686.out
   have hnc10 := NB686_685.out
   have hnb11 := NB685_687.out
   have hnc11 := NB687_685.out
   have hcz12_0 := bc BK685 0 (.slice A0_0 l0_0.length c0_0)
   have hfz12_0 := blk_frozen BK685.out 0
   go_wp2_with (first | ((with_reducible refine gate_callee (f := 23) rfl ?_); refine gl (some 9) Try.func23 #[.agg #[.slice A0_0 l0_0.length c0_0]] ?_; (with_reducible refine (spec_IsSemigroup.calls k _ _ l0_0 true _ ?side1 ?side2 A7.out).mono ?_); (case side1 => exact co (Kd.C_below HR0_0.out HB.out)); (case side2 => exact HC0_0.out); rintro e w13 ⟨rfl, hb⟩; refine ⟨_, rfl, ?_⟩; replace BK685 := kb BK685 hb; replace BK686 := kb BK686 hb; replace BK687 := kb BK687 hb; replace HB := am (below_step bw hb); clear hb; have hnb14 := NB686_687.out; have hnc14 := NB687_686.out; have hcz15_0 := bc BK686 0 (.slice A1_0 l1_0.length c1_0); have hfz15_0 := blk_frozen BK686.out 0) | (go_at_call 23; (with_reducible refine (spec_IsSemigroup.calls k _ _ l1_0 t689 _ ?side1 ?side2 A9.out).mono ?_); (case side1 => exact co (Kd.C_below HR1_0.out HB.out)); (case side2 => exact HC1_0.out); rintro e w16 ⟨rfl, hb⟩; replace BK685 := kb BK685 hb; replace BK686 := kb BK686 hb; replace BK687 := kb BK687 hb; replace HB := am (below_step bw hb); clear hb))
   go_meet
   case rel => exact ⟨_, (!t689), rr, H', ⟨om⟩, ⟨bo BK685.out⟩, ⟨bo BK686.out⟩, ⟨bo BK687.out⟩, ⟨bw⟩⟩
  have H' := am H
  clear H
  have hnb17 := NB685_686.out
  have hnc17 := NB686_685.out
  have hnb18 := NB685_687.out
  have hnc18 := NB687_685.out
  have hcz19_0 := bc BK685 0 (.slice A0_0 l0_0.length c0_0)
  have hfz19_0 := blk_frozen BK685.out 0
  go_wp2_with (first | ((with_reducible refine gate_callee (f := 23) rfl ?_); refine gl (some 9) Try.func23 #[.agg #[.slice A0_0 l0_0.length c0_0]] ?_; (with_reducible refine (spec_IsSemigroup.calls k _ _ l0_0 false _ ?side1 ?side2 A7.out).mono ?_); (case side1 => exact co (Kd.C_below HR0_0.out HB.out)); (case side2 => exact HC0_0.out); rintro e w20 ⟨rfl, hb⟩; refine ⟨_, rfl, ?_⟩; replace BK685 := kb BK685 hb; replace BK686 := kb BK686 hb; replace BK687 := kb BK687 hb; replace HB := am (below_step bw hb); clear hb))
  go_meet
  case rel => exact ⟨_, (true), rr, H', ⟨om⟩, ⟨bo BK685.out⟩, ⟨bo BK686.out⟩, ⟨bo BK687.out⟩, ⟨bw⟩⟩
 case rest =>
  clear HC3
  try clear hcz12_0; try clear hcz15_0; try clear hcz19_0; try clear hfz12_0; try clear hfz15_0; try clear hfz19_0
  obtain ⟨kq, x15_2, rfl, HA, HJ2, BK685, BK686, BK687, HB⟩ := hcut
  cases kq with
  | zero => exact absurd HA.out (by simp [spec_MeetOf.j0])
  | succ kj2 =>
   have H := HA.out
   clear HA
   simp only [spec_MeetOf.j0] at H
   replace H := gb H; obtain ⟨rfl, H⟩ | ⟨rfl, H⟩ := H
   ·simp only [Option.some.injEq, Prod.mk.injEq] at H
    obtain ⟨rfl, rfl⟩ := H
    have hnb22 := NB687_685.out
    have hnc22 := NB685_687.out
    have hnb23 := NB687_686.out
    have hnc23 := NB686_687.out
    have hcz24_0 := bc BK687 0 (.slice none 0 0)
    have hfz24_0 := blk_frozen BK687.out 0
    go_wp2
    refine bodyPost_ret (results_ct rfl _ _ gb687 26 #[.slice none 0 0] (0, 0) _ rfl (by (with_reducible repeat (first | refine blk_drewN ?_ _ | refine blk_drew ?_ | refine blk_alloc ?_ _)); refine blk_put (cs := #[.slice none 0 0]) ?_ 0 _ rfl; (with_reducible repeat (first | refine blk_drewN ?_ _ | refine blk_drew ?_ | refine blk_alloc ?_ _)); exact BK687.out) Try.underlying26 rfl (by kernel_rfl)) rfl ?_
    exact ⟨_, re, by first | exact Kd.R_nil _ _ _ _ _ | exact Kd.N_nil _ _ _ _ _ | exact Kd.V_nil _ _ _ _ _ | exact Kd.Q_nil _ _ _ _ _ | exact Kd.S_nil _ _ _ _ _, bw⟩
   replace H := ga H; obtain ⟨t690, A25, H⟩ := H
   replace H := ga H; obtain ⟨t693, A26, H⟩ := H
   by_cases c27 : t690.length + t693.length < 17592186044416
   rotate_left
   ·rw [if_neg c27] at H
    exact absurd H (by simp)
   rw [if_pos c27] at H
   have LMc27 := am c27
   clear c27
   obtain ⟨y696, hy696⟩ : ∃ y_ : List Int, y_ = (t690 ++ t693) := ⟨_, rfl⟩
   replace H : ((spec_SortList.f kj2 y696).bind fun t699 => ((spec_FromGaps.f kj2 t699).bind fun bt702 => (some (bt702.1, bt702.2)))) = some (r1, r2) := by first | (rw [hy696]; with_reducible first | exact H | exact bs H) | (with_reducible first | exact bs H | exact H) | (rw [hy696]; exact H) | exact H
   have Ny696 := am hy696
   clear hy696
   replace H := ga H; obtain ⟨t699, A28, H⟩ := H
   replace H := ga H; obtain ⟨⟨t702, t705⟩, A29, H⟩ := H
   replace H : (some (t702, t705)) = some (r1, r2) := H
   simp only [Option.some.injEq, Prod.mk.injEq] at H
   obtain ⟨rfl, rfl⟩ := H
   try go_wp2
   replace BK685 := bd BK685
   replace BK686 := bd BK686
   replace BK687 := bd BK687
   replace HB := am (below_drew1 HB.out)
   refine start_ (n := 13) (S := fun w' => w'.cell? ⟨gb685, 0, none⟩ = some (.slice A0_0 l0_0.length c0_0) ∧ w'.cell? ⟨gb686, 0, none⟩ = some (.slice A1_0 l1_0.length c1_0)) (ds := []) (yz 13 0) (by kernel_rfl) rfl rfl ⟨bc BK685 0 _, bc BK686 0 _⟩ (fun hHeld => ?_); refine with_tabW spec_MeetOf.tab3 spec_MeetOf.bits3 (fun HT_ HW_ => ?_)
   generalize wc.drew = w30 at BK685 BK686 BK687 HB hHeld ⊢
   refine tk 0 (some 18) (yz 13 1) HT_ HW_ hHeld ?_
   refine tk 2 (some 20) (yz 13 5) HT_ HW_ hHeld ?_
   refine join_ (σ := Value × Value × Value × Value × Value × Nat) 2 (yz 13 2047) (fun s_ => [(19, s_.1), (21, s_.2.1), (22, s_.2.2.1), (23, s_.2.2.2.1), (24, .tuple #[.agg #[s_.2.2.2.2.1], .bool t705]), (6, .pointer (some ⟨s_.2.2.2.2.2, 0, none⟩)), (17, .tuple #[.agg #[s_.2.2.2.2.1], .bool t705]), (25, .agg #[s_.2.2.2.2.1]), (26, .bool t705)]) (fun s_ w' => (w'.cell? ⟨gb685, 0, none⟩ = some (.slice A0_0 l0_0.length c0_0) ∧ w'.cell? ⟨gb686, 0, none⟩ = some (.slice A1_0 l1_0.length c1_0)) ∧ (Kd.R (Kd.int .i64) 3 w' w.heap.size (fun k_ => some k_ ≠ (s_.2.2.1 : Value).ownBlock ∧ some k_ ≠ (s_.2.2.2.1 : Value).ownBlock ∧ some k_ ≠ (s_.2.2.2.2.1 : Value).ownBlock) s_.2.1 t693) ∧ (Kd.R (Kd.int .i64) 3 w' w.heap.size (fun k_ => some k_ ≠ (s_.2.1 : Value).ownBlock ∧ some k_ ≠ (s_.2.2.2.1 : Value).ownBlock ∧ some k_ ≠ (s_.2.2.2.2.1 : Value).ownBlock) s_.2.2.1 y696) ∧ (Kd.R (Kd.int .i64) 3 w' w.heap.size (fun k_ => some k_ ≠ (s_.2.1 : Value).ownBlock ∧ some k_ ≠ (s_.2.2.1 : Value).ownBlock ∧ some k_ ≠ (s_.2.2.2.2.1 : Value).ownBlock) s_.2.2.2.1 t699) ∧ (Kd.R (Kd.int .i64) 3 w' w.heap.size (fun k_ => some k_ ≠ (s_.2.1 : Value).ownBlock ∧ some k_ ≠ (s_.2.2.1 : Value).ownBlock ∧ some k_ ≠ (s_.2.2.2.1 : Value).ownBlock) s_.2.2.2.2.1 t702) ∧ (w'.heap[gb685]? = some (.cells #[.slice A0_0 l0_0.length c0_0] 26 (0, 0))) ∧ (w'.heap[gb686]? = some (.cells #[.slice A1_0 l1_0.length c1_0] 26 (0, 0))) ∧ (w'.heap[gb687]? = some (.cells #[.slice none 0 0] 26 (0, 0))) ∧ (w'.heap[s_.2.2.2.2.2]? = some (.cells #[.slice none 0 0] 26 (0, 0))) ∧ (w.heap.size ≤ s_.2.2.2.2.2) ∧ (w.heap.size ≤ s_.2.2.2.2.2) ∧ (gb685 ≠ s_.2.2.2.2.2) ∧ (s_.2.2.2.2.2 ≠ gb685) ∧ (gb686 ≠ s_.2.2.2.2.2) ∧ (s_.2.2.2.2.2 ≠ gb686) ∧ (gb687 ≠ s_.2.2.2.2.2) ∧ (s_.2.2.2.2.2 ≠ gb687) ∧ (Below w.heap.size w w')) ?_ ?_
   rotate_left
   ·intro hJ1_3_4_5_6_10
    refine join_ (σ := Value × Value × Value × Value × Value) 3 (yz 13 1023) (fun s_ => [(19, s_.1), (21, s_.2.1), (22, s_.2.2.1), (23, s_.2.2.2.1), (24, .tuple #[.agg #[s_.2.2.2.2], .bool t705]), (17, .tuple #[.agg #[s_.2.2.2.2], .bool t705]), (25, .agg #[s_.2.2.2.2]), (26, .bool t705)]) (fun s_ w' => (w'.cell? ⟨gb685, 0, none⟩ = some (.slice A0_0 l0_0.length c0_0) ∧ w'.cell? ⟨gb686, 0, none⟩ = some (.slice A1_0 l1_0.length c1_0)) ∧ (Kd.R (Kd.int .i64) 3 w' w.heap.size (fun k_ => some k_ ≠ (s_.2.2.1 : Value).ownBlock ∧ some k_ ≠ (s_.2.2.2.1 : Value).ownBlock ∧ some k_ ≠ (s_.2.2.2.2 : Value).ownBlock) s_.2.1 t693) ∧ (Kd.R (Kd.int .i64) 3 w' w.heap.size (fun k_ => some k_ ≠ (s_.2.1 : Value).ownBlock ∧ some k_ ≠ (s_.2.2.2.1 : Value).ownBlock ∧ some k_ ≠ (s_.2.2.2.2 : Value).ownBlock) s_.2.2.1 y696) ∧ (Kd.R (Kd.int .i64) 3 w' w.heap.size (fun k_ => some k_ ≠ (s_.2.1 : Value).ownBlock ∧ some k_ ≠ (s_.2.2.1 : Value).ownBlock ∧ some k_ ≠ (s_.2.2.2.2 : Value).ownBlock) s_.2.2.2.1 t699) ∧ (Kd.R (Kd.int .i64) 3 w' w.heap.size (fun k_ => some k_ ≠ (s_.2.1 : Value).ownBlock ∧ some k_ ≠ (s_.2.2.1 : Value).ownBlock ∧ some k_ ≠ (s_.2.2.2.1 : Value).ownBlock) s_.2.2.2.2 t702) ∧ (w'.heap[gb685]? = some (.cells #[.slice A0_0 l0_0.length c0_0] 26 (0, 0))) ∧ (w'.heap[gb686]? = some (.cells #[.slice A1_0 l1_0.length c1_0] 26 (0, 0))) ∧ (w'.heap[gb687]? = some (.cells #[.slice none 0 0] 26 (0, 0))) ∧ (Below w.heap.size w w')) ?_ ?_
    rotate_left
    ·intro hJ1_3_4_5_6
     refine join_ (σ := Value × Value × Value × Value × Nat) 6 (yz 13 1087) (fun s_ => [(19, s_.1), (21, s_.2.1), (22, s_.2.2.1), (23, s_.2.2.2.1), (6, .pointer (some ⟨s_.2.2.2.2, 0, none⟩))]) (fun s_ w' => (w'.cell? ⟨gb685, 0, none⟩ = some (.slice A0_0 l0_0.length c0_0) ∧ w'.cell? ⟨gb686, 0, none⟩ = some (.slice A1_0 l1_0.length c1_0)) ∧ (Kd.R (Kd.int .i64) 3 w' w.heap.size (fun k_ => some k_ ≠ (s_.2.2.1 : Value).ownBlock ∧ some k_ ≠ (s_.2.2.2.1 : Value).ownBlock) s_.2.1 t693) ∧ (Kd.R (Kd.int .i64) 3 w' w.heap.size (fun k_ => some k_ ≠ (s_.2.1 : Value).ownBlock ∧ some k_ ≠ (s_.2.2.2.1 : Value).ownBlock) s_.2.2.1 y696) ∧ (Kd.R (Kd.int .i64) 3 w' w.heap.size (fun k_ => some k_ ≠ (s_.2.1 : Value).ownBlock ∧ some k_ ≠ (s_.2.2.1 : Value).ownBlock) s_.2.2.2.1 t699) ∧ (w'.heap[gb685]? = some (.cells #[.slice A0_0 l0_0.length c0_0] 26 (0, 0))) ∧ (w'.heap[gb686]? = some (.cells #[.slice A1_0 l1_0.length c1_0] 26 (0, 0))) ∧ (w'.heap[gb687]? = some (.cells #[.slice none 0 0] 26 (0, 0))) ∧ (w'.heap[s_.2.2.2.2]? = some (.cells #[.slice none 0 0] 26 (0, 0))) ∧ (w.heap.size ≤ s_.2.2.2.2) ∧ (w.heap.size ≤ s_.2.2.2.2) ∧ (gb685 ≠ s_.2.2.2.2) ∧ (s_.2.2.2.2 ≠ gb685) ∧ (gb686 ≠ s_.2.2.2.2) ∧ (s_.2.2.2.2 ≠ gb686) ∧ (gb687 ≠ s_.2.2.2.2) ∧ (s_.2.2.2.2 ≠ gb687) ∧ (Below w.heap.size w w')) ?_ ?_
     rotate_left
     ·intro hJ1_3_4_5_10
      refine join_ (σ := Value × Value × Value × Value) 7 (yz 13 63) (fun s_ => [(19, s_.1), (21, s_.2.1), (22, s_.2.2.1), (23, s_.2.2.2)]) (fun s_ w' => (w'.cell? ⟨gb685, 0, none⟩ = some (.slice A0_0 l0_0.length c0_0) ∧ w'.cell? ⟨gb686, 0, none⟩ = some (.slice A1_0 l1_0.length c1_0)) ∧ (Kd.R (Kd.int .i64) 3 w' w.heap.size (fun k_ => some k_ ≠ (s_.2.2.1 : Value).ownBlock ∧ some k_ ≠ (s_.2.2.2 : Value).ownBlock) s_.2.1 t693) ∧ (Kd.R (Kd.int .i64) 3 w' w.heap.size (fun k_ => some k_ ≠ (s_.2.1 : Value).ownBlock ∧ some k_ ≠ (s_.2.2.2 : Value).ownBlock) s_.2.2.1 y696) ∧ (Kd.R (Kd.int .i64) 3 w' w.heap.size (fun k_ => some k_ ≠ (s_.2.1 : Value).ownBlock ∧ some k_ ≠ (s_.2.2.1 : Value).ownBlock) s_.2.2.2 t699) ∧ (w'.heap[gb685]? = some (.cells #[.slice A0_0 l0_0.length c0_0] 26 (0, 0))) ∧ (w'.heap[gb686]? = some (.cells #[.slice A1_0 l1_0.length c1_0] 26 (0, 0))) ∧ (w'.heap[gb687]? = some (.cells #[.slice none 0 0] 26 (0, 0))) ∧ (Below w.heap.size w w')) ?_ ?_
      rotate_left
      ·intro hJ1_3_4_5
       refine join_ (σ := Value × Value × Value × Nat) 7 (yz 13 1055) (fun s_ => [(19, s_.1), (21, s_.2.1), (22, s_.2.2.1), (6, .pointer (some ⟨s_.2.2.2, 0, none⟩))]) (fun s_ w' => (w'.cell? ⟨gb685, 0, none⟩ = some (.slice A0_0 l0_0.length c0_0) ∧ w'.cell? ⟨gb686, 0, none⟩ = some (.slice A1_0 l1_0.length c1_0)) ∧ (Kd.R (Kd.int .i64) 3 w' w.heap.size (fun k_ => some k_ ≠ (s_.2.2.1 : Value).ownBlock) s_.2.1 t693) ∧ (Kd.R (Kd.int .i64) 3 w' w.heap.size (fun k_ => some k_ ≠ (s_.2.1 : Value).ownBlock) s_.2.2.1 y696) ∧ (w'.heap[gb685]? = some (.cells #[.slice A0_0 l0_0.length c0_0] 26 (0, 0))) ∧ (w'.heap[gb686]? = some (.cells #[.slice A1_0 l1_0.length c1_0] 26 (0, 0))) ∧ (w'.heap[gb687]? = some (.cells #[.slice none 0 0] 26 (0, 0))) ∧ (w'.heap[s_.2.2.2]? = some (.cells #[.slice none 0 0] 26 (0, 0))) ∧ (w.heap.size ≤ s_.2.2.2) ∧ (w.heap.size ≤ s_.2.2.2) ∧ (gb685 ≠ s_.2.2.2) ∧ (s_.2.2.2 ≠ gb685) ∧ (gb686 ≠ s_.2.2.2) ∧ (s_.2.2.2 ≠ gb686) ∧ (gb687 ≠ s_.2.2.2) ∧ (s_.2.2.2 ≠ gb687) ∧ (Below w.heap.size w w')) ?_ ?_
       rotate_left
       ·intro hJ1_3_4_10
        refine join_ (σ := Value × Value × Value) 8 (yz 13 31) (fun s_ => [(19, s_.1), (21, s_.2.1), (22, s_.2.2)]) (fun s_ w' => (w'.cell? ⟨gb685, 0, none⟩ = some (.slice A0_0 l0_0.length c0_0) ∧ w'.cell? ⟨gb686, 0, none⟩ = some (.slice A1_0 l1_0.length c1_0)) ∧ (Kd.R (Kd.int .i64) 3 w' w.heap.size (fun k_ => some k_ ≠ (s_.2.2 : Value).ownBlock) s_.2.1 t693) ∧ (Kd.R (Kd.int .i64) 3 w' w.heap.size (fun k_ => some k_ ≠ (s_.2.1 : Value).ownBlock) s_.2.2 y696) ∧ (w'.heap[gb685]? = some (.cells #[.slice A0_0 l0_0.length c0_0] 26 (0, 0))) ∧ (w'.heap[gb686]? = some (.cells #[.slice A1_0 l1_0.length c1_0] 26 (0, 0))) ∧ (w'.heap[gb687]? = some (.cells #[.slice none 0 0] 26 (0, 0))) ∧ (Below w.heap.size w w')) ?_ ?_
        rotate_left
        ·intro hJ1_3_4
         refine join_ (σ := Value × Value × Nat) 8 (yz 13 1039) (fun s_ => [(19, s_.1), (21, s_.2.1), (6, .pointer (some ⟨s_.2.2, 0, none⟩))]) (fun s_ w' => (w'.cell? ⟨gb685, 0, none⟩ = some (.slice A0_0 l0_0.length c0_0) ∧ w'.cell? ⟨gb686, 0, none⟩ = some (.slice A1_0 l1_0.length c1_0)) ∧ (Kd.R (Kd.int .i64) 3 w' w.heap.size (fun k_ => some k_ ≠ (s_.2.1 : Value).ownBlock) s_.1 t690) ∧ (Kd.R (Kd.int .i64) 3 w' w.heap.size (fun k_ => some k_ ≠ (s_.1 : Value).ownBlock) s_.2.1 t693) ∧ (w'.heap[gb685]? = some (.cells #[.slice A0_0 l0_0.length c0_0] 26 (0, 0))) ∧ (w'.heap[gb686]? = some (.cells #[.slice A1_0 l1_0.length c1_0] 26 (0, 0))) ∧ (w'.heap[gb687]? = some (.cells #[.slice none 0 0] 26 (0, 0))) ∧ (w'.heap[s_.2.2]? = some (.cells #[.slice none 0 0] 26 (0, 0))) ∧ (w.heap.size ≤ s_.2.2) ∧ (w.heap.size ≤ s_.2.2) ∧ (gb685 ≠ s_.2.2) ∧ (s_.2.2 ≠ gb685) ∧ (gb686 ≠ s_.2.2) ∧ (s_.2.2 ≠ gb686) ∧ (gb687 ≠ s_.2.2) ∧ (s_.2.2 ≠ gb687) ∧ (Below w.heap.size w w')) ?_ ?_
         rotate_left
         ·intro hJ1_3_10
          refine join_ (σ := Value × Value) 9 (yz 13 15) (fun s_ => [(19, s_.1), (21, s_.2)]) (fun s_ w' => (w'.cell? ⟨gb685, 0, none⟩ = some (.slice A0_0 l0_0.length c0_0) ∧ w'.cell? ⟨gb686, 0, none⟩ = some (.slice A1_0 l1_0.length c1_0)) ∧ (Kd.R (Kd.int .i64) 3 w' w.heap.size (fun k_ => some k_ ≠ (s_.2 : Value).ownBlock) s_.1 t690) ∧ (Kd.R (Kd.int .i64) 3 w' w.heap.size (fun k_ => some k_ ≠ (s_.1 : Value).ownBlock) s_.2 t693) ∧ (w'.heap[gb685]? = some (.cells #[.slice A0_0 l0_0.length c0_0] 26 (0, 0))) ∧ (w'.heap[gb686]? = some (.cells #[.slice A1_0 l1_0.length c1_0] 26 (0, 0))) ∧ (w'.heap[gb687]? = some (.cells #[.slice none 0 0] 26 (0, 0))) ∧ (Below w.heap.size w w')) ?_ ?_
          rotate_left
          ·intro hJ1_3
           refine join_ (σ := Value × Nat) 9 (yz 13 1031) (fun s_ => [(19, s_.1), (6, .pointer (some ⟨s_.2, 0, none⟩))]) (fun s_ w' => (w'.cell? ⟨gb685, 0, none⟩ = some (.slice A0_0 l0_0.length c0_0) ∧ w'.cell? ⟨gb686, 0, none⟩ = some (.slice A1_0 l1_0.length c1_0)) ∧ (Kd.R (Kd.int .i64) 3 w' w.heap.size (fun _ => True) s_.1 t690) ∧ (w'.heap[gb685]? = some (.cells #[.slice A0_0 l0_0.length c0_0] 26 (0, 0))) ∧ (w'.heap[gb686]? = some (.cells #[.slice A1_0 l1_0.length c1_0] 26 (0, 0))) ∧ (w'.heap[gb687]? = some (.cells #[.slice none 0 0] 26 (0, 0))) ∧ (w'.heap[s_.2]? = some (.cells #[.slice none 0 0] 26 (0, 0))) ∧ (w.heap.size ≤ s_.2) ∧ (w.heap.size ≤ s_.2) ∧ (gb685 ≠ s_.2) ∧ (s_.2 ≠ gb685) ∧ (gb686 ≠ s_.2) ∧ (s_.2 ≠ gb686) ∧ (gb687 ≠ s_.2) ∧ (s_.2 ≠ gb687) ∧ (Below w.heap.size w w')) ?_ ?_
           rotate_left
           ·intro hJ1_10
            refine join_ (σ := Value) 10 (yz 13 7) (fun s_ => [(19, s_)]) (fun s_ w' => (w'.cell? ⟨gb685, 0, none⟩ = some (.slice A0_0 l0_0.length c0_0) ∧ w'.cell? ⟨gb686, 0, none⟩ = some (.slice A1_0 l1_0.length c1_0)) ∧ (Kd.R (Kd.int .i64) 3 w' w.heap.size (fun _ => True) s_ t690) ∧ (w'.heap[gb685]? = some (.cells #[.slice A0_0 l0_0.length c0_0] 26 (0, 0))) ∧ (w'.heap[gb686]? = some (.cells #[.slice A1_0 l1_0.length c1_0] 26 (0, 0))) ∧ (w'.heap[gb687]? = some (.cells #[.slice none 0 0] 26 (0, 0))) ∧ (Below w.heap.size w w')) ?_ ?_
            rotate_left
            ·intro hJ1
             refine join_ (σ := Nat) 10 (yz 13 1029) (fun s_ => [(6, .pointer (some ⟨s_, 0, none⟩))]) (fun s_ w' => (w'.cell? ⟨gb685, 0, none⟩ = some (.slice A0_0 l0_0.length c0_0) ∧ w'.cell? ⟨gb686, 0, none⟩ = some (.slice A1_0 l1_0.length c1_0)) ∧ (w'.heap[gb685]? = some (.cells #[.slice A0_0 l0_0.length c0_0] 26 (0, 0))) ∧ (w'.heap[gb686]? = some (.cells #[.slice A1_0 l1_0.length c1_0] 26 (0, 0))) ∧ (w'.heap[gb687]? = some (.cells #[.slice none 0 0] 26 (0, 0))) ∧ (w'.heap[s_]? = some (.cells #[.slice none 0 0] 26 (0, 0))) ∧ (w.heap.size ≤ s_) ∧ (w.heap.size ≤ s_) ∧ (gb685 ≠ s_) ∧ (s_ ≠ gb685) ∧ (gb686 ≠ s_) ∧ (s_ ≠ gb686) ∧ (gb687 ≠ s_) ∧ (s_ ≠ gb687) ∧ (Below w.heap.size w w')) ?_ ?_
             rotate_left
             ·intro hJ10
              refine two_ (i := 1) (j := 10) (Ni := some 19) (Nj := some 6) (yz 13 7) (yz 13 1029) rfl rfl rfl rfl (two_of HT_.out (by kernel_rfl)) (by decide) (by decide) (fun K hK => ?_) (fun K hK => ?_)
              ·skip
               refine gm Try.func149 #[.agg #[.slice A0_0 l0_0.length c0_0]] ?_
               with_reducible refine (spec_l4Gaps.calls kj2 _ _ l0_0 t690 _ ?side1 ?side2 A25.out).mono ?_
               (case side1 => exact co (Kd.C_below HR0_0.out HB.out))
               (case side2 => exact HC0_0.out)
               rintro e w31 ⟨v691, rfl, ho0, hb⟩
               refine ⟨_, rfl, ?_⟩
               have HO692 := am (Kd.R_lower ho0 (below_size bw))
               replace BK685 := kb BK685 hb
               replace BK686 := kb BK686 hb
               replace BK687 := kb BK687 hb
               replace HB := am (below_step bw hb)
               clear hb ho0
               refine hK.out _ _ ⟨bc BK685 0 _, bc BK686 0 _⟩ (fun hHeld => ?_)
               clear hK K
               refine nm (some 19) ?_
               exact norm_ (by first | (simp only [putAll, Act.put, List.setIfInBounds_toArray, List.set_cons_zero, List.set_cons_succ]; done) | (simp only [putAll, Act.put, List.setIfInBounds_toArray, List.set_cons_zero, List.set_cons_succ]; rfl)) (hJ1 (v691) _ ⟨hHeld, (ro HO692.out), (bo BK685.out), (bo BK686.out), (bo BK687.out), bw⟩)
              skip
              refine box_step ?hg (N := 6) ?hd (cs := #[.slice none 0 0]) (t := 26) ?hr ?_; (case hd => rfl); (case hg => rfl); (case hr => first | (go_simp; done) | (go_simp; rfl))
              intro gb706 hg w31 hbox hb
              have BK706 := am (hbox)
              have GW706 := am (gs hg : w.heap.size ≤ gb706)
              have GE706 := am (gs hg : w.heap.size ≤ gb706)
              replace HB := am (below_step bw hb)
              have NB685_706 := nl hg BK685
              have NB706_685 := ng hg BK685
              replace BK685 := kb BK685 hb
              have NB686_706 := nl hg BK686
              have NB706_686 := ng hg BK686
              replace BK686 := kb BK686 hb
              have NB687_706 := nl hg BK687
              have NB706_687 := ng hg BK687
              replace BK687 := kb BK687 hb
              clear hb hbox hg
              refine hK.out _ _ ⟨bc BK685 0 _, bc BK686 0 _⟩ (fun hHeld => ?_)
              clear hK K
              refine nm (some 6) ?_
              exact norm_ (by first | (simp only [putAll, Act.put, List.setIfInBounds_toArray, List.set_cons_zero, List.set_cons_succ]; done) | (simp only [putAll, Act.put, List.setIfInBounds_toArray, List.set_cons_zero, List.set_cons_succ]; rfl)) (hJ10 (gb706) _ ⟨hHeld, (bo BK685.out), (bo BK686.out), (bo BK687.out), (bo BK706.out), GW706.out, GE706.out, NB685_706.out, NB706_685.out, NB686_706.out, NB706_686.out, NB687_706.out, NB706_687.out, bw⟩)
             skip
             rintro gb706 w32 ⟨hS_, h0_, h1_, h2_, h3_, h4_, h5_, h6_, h7_, h8_, h9_, h10_, h11_, h12_⟩
             have n0_ : Aside0 (w32.heap[gb685]? = some (.cells #[.slice A0_0 l0_0.length c0_0] 26 (0, 0))) := ⟨h0_⟩
             have n1_ : Aside0 (w32.heap[gb686]? = some (.cells #[.slice A1_0 l1_0.length c1_0] 26 (0, 0))) := ⟨h1_⟩
             have n2_ : Aside0 (w32.heap[gb687]? = some (.cells #[.slice none 0 0] 26 (0, 0))) := ⟨h2_⟩
             have n3_ : Aside0 (w32.heap[gb706]? = some (.cells #[.slice none 0 0] 26 (0, 0))) := ⟨h3_⟩
             have n4_ : Aside0 (w.heap.size ≤ gb706) := ⟨h4_⟩
             have n5_ : Aside0 (w.heap.size ≤ gb706) := ⟨h5_⟩
             have n6_ : Aside0 (gb685 ≠ gb706) := ⟨h6_⟩
             have n7_ : Aside0 (gb706 ≠ gb685) := ⟨h7_⟩
             have n8_ : Aside0 (gb686 ≠ gb706) := ⟨h8_⟩
             have n9_ : Aside0 (gb706 ≠ gb686) := ⟨h9_⟩
             have n10_ : Aside0 (gb687 ≠ gb706) := ⟨h10_⟩
             have n11_ : Aside0 (gb706 ≠ gb687) := ⟨h11_⟩
             have n12_ : Aside0 (Below w.heap.size w w32) := ⟨h12_⟩
             clear BK685
             clear BK686
             clear BK687
             clear HB
             clear h0_ h1_ h2_ h3_ h4_ h5_ h6_ h7_ h8_ h9_ h10_ h11_ h12_
             have BK685 := n0_
             have BK686 := n1_
             have BK687 := n2_
             have BK706 := n3_
             have GW706 := n4_
             have GE706 := n5_
             have NB685_706 := n6_
             have NB706_685 := n7_
             have NB686_706 := n8_
             have NB706_686 := n9_
             have NB687_706 := n10_
             have NB706_687 := n11_
             have HB := n12_
             clear n0_ n1_ n2_ n3_ n4_ n5_ n6_ n7_ n8_ n9_ n10_ n11_ n12_
             have hHeld : w32.cell? ⟨gb685, 0, none⟩ = some (.slice A0_0 l0_0.length c0_0) ∧ w32.cell? ⟨gb686, 0, none⟩ = some (.slice A1_0 l1_0.length c1_0) := hS_
             refine norm_ (a' := ?_) ?_ ?_
             rotate_left
             ·simp only [putAll, Act.put, List.setIfInBounds_toArray, List.set_cons_zero, List.set_cons_succ]
              rfl
             refine oa 1 (some 19) (yz 13 1031) HT_ (fun K hK => ?_)
             refine gm Try.func149 #[.agg #[.slice A0_0 l0_0.length c0_0]] ?_
             with_reducible refine (spec_l4Gaps.calls kj2 _ _ l0_0 t690 _ ?side1 ?side2 A25.out).mono ?_
             (case side1 => exact co (Kd.C_below HR0_0.out HB.out))
             (case side2 => exact HC0_0.out)
             rintro e w33 ⟨v691, rfl, ho0, hb⟩
             refine ⟨_, rfl, ?_⟩
             have HO692 := am (Kd.R_lower ho0 (below_size bw))
             replace BK685 := kb BK685 hb
             replace BK686 := kb BK686 hb
             replace BK687 := kb BK687 hb
             replace BK706 := kb BK706 hb
             replace HB := am (below_step bw hb)
             clear hb ho0
             refine hK.out _ _ ⟨bc BK685 0 _, bc BK686 0 _⟩ (fun hHeld => ?_)
             clear hK K
             refine nm (some 19) ?_
             exact norm_ (by first | (simp only [putAll, Act.put, List.setIfInBounds_toArray, List.set_cons_zero, List.set_cons_succ]; done) | (simp only [putAll, Act.put, List.setIfInBounds_toArray, List.set_cons_zero, List.set_cons_succ]; rfl)) (hJ1_10 (v691, gb706) _ ⟨hHeld, (ro HO692.out), (bo BK685.out), (bo BK686.out), (bo BK687.out), (bo BK706.out), GW706.out, GE706.out, NB685_706.out, NB706_685.out, NB686_706.out, NB706_686.out, NB687_706.out, NB706_687.out, bw⟩)
            skip
            rintro v691 w32 ⟨hS_, h0_, h1_, h2_, h3_, h4_⟩
            have n0_ : Aside0 (Kd.R (Kd.int .i64) 3 w32 w.heap.size (fun _ => True) v691 t690) := ⟨h0_⟩
            have n1_ : Aside0 (w32.heap[gb685]? = some (.cells #[.slice A0_0 l0_0.length c0_0] 26 (0, 0))) := ⟨h1_⟩
            have n2_ : Aside0 (w32.heap[gb686]? = some (.cells #[.slice A1_0 l1_0.length c1_0] 26 (0, 0))) := ⟨h2_⟩
            have n3_ : Aside0 (w32.heap[gb687]? = some (.cells #[.slice none 0 0] 26 (0, 0))) := ⟨h3_⟩
            have n4_ : Aside0 (Below w.heap.size w w32) := ⟨h4_⟩
            clear BK685
            clear BK686
            clear BK687
            clear HB
            clear h0_ h1_ h2_ h3_ h4_
            have HO692 := n0_
            have BK685 := n1_
            have BK686 := n2_
            have BK687 := n3_
            have HB := n4_
            clear n0_ n1_ n2_ n3_ n4_
            have hHeld : w32.cell? ⟨gb685, 0, none⟩ = some (.slice A0_0 l0_0.length c0_0) ∧ w32.cell? ⟨gb686, 0, none⟩ = some (.slice A1_0 l1_0.length c1_0) := hS_
            refine norm_ (a' := ?_) ?_ ?_
            rotate_left
            ·simp only [putAll, Act.put, List.setIfInBounds_toArray, List.set_cons_zero, List.set_cons_succ]
             rfl
            refine two_ (i := 3) (j := 10) (Ni := some 21) (Nj := some 6) (yz 13 15) (yz 13 1031) rfl rfl rfl rfl (two_of HT_.out (by kernel_rfl)) (by decide) (by decide) (fun K hK => ?_) (fun K hK => ?_)
            ·skip
             refine gm Try.func149 #[.agg #[.slice A1_0 l1_0.length c1_0]] ?_
             with_reducible refine (spec_l4Gaps.calls kj2 _ _ l1_0 t693 _ ?side1 ?side2 A26.out).mono ?_
             (case side1 => exact co (Kd.C_below HR1_0.out HB.out))
             (case side2 => exact HC1_0.out)
             rintro e w33 ⟨v694, rfl, ho0, hb⟩
             refine ⟨_, rfl, ?_⟩
             have HO695 := am (Kd.R_lower (Kd.R_new' ho0 (Kd.R_lt (ro HO692.out))) (below_size bw))
             replace HO692 := am (Kd.R_elder' (ro HO692.out) (Kd.R_base ho0) hb)
             replace BK685 := kb BK685 hb
             replace BK686 := kb BK686 hb
             replace BK687 := kb BK687 hb
             replace HB := am (below_step bw hb)
             clear hb ho0
             refine hK.out _ _ ⟨bc BK685 0 _, bc BK686 0 _⟩ (fun hHeld => ?_)
             clear hK K
             refine nm (some 21) ?_
             exact norm_ (by first | (simp only [putAll, Act.put, List.setIfInBounds_toArray, List.set_cons_zero, List.set_cons_succ]; done) | (simp only [putAll, Act.put, List.setIfInBounds_toArray, List.set_cons_zero, List.set_cons_succ]; rfl)) (hJ1_3 (v691, v694) _ ⟨hHeld, (by (with_reducible repeat (first | apply Kd.R_alloc | apply Kd.R_drewN | apply Kd.R_drew)); exact Kd.R_mono HO692.out (fun _ hk => hk.2)), (by (with_reducible repeat (first | apply Kd.R_alloc | apply Kd.R_drewN | apply Kd.R_drew)); exact Kd.R_mono HO695.out (fun _ hk => hk.2)), (bo BK685.out), (bo BK686.out), (bo BK687.out), bw⟩)
            skip
            refine box_step ?hg (N := 6) ?hd (cs := #[.slice none 0 0]) (t := 26) ?hr ?_; (case hd => rfl); (case hg => rfl); (case hr => first | (go_simp; done) | (go_simp; rfl))
            intro gb706 hg w33 hbox hb
            replace HO692 := rK HO692 hb
            have BK706 := am (hbox)
            have GW706 := am (gs hg : w.heap.size ≤ gb706)
            have GE706 := am (gs hg : w.heap.size ≤ gb706)
            replace HB := am (below_step bw hb)
            have NB685_706 := nl hg BK685
            have NB706_685 := ng hg BK685
            replace BK685 := kb BK685 hb
            have NB686_706 := nl hg BK686
            have NB706_686 := ng hg BK686
            replace BK686 := kb BK686 hb
            have NB687_706 := nl hg BK687
            have NB706_687 := ng hg BK687
            replace BK687 := kb BK687 hb
            clear hb hbox hg
            refine hK.out _ _ ⟨bc BK685 0 _, bc BK686 0 _⟩ (fun hHeld => ?_)
            clear hK K
            refine nm (some 6) ?_
            exact norm_ (by first | (simp only [putAll, Act.put, List.setIfInBounds_toArray, List.set_cons_zero, List.set_cons_succ]; done) | (simp only [putAll, Act.put, List.setIfInBounds_toArray, List.set_cons_zero, List.set_cons_succ]; rfl)) (hJ1_10 (v691, gb706) _ ⟨hHeld, (ro HO692.out), (bo BK685.out), (bo BK686.out), (bo BK687.out), (bo BK706.out), GW706.out, GE706.out, NB685_706.out, NB706_685.out, NB686_706.out, NB706_686.out, NB687_706.out, NB706_687.out, bw⟩)
           skip
           rintro ⟨v691, gb706⟩ w33 ⟨hS_, h0_, h1_, h2_, h3_, h4_, h5_, h6_, h7_, h8_, h9_, h10_, h11_, h12_, h13_⟩
           have n0_ : Aside0 (Kd.R (Kd.int .i64) 3 w33 w.heap.size (fun _ => True) v691 t690) := ⟨h0_⟩
           have n1_ : Aside0 (w33.heap[gb685]? = some (.cells #[.slice A0_0 l0_0.length c0_0] 26 (0, 0))) := ⟨h1_⟩
           have n2_ : Aside0 (w33.heap[gb686]? = some (.cells #[.slice A1_0 l1_0.length c1_0] 26 (0, 0))) := ⟨h2_⟩
           have n3_ : Aside0 (w33.heap[gb687]? = some (.cells #[.slice none 0 0] 26 (0, 0))) := ⟨h3_⟩
           have n4_ : Aside0 (w33.heap[gb706]? = some (.cells #[.slice none 0 0] 26 (0, 0))) := ⟨h4_⟩
           have n5_ : Aside0 (w.heap.size ≤ gb706) := ⟨h5_⟩
           have n6_ : Aside0 (w.heap.size ≤ gb706) := ⟨h6_⟩
           have n7_ : Aside0 (gb685 ≠ gb706) := ⟨h7_⟩
           have n8_ : Aside0 (gb706 ≠ gb685) := ⟨h8_⟩
           have n9_ : Aside0 (gb686 ≠ gb706) := ⟨h9_⟩
           have n10_ : Aside0 (gb706 ≠ gb686) := ⟨h10_⟩
           have n11_ : Aside0 (gb687 ≠ gb706) := ⟨h11_⟩
           have n12_ : Aside0 (gb706 ≠ gb687) := ⟨h12_⟩
           have n13_ : Aside0 (Below w.heap.size w w33) := ⟨h13_⟩
           clear BK685
           clear BK686
           clear BK687
           clear HB
           clear h0_ h1_ h2_ h3_ h4_ h5_ h6_ h7_ h8_ h9_ h10_ h11_ h12_ h13_
           have HO692 := n0_
           have BK685 := n1_
           have BK686 := n2_
           have BK687 := n3_
           have BK706 := n4_
           have GW706 := n5_
           have GE706 := n6_
           have NB685_706 := n7_
           have NB706_685 := n8_
           have NB686_706 := n9_
           have NB706_686 := n10_
           have NB687_706 := n11_
           have NB706_687 := n12_
           have HB := n13_
           clear n0_ n1_ n2_ n3_ n4_ n5_ n6_ n7_ n8_ n9_ n10_ n11_ n12_ n13_
           have hHeld : w33.cell? ⟨gb685, 0, none⟩ = some (.slice A0_0 l0_0.length c0_0) ∧ w33.cell? ⟨gb686, 0, none⟩ = some (.slice A1_0 l1_0.length c1_0) := hS_
           refine norm_ (a' := ?_) ?_ ?_
           rotate_left
           ·simp only [putAll, Act.put, List.setIfInBounds_toArray, List.set_cons_zero, List.set_cons_succ]
            rfl
           refine oa 3 (some 21) (yz 13 1039) HT_ (fun K hK => ?_)
           refine gm Try.func149 #[.agg #[.slice A1_0 l1_0.length c1_0]] ?_
           with_reducible refine (spec_l4Gaps.calls kj2 _ _ l1_0 t693 _ ?side1 ?side2 A26.out).mono ?_
           (case side1 => exact co (Kd.C_below HR1_0.out HB.out))
           (case side2 => exact HC1_0.out)
           rintro e w34 ⟨v694, rfl, ho0, hb⟩
           refine ⟨_, rfl, ?_⟩
           have HO695 := am (Kd.R_lower (Kd.R_new' ho0 (Kd.R_lt (ro HO692.out))) (below_size bw))
           replace HO692 := am (Kd.R_elder' (ro HO692.out) (Kd.R_base ho0) hb)
           replace BK685 := kb BK685 hb
           replace BK686 := kb BK686 hb
           replace BK687 := kb BK687 hb
           replace BK706 := kb BK706 hb
           replace HB := am (below_step bw hb)
           clear hb ho0
           refine hK.out _ _ ⟨bc BK685 0 _, bc BK686 0 _⟩ (fun hHeld => ?_)
           clear hK K
           refine nm (some 21) ?_
           exact norm_ (by first | (simp only [putAll, Act.put, List.setIfInBounds_toArray, List.set_cons_zero, List.set_cons_succ]; done) | (simp only [putAll, Act.put, List.setIfInBounds_toArray, List.set_cons_zero, List.set_cons_succ]; rfl)) (hJ1_3_10 (v691, v694, gb706) _ ⟨hHeld, (by (with_reducible repeat (first | apply Kd.R_alloc | apply Kd.R_drewN | apply Kd.R_drew)); exact Kd.R_mono HO692.out (fun _ hk => hk.2)), (by (with_reducible repeat (first | apply Kd.R_alloc | apply Kd.R_drewN | apply Kd.R_drew)); exact Kd.R_mono HO695.out (fun _ hk => hk.2)), (bo BK685.out), (bo BK686.out), (bo BK687.out), (bo BK706.out), GW706.out, GE706.out, NB685_706.out, NB706_685.out, NB686_706.out, NB706_686.out, NB687_706.out, NB706_687.out, bw⟩)
          skip
          rintro ⟨v691, v694⟩ w33 ⟨hS_, h0_, h1_, h2_, h3_, h4_, h5_⟩
          have n0_ : Aside0 (Kd.R (Kd.int .i64) 3 w33 w.heap.size (fun k_ => some k_ ≠ (v694 : Value).ownBlock) v691 t690) := ⟨h0_⟩
          have n1_ : Aside0 (Kd.R (Kd.int .i64) 3 w33 w.heap.size (fun k_ => some k_ ≠ (v691 : Value).ownBlock) v694 t693) := ⟨h1_⟩
          have n2_ : Aside0 (w33.heap[gb685]? = some (.cells #[.slice A0_0 l0_0.length c0_0] 26 (0, 0))) := ⟨h2_⟩
          have n3_ : Aside0 (w33.heap[gb686]? = some (.cells #[.slice A1_0 l1_0.length c1_0] 26 (0, 0))) := ⟨h3_⟩
          have n4_ : Aside0 (w33.heap[gb687]? = some (.cells #[.slice none 0 0] 26 (0, 0))) := ⟨h4_⟩
          have n5_ : Aside0 (Below w.heap.size w w33) := ⟨h5_⟩
          clear BK685
          clear BK686
          clear BK687
          clear HB
          clear h0_ h1_ h2_ h3_ h4_ h5_
          have HO692 := n0_
          have HO695 := n1_
          have BK685 := n2_
          have BK686 := n3_
          have BK687 := n4_
          have HB := n5_
          clear n0_ n1_ n2_ n3_ n4_ n5_
          have hHeld : w33.cell? ⟨gb685, 0, none⟩ = some (.slice A0_0 l0_0.length c0_0) ∧ w33.cell? ⟨gb686, 0, none⟩ = some (.slice A1_0 l1_0.length c1_0) := hS_
          obtain ⟨Ao35, co35, eo35⟩ := Kd.R_slice HO695.out
          (first | subst eo35 | (injection eo35 with f1_ f2_ f3_; have f4_ := f1_.symm; have f5_ := f3_.symm; clear f1_ f2_ f3_; subst f4_; subst f5_))
          refine norm_ (a' := ?_) ?_ ?_
          rotate_left
          ·simp only [putAll, Act.put, List.setIfInBounds_toArray, List.set_cons_zero, List.set_cons_succ]
           rfl
          refine two_ (i := 4) (j := 10) (Ni := some 22) (Nj := some 6) (yz 13 31) (yz 13 1039) rfl rfl rfl rfl (two_of HT_.out (by kernel_rfl)) (by decide) (by decide) (fun K hK => ?_) (fun K hK => ?_)
          ·skip
           refine Kd.R_append_rows_step (Kd.int .i64) (w0 := w) w.heap.size (by rfl) (.tmp 19) (.tmp 21) 24 3 (.int .i64 0) 8 rfl Try.underlying24 info3 rfl (by decide) (by omega) v691 t690 t693 _ _ _ (fun k_ => nb k_ Ao35 t693 co35) (fun _ => False) rfl rfl ?aO ?aR (fun _ _ h => h) (fun _ h => h.elim) ?aF ?aB ?aS ?aL ?_
           (case aR => exact co (Kd.R_reads' HO695.out).2.2)
           (case aB => exact bw)
           (case aF => exact (fun k_ hk => Kd.fresh' (Kd.R_lt (ro HO695.out)) k_ hk))
           (case aO => exact (ro HO692.out))
           (case aS => exact (below_size bw))
           (case aL => have := LMc27.out; omega)
           intro v697 w34 ho hb hg hat
           rw [← Ny696.out] at ho
           replace BK685 := am (blk_grown (g := gb685) (o := .cells #[.slice A0_0 l0_0.length c0_0] 26 (0, 0)) (bo BK685.out) hg (Kd.R_ne HO692.out BK685.out (by decide)))
           replace BK686 := am (blk_grown (g := gb686) (o := .cells #[.slice A1_0 l1_0.length c1_0] 26 (0, 0)) (bo BK686.out) hg (Kd.R_ne HO692.out BK686.out (by decide)))
           replace BK687 := am (blk_grown (g := gb687) (o := .cells #[.slice none 0 0] 26 (0, 0)) (bo BK687.out) hg (Kd.R_ne HO692.out BK687.out (by decide)))
           replace HO695 := am (Kd.R_after (ok := (fun _ => True)) (by (with_reducible repeat (first | apply Kd.R_alloc | apply Kd.R_drewN | apply Kd.R_drew)); exact Kd.R_mono HO695.out (fun _ hk => ⟨trivial, by first | exact hk | exact (by intro a n m c x h; cases a <;> exact h : ∀ (a : Option Addr) (n m c x : Nat), some x ≠ (Value.slice a n c).ownBlock → some x ≠ (Value.slice a m c).ownBlock) _ _ _ _ _ hk⟩)) hg hat)
           replace HB := am (hb)
           have HO698 := am (ho)
           clear HO692 ho hb hg hat
           refine hK.out _ _ ⟨bc BK685 0 _, bc BK686 0 _⟩ (fun hHeld => ?_)
           clear hK K
           refine nm (some 22) ?_
           exact norm_ (by first | (simp only [putAll, Act.put, List.setIfInBounds_toArray, List.set_cons_zero, List.set_cons_succ]; done) | (simp only [putAll, Act.put, List.setIfInBounds_toArray, List.set_cons_zero, List.set_cons_succ]; rfl)) (hJ1_3_4 (v691, .slice Ao35 t693.length co35, v697) _ ⟨hHeld, (by (with_reducible repeat (first | apply Kd.R_alloc | apply Kd.R_drewN | apply Kd.R_drew)); exact Kd.R_mono HO695.out (fun _ hk => hk.2)), (ro HO698.out), (bo BK685.out), (bo BK686.out), (bo BK687.out), bw⟩)
          skip
          refine box_step ?hg (N := 6) ?hd (cs := #[.slice none 0 0]) (t := 26) ?hr ?_; (case hd => rfl); (case hg => rfl); (case hr => first | (go_simp; done) | (go_simp; rfl))
          intro gb706 hg w34 hbox hb
          replace HO692 := rK HO692 hb
          replace HO695 := rK HO695 hb
          have BK706 := am (hbox)
          have GW706 := am (gs hg : w.heap.size ≤ gb706)
          have GE706 := am (gs hg : w.heap.size ≤ gb706)
          replace HB := am (below_step bw hb)
          have NB685_706 := nl hg BK685
          have NB706_685 := ng hg BK685
          replace BK685 := kb BK685 hb
          have NB686_706 := nl hg BK686
          have NB706_686 := ng hg BK686
          replace BK686 := kb BK686 hb
          have NB687_706 := nl hg BK687
          have NB706_687 := ng hg BK687
          replace BK687 := kb BK687 hb
          clear hb hbox hg
          refine hK.out _ _ ⟨bc BK685 0 _, bc BK686 0 _⟩ (fun hHeld => ?_)
          clear hK K
          refine nm (some 6) ?_
          exact norm_ (by first | (simp only [putAll, Act.put, List.setIfInBounds_toArray, List.set_cons_zero, List.set_cons_succ]; done) | (simp only [putAll, Act.put, List.setIfInBounds_toArray, List.set_cons_zero, List.set_cons_succ]; rfl)) (hJ1_3_10 (v691, .slice Ao35 t693.length co35, gb706) _ ⟨hHeld, (ro HO692.out), (ro HO695.out), (bo BK685.out), (bo BK686.out), (bo BK687.out), (bo BK706.out), GW706.out, GE706.out, NB685_706.out, NB706_685.out, NB686_706.out, NB706_686.out, NB687_706.out, NB706_687.out, bw⟩)
         skip
         rintro ⟨v691, v694, gb706⟩ w34 ⟨hS_, h0_, h1_, h2_, h3_, h4_, h5_, h6_, h7_, h8_, h9_, h10_, h11_, h12_, h13_, h14_⟩
         have n0_ : Aside0 (Kd.R (Kd.int .i64) 3 w34 w.heap.size (fun k_ => some k_ ≠ (v694 : Value).ownBlock) v691 t690) := ⟨h0_⟩
         have n1_ : Aside0 (Kd.R (Kd.int .i64) 3 w34 w.heap.size (fun k_ => some k_ ≠ (v691 : Value).ownBlock) v694 t693) := ⟨h1_⟩
         have n2_ : Aside0 (w34.heap[gb685]? = some (.cells #[.slice A0_0 l0_0.length c0_0] 26 (0, 0))) := ⟨h2_⟩
         have n3_ : Aside0 (w34.heap[gb686]? = some (.cells #[.slice A1_0 l1_0.length c1_0] 26 (0, 0))) := ⟨h3_⟩
         have n4_ : Aside0 (w34.heap[gb687]? = some (.cells #[.slice none 0 0] 26 (0, 0))) := ⟨h4_⟩
         have n5_ : Aside0 (w34.heap[gb706]? = some (.cells #[.slice none 0 0] 26 (0, 0))) := ⟨h5_⟩
         have n6_ : Aside0 (w.heap.size ≤ gb706) := ⟨h6_⟩
         have n7_ : Aside0 (w.heap.size ≤ gb706) := ⟨h7_⟩
         have n8_ : Aside0 (gb685 ≠ gb706) := ⟨h8_⟩
         have n9_ : Aside0 (gb706 ≠ gb685) := ⟨h9_⟩
         have n10_ : Aside0 (gb686 ≠ gb706) := ⟨h10_⟩
         have n11_ : Aside0 (gb706 ≠ gb686) := ⟨h11_⟩
         have n12_ : Aside0 (gb687 ≠ gb706) := ⟨h12_⟩
         have n13_ : Aside0 (gb706 ≠ gb687) := ⟨h13_⟩
         have n14_ : Aside0 (Below w.heap.size w w34) := ⟨h14_⟩
         clear BK685
         clear BK686
         clear BK687
         clear HB
         clear h0_ h1_ h2_ h3_ h4_ h5_ h6_ h7_ h8_ h9_ h10_ h11_ h12_ h13_ h14_
         have HO692 := n0_
         have HO695 := n1_
         have BK685 := n2_
         have BK686 := n3_
         have BK687 := n4_
         have BK706 := n5_
         have GW706 := n6_
         have GE706 := n7_
         have NB685_706 := n8_
         have NB706_685 := n9_
         have NB686_706 := n10_
         have NB706_686 := n11_
         have NB687_706 := n12_
         have NB706_687 := n13_
         have HB := n14_
         clear n0_ n1_ n2_ n3_ n4_ n5_ n6_ n7_ n8_ n9_ n10_ n11_ n12_ n13_ n14_
         have hHeld : w34.cell? ⟨gb685, 0, none⟩ = some (.slice A0_0 l0_0.length c0_0) ∧ w34.cell? ⟨gb686, 0, none⟩ = some (.slice A1_0 l1_0.length c1_0) := hS_
         obtain ⟨Ao36, co36, eo36⟩ := Kd.R_slice HO695.out
         (first | subst eo36 | (injection eo36 with f1_ f2_ f3_; have f4_ := f1_.symm; have f5_ := f3_.symm; clear f1_ f2_ f3_; subst f4_; subst f5_))
         refine norm_ (a' := ?_) ?_ ?_
         rotate_left
         ·simp only [putAll, Act.put, List.setIfInBounds_toArray, List.set_cons_zero, List.set_cons_succ]
          rfl
         refine oa 4 (some 22) (yz 13 1055) HT_ (fun K hK => ?_)
         refine Kd.R_append_rows_step (Kd.int .i64) (w0 := w) w.heap.size (by rfl) (.tmp 19) (.tmp 21) 24 3 (.int .i64 0) 8 rfl Try.underlying24 info3 rfl (by decide) (by omega) v691 t690 t693 _ _ _ (fun k_ => nb k_ Ao36 t693 co36) (fun _ => False) rfl rfl ?aO ?aR (fun _ _ h => h) (fun _ h => h.elim) ?aF ?aB ?aS ?aL ?_
         (case aR => exact co (Kd.R_reads' HO695.out).2.2)
         (case aB => exact bw)
         (case aF => exact (fun k_ hk => Kd.fresh' (Kd.R_lt (ro HO695.out)) k_ hk))
         (case aO => exact (ro HO692.out))
         (case aS => exact (below_size bw))
         (case aL => have := LMc27.out; omega)
         intro v697 w35 ho hb hg hat
         rw [← Ny696.out] at ho
         replace BK685 := am (blk_grown (g := gb685) (o := .cells #[.slice A0_0 l0_0.length c0_0] 26 (0, 0)) (bo BK685.out) hg (Kd.R_ne HO692.out BK685.out (by decide)))
         replace BK686 := am (blk_grown (g := gb686) (o := .cells #[.slice A1_0 l1_0.length c1_0] 26 (0, 0)) (bo BK686.out) hg (Kd.R_ne HO692.out BK686.out (by decide)))
         replace BK687 := am (blk_grown (g := gb687) (o := .cells #[.slice none 0 0] 26 (0, 0)) (bo BK687.out) hg (Kd.R_ne HO692.out BK687.out (by decide)))
         replace HO695 := am (Kd.R_after (ok := (fun _ => True)) (by (with_reducible repeat (first | apply Kd.R_alloc | apply Kd.R_drewN | apply Kd.R_drew)); exact Kd.R_mono HO695.out (fun _ hk => ⟨trivial, by first | exact hk | exact (by intro a n m c x h; cases a <;> exact h : ∀ (a : Option Addr) (n m c x : Nat), some x ≠ (Value.slice a n c).ownBlock → some x ≠ (Value.slice a m c).ownBlock) _ _ _ _ _ hk⟩)) hg hat)
         replace BK706 := am (blk_grown (g := gb706) (o := .cells #[.slice none 0 0] 26 (0, 0)) (bo BK706.out) hg (Kd.R_ne HO692.out BK706.out (by decide)))
         replace HB := am (hb)
         have HO698 := am (ho)
         clear HO692 ho hb hg hat
         refine hK.out _ _ ⟨bc BK685 0 _, bc BK686 0 _⟩ (fun hHeld => ?_)
         clear hK K
         refine nm (some 22) ?_
         exact norm_ (by first | (simp only [putAll, Act.put, List.setIfInBounds_toArray, List.set_cons_zero, List.set_cons_succ]; done) | (simp only [putAll, Act.put, List.setIfInBounds_toArray, List.set_cons_zero, List.set_cons_succ]; rfl)) (hJ1_3_4_10 (v691, .slice Ao36 t693.length co36, v697, gb706) _ ⟨hHeld, (by (with_reducible repeat (first | apply Kd.R_alloc | apply Kd.R_drewN | apply Kd.R_drew)); exact Kd.R_mono HO695.out (fun _ hk => hk.2)), (ro HO698.out), (bo BK685.out), (bo BK686.out), (bo BK687.out), (bo BK706.out), GW706.out, GE706.out, NB685_706.out, NB706_685.out, NB686_706.out, NB706_686.out, NB687_706.out, NB706_687.out, bw⟩)
        skip
        rintro ⟨v691, v694, v697⟩ w35 ⟨hS_, h0_, h1_, h2_, h3_, h4_, h5_⟩
        have n0_ : Aside0 (Kd.R (Kd.int .i64) 3 w35 w.heap.size (fun k_ => some k_ ≠ (v697 : Value).ownBlock) v694 t693) := ⟨h0_⟩
        have n1_ : Aside0 (Kd.R (Kd.int .i64) 3 w35 w.heap.size (fun k_ => some k_ ≠ (v694 : Value).ownBlock) v697 y696) := ⟨h1_⟩
        have n2_ : Aside0 (w35.heap[gb685]? = some (.cells #[.slice A0_0 l0_0.length c0_0] 26 (0, 0))) := ⟨h2_⟩
        have n3_ : Aside0 (w35.heap[gb686]? = some (.cells #[.slice A1_0 l1_0.length c1_0] 26 (0, 0))) := ⟨h3_⟩
        have n4_ : Aside0 (w35.heap[gb687]? = some (.cells #[.slice none 0 0] 26 (0, 0))) := ⟨h4_⟩
        have n5_ : Aside0 (Below w.heap.size w w35) := ⟨h5_⟩
        clear BK685
        clear BK686
        clear BK687
        clear HB
        clear h0_ h1_ h2_ h3_ h4_ h5_
        have HO695 := n0_
        have HO698 := n1_
        have BK685 := n2_
        have BK686 := n3_
        have BK687 := n4_
        have HB := n5_
        clear n0_ n1_ n2_ n3_ n4_ n5_
        have hHeld : w35.cell? ⟨gb685, 0, none⟩ = some (.slice A0_0 l0_0.length c0_0) ∧ w35.cell? ⟨gb686, 0, none⟩ = some (.slice A1_0 l1_0.length c1_0) := hS_
        obtain ⟨Ao36, co36, eo36⟩ := Kd.R_slice HO698.out
        (first | subst eo36 | (injection eo36 with f1_ f2_ f3_; have f4_ := f1_.symm; have f5_ := f3_.symm; clear f1_ f2_ f3_; subst f4_; subst f5_))
        refine norm_ (a' := ?_) ?_ ?_
        rotate_left
        ·simp only [putAll, Act.put, List.setIfInBounds_toArray, List.set_cons_zero, List.set_cons_succ]
         rfl
        refine two_ (i := 5) (j := 10) (Ni := some 23) (Nj := some 6) (yz 13 63) (yz 13 1055) rfl rfl rfl rfl (two_of HT_.out (by kernel_rfl)) (by decide) (by decide) (fun K hK => ?_) (fun K hK => ?_)
        ·skip
         refine gm Try.func93 #[.slice Ao36 y696.length co36] ?_
         with_reducible refine (spec_SortList.calls kj2 _ _ y696 t699 _ ?side1 ?side2 A28.out).mono ?_
         (case side1 => exact co (Kd.R_reads' HO698.out).2.2)
         (case side2 => exact (Kd.R_reads' HO698.out).2.1)
         rintro e w37 ⟨v700, rfl, ho0, hb⟩
         refine ⟨_, rfl, ?_⟩
         have HO701 := am (Kd.R_lower (Kd.R_new' (Kd.R_new' ho0 (Kd.R_lt (ro HO695.out))) (Kd.R_lt (ro HO698.out))) (below_size bw))
         replace HO695 := am (Kd.R_elder' (ro HO695.out) (Kd.R_base ho0) hb)
         replace HO698 := am (Kd.R_elder' (ro HO698.out) (Kd.R_base ho0) hb)
         replace BK685 := kb BK685 hb
         replace BK686 := kb BK686 hb
         replace BK687 := kb BK687 hb
         replace HB := am (below_step bw hb)
         clear hb ho0
         refine hK.out _ _ ⟨bc BK685 0 _, bc BK686 0 _⟩ (fun hHeld => ?_)
         clear hK K
         refine nm (some 23) ?_
         exact norm_ (by first | (simp only [putAll, Act.put, List.setIfInBounds_toArray, List.set_cons_zero, List.set_cons_succ]; done) | (simp only [putAll, Act.put, List.setIfInBounds_toArray, List.set_cons_zero, List.set_cons_succ]; rfl)) (hJ1_3_4_5 (v691, v694, .slice Ao36 y696.length co36, v700) _ ⟨hHeld, (ro HO695.out), (ro HO698.out), (by (with_reducible repeat (first | apply Kd.R_alloc | apply Kd.R_drewN | apply Kd.R_drew)); exact Kd.R_mono HO701.out (fun _ hk => by first | exact ⟨hk.1.2, hk.2⟩ | simp_all)), (bo BK685.out), (bo BK686.out), (bo BK687.out), bw⟩)
        skip
        refine box_step ?hg (N := 6) ?hd (cs := #[.slice none 0 0]) (t := 26) ?hr ?_; (case hd => rfl); (case hg => rfl); (case hr => first | (go_simp; done) | (go_simp; rfl))
        intro gb706 hg w36 hbox hb
        replace HO695 := rK HO695 hb
        replace HO698 := rK HO698 hb
        have BK706 := am (hbox)
        have GW706 := am (gs hg : w.heap.size ≤ gb706)
        have GE706 := am (gs hg : w.heap.size ≤ gb706)
        replace HB := am (below_step bw hb)
        have NB685_706 := nl hg BK685
        have NB706_685 := ng hg BK685
        replace BK685 := kb BK685 hb
        have NB686_706 := nl hg BK686
        have NB706_686 := ng hg BK686
        replace BK686 := kb BK686 hb
        have NB687_706 := nl hg BK687
        have NB706_687 := ng hg BK687
        replace BK687 := kb BK687 hb
        clear hb hbox hg
        refine hK.out _ _ ⟨bc BK685 0 _, bc BK686 0 _⟩ (fun hHeld => ?_)
        clear hK K
        refine nm (some 6) ?_
        exact norm_ (by first | (simp only [putAll, Act.put, List.setIfInBounds_toArray, List.set_cons_zero, List.set_cons_succ]; done) | (simp only [putAll, Act.put, List.setIfInBounds_toArray, List.set_cons_zero, List.set_cons_succ]; rfl)) (hJ1_3_4_10 (v691, v694, .slice Ao36 y696.length co36, gb706) _ ⟨hHeld, (ro HO695.out), (ro HO698.out), (bo BK685.out), (bo BK686.out), (bo BK687.out), (bo BK706.out), GW706.out, GE706.out, NB685_706.out, NB706_685.out, NB686_706.out, NB706_686.out, NB687_706.out, NB706_687.out, bw⟩)
       skip
       rintro ⟨v691, v694, v697, gb706⟩ w36 ⟨hS_, h0_, h1_, h2_, h3_, h4_, h5_, h6_, h7_, h8_, h9_, h10_, h11_, h12_, h13_, h14_⟩
       have n0_ : Aside0 (Kd.R (Kd.int .i64) 3 w36 w.heap.size (fun k_ => some k_ ≠ (v697 : Value).ownBlock) v694 t693) := ⟨h0_⟩
       have n1_ : Aside0 (Kd.R (Kd.int .i64) 3 w36 w.heap.size (fun k_ => some k_ ≠ (v694 : Value).ownBlock) v697 y696) := ⟨h1_⟩
       have n2_ : Aside0 (w36.heap[gb685]? = some (.cells #[.slice A0_0 l0_0.length c0_0] 26 (0, 0))) := ⟨h2_⟩
       have n3_ : Aside0 (w36.heap[gb686]? = some (.cells #[.slice A1_0 l1_0.length c1_0] 26 (0, 0))) := ⟨h3_⟩
       have n4_ : Aside0 (w36.heap[gb687]? = some (.cells #[.slice none 0 0] 26 (0, 0))) := ⟨h4_⟩
       have n5_ : Aside0 (w36.heap[gb706]? = some (.cells #[.slice none 0 0] 26 (0, 0))) := ⟨h5_⟩
       have n6_ : Aside0 (w.heap.size ≤ gb706) := ⟨h6_⟩
       have n7_ : Aside0 (w.heap.size ≤ gb706) := ⟨h7_⟩
       have n8_ : Aside0 (gb685 ≠ gb706) := ⟨h8_⟩
       have n9_ : Aside0 (gb706 ≠ gb685) := ⟨h9_⟩
       have n10_ : Aside0 (gb686 ≠ gb706) := ⟨h10_⟩
       have n11_ : Aside0 (gb706 ≠ gb686) := ⟨h11_⟩
       have n12_ : Aside0 (gb687 ≠ gb706) := ⟨h12_⟩
       have n13_ : Aside0 (gb706 ≠ gb687) := ⟨h13_⟩
       have n14_ : Aside0 (Below w.heap.size w w36) := ⟨h14_⟩
       clear BK685
       clear BK686
       clear BK687
       clear HB
       clear h0_ h1_ h2_ h3_ h4_ h5_ h6_ h7_ h8_ h9_ h10_ h11_ h12_ h13_ h14_
       have HO695 := n0_
       have HO698 := n1_
       have BK685 := n2_
       have BK686 := n3_
       have BK687 := n4_
       have BK706 := n5_
       have GW706 := n6_
       have GE706 := n7_
       have NB685_706 := n8_
       have NB706_685 := n9_
       have NB686_706 := n10_
       have NB706_686 := n11_
       have NB687_706 := n12_
       have NB706_687 := n13_
       have HB := n14_
       clear n0_ n1_ n2_ n3_ n4_ n5_ n6_ n7_ n8_ n9_ n10_ n11_ n12_ n13_ n14_
       have hHeld : w36.cell? ⟨gb685, 0, none⟩ = some (.slice A0_0 l0_0.length c0_0) ∧ w36.cell? ⟨gb686, 0, none⟩ = some (.slice A1_0 l1_0.length c1_0) := hS_
       obtain ⟨Ao37, co37, eo37⟩ := Kd.R_slice HO698.out
       (first | subst eo37 | (injection eo37 with f1_ f2_ f3_; have f4_ := f1_.symm; have f5_ := f3_.symm; clear f1_ f2_ f3_; subst f4_; subst f5_))
       refine norm_ (a' := ?_) ?_ ?_
       rotate_left
       ·simp only [putAll, Act.put, List.setIfInBounds_toArray, List.set_cons_zero, List.set_cons_succ]
        rfl
       refine oa 5 (some 23) (yz 13 1087) HT_ (fun K hK => ?_)
       refine gm Try.func93 #[.slice Ao37 y696.length co37] ?_
       with_reducible refine (spec_SortList.calls kj2 _ _ y696 t699 _ ?side1 ?side2 A28.out).mono ?_
       (case side1 => exact co (Kd.R_reads' HO698.out).2.2)
       (case side2 => exact (Kd.R_reads' HO698.out).2.1)
       rintro e w38 ⟨v700, rfl, ho0, hb⟩
       refine ⟨_, rfl, ?_⟩
       have HO701 := am (Kd.R_lower (Kd.R_new' (Kd.R_new' ho0 (Kd.R_lt (ro HO695.out))) (Kd.R_lt (ro HO698.out))) (below_size bw))
       replace HO695 := am (Kd.R_elder' (ro HO695.out) (Kd.R_base ho0) hb)
       replace HO698 := am (Kd.R_elder' (ro HO698.out) (Kd.R_base ho0) hb)
       replace BK685 := kb BK685 hb
       replace BK686 := kb BK686 hb
       replace BK687 := kb BK687 hb
       replace BK706 := kb BK706 hb
       replace HB := am (below_step bw hb)
       clear hb ho0
       refine hK.out _ _ ⟨bc BK685 0 _, bc BK686 0 _⟩ (fun hHeld => ?_)
       clear hK K
       refine nm (some 23) ?_
       exact norm_ (by first | (simp only [putAll, Act.put, List.setIfInBounds_toArray, List.set_cons_zero, List.set_cons_succ]; done) | (simp only [putAll, Act.put, List.setIfInBounds_toArray, List.set_cons_zero, List.set_cons_succ]; rfl)) (hJ1_3_4_5_10 (v691, v694, .slice Ao37 y696.length co37, v700, gb706) _ ⟨hHeld, (ro HO695.out), (ro HO698.out), (by (with_reducible repeat (first | apply Kd.R_alloc | apply Kd.R_drewN | apply Kd.R_drew)); exact Kd.R_mono HO701.out (fun _ hk => by first | exact ⟨hk.1.2, hk.2⟩ | simp_all)), (bo BK685.out), (bo BK686.out), (bo BK687.out), (bo BK706.out), GW706.out, GE706.out, NB685_706.out, NB706_685.out, NB686_706.out, NB706_686.out, NB687_706.out, NB706_687.out, bw⟩)
      skip
      rintro ⟨v691, v694, v697, v700⟩ w37 ⟨hS_, h0_, h1_, h2_, h3_, h4_, h5_, h6_⟩
      have n0_ : Aside0 (Kd.R (Kd.int .i64) 3 w37 w.heap.size (fun k_ => some k_ ≠ (v697 : Value).ownBlock ∧ some k_ ≠ (v700 : Value).ownBlock) v694 t693) := ⟨h0_⟩
      have n1_ : Aside0 (Kd.R (Kd.int .i64) 3 w37 w.heap.size (fun k_ => some k_ ≠ (v694 : Value).ownBlock ∧ some k_ ≠ (v700 : Value).ownBlock) v697 y696) := ⟨h1_⟩
      have n2_ : Aside0 (Kd.R (Kd.int .i64) 3 w37 w.heap.size (fun k_ => some k_ ≠ (v694 : Value).ownBlock ∧ some k_ ≠ (v697 : Value).ownBlock) v700 t699) := ⟨h2_⟩
      have n3_ : Aside0 (w37.heap[gb685]? = some (.cells #[.slice A0_0 l0_0.length c0_0] 26 (0, 0))) := ⟨h3_⟩
      have n4_ : Aside0 (w37.heap[gb686]? = some (.cells #[.slice A1_0 l1_0.length c1_0] 26 (0, 0))) := ⟨h4_⟩
      have n5_ : Aside0 (w37.heap[gb687]? = some (.cells #[.slice none 0 0] 26 (0, 0))) := ⟨h5_⟩
      have n6_ : Aside0 (Below w.heap.size w w37) := ⟨h6_⟩
      clear BK685
      clear BK686
      clear BK687
      clear HB
      clear h0_ h1_ h2_ h3_ h4_ h5_ h6_
      have HO695 := n0_
      have HO698 := n1_
      have HO701 := n2_
      have BK685 := n3_
      have BK686 := n4_
      have BK687 := n5_
      have HB := n6_
      clear n0_ n1_ n2_ n3_ n4_ n5_ n6_
      have hHeld : w37.cell? ⟨gb685, 0, none⟩ = some (.slice A0_0 l0_0.length c0_0) ∧ w37.cell? ⟨gb686, 0, none⟩ = some (.slice A1_0 l1_0.length c1_0) := hS_
      obtain ⟨Ao38, co38, eo38⟩ := Kd.R_slice HO701.out
      (first | subst eo38 | (injection eo38 with f1_ f2_ f3_; have f4_ := f1_.symm; have f5_ := f3_.symm; clear f1_ f2_ f3_; subst f4_; subst f5_))
      refine norm_ (a' := ?_) ?_ ?_
      rotate_left
      ·simp only [putAll, Act.put, List.setIfInBounds_toArray, List.set_cons_zero, List.set_cons_succ]
       rfl
      refine two_ (i := 6) (j := 10) (Ni := some 24) (Nj := some 6) (yz 13 127) (yz 13 1087) rfl rfl rfl rfl (two_of HT_.out (by kernel_rfl)) (by decide) (by decide) (fun K hK => ?_) (fun K hK => ?_)
      ·skip
       refine gm Try.func155 #[.slice Ao38 t699.length co38] ?_
       with_reducible refine (spec_FromGaps.calls kj2 _ _ t699 t702 t705 _ ?side1 ?side2 A29.out).mono ?_
       (case side1 => exact co (Kd.R_reads' HO701.out).2.2)
       (case side2 => exact (Kd.R_reads' HO701.out).2.1)
       rintro e w39 ⟨v703, rfl, ho0, hb⟩
       refine ⟨_, rfl, ?_⟩
       have HO704 := am (Kd.R_lower (Kd.R_new' (Kd.R_new' (Kd.R_new' ho0 (Kd.R_lt (ro HO695.out))) (Kd.R_lt (ro HO698.out))) (Kd.R_lt (ro HO701.out))) (below_size bw))
       replace HO695 := am (Kd.R_elder' (ro HO695.out) (Kd.R_base ho0) hb)
       replace HO698 := am (Kd.R_elder' (ro HO698.out) (Kd.R_base ho0) hb)
       replace HO701 := am (Kd.R_elder' (ro HO701.out) (Kd.R_base ho0) hb)
       replace BK685 := kb BK685 hb
       replace BK686 := kb BK686 hb
       replace BK687 := kb BK687 hb
       replace HB := am (below_step bw hb)
       clear hb ho0
       refine hK.out _ _ ⟨bc BK685 0 _, bc BK686 0 _⟩ (fun hHeld => ?_)
       clear hK K
       refine nm (some 24) ?_
       refine pa 7 (some 17) (yz 13 255) HT_ ?_
       refine pa 8 (some 25) (yz 13 511) HT_ ?_
       refine pa 9 (some 26) (yz 13 1023) HT_ ?_
       exact norm_ (by first | (simp only [putAll, Act.put, List.setIfInBounds_toArray, List.set_cons_zero, List.set_cons_succ]; done) | (simp only [putAll, Act.put, List.setIfInBounds_toArray, List.set_cons_zero, List.set_cons_succ]; rfl)) (hJ1_3_4_5_6 (v691, v694, v697, .slice Ao38 t699.length co38, v703) _ ⟨hHeld, (by (with_reducible repeat (first | apply Kd.R_alloc | apply Kd.R_drewN | apply Kd.R_drew)); exact Kd.R_mono HO695.out (fun _ hk => ⟨hk.1.1, ⟨hk.1.2, hk.2⟩⟩)), (by (with_reducible repeat (first | apply Kd.R_alloc | apply Kd.R_drewN | apply Kd.R_drew)); exact Kd.R_mono HO698.out (fun _ hk => ⟨hk.1.1, ⟨hk.1.2, hk.2⟩⟩)), (by (with_reducible repeat (first | apply Kd.R_alloc | apply Kd.R_drewN | apply Kd.R_drew)); exact Kd.R_mono HO701.out (fun _ hk => ⟨hk.1.1, ⟨hk.1.2, hk.2⟩⟩)), (by (with_reducible repeat (first | apply Kd.R_alloc | apply Kd.R_drewN | apply Kd.R_drew)); exact Kd.R_mono HO704.out (fun _ hk => ⟨hk.1.1.2, ⟨hk.1.2, hk.2⟩⟩)), (bo BK685.out), (bo BK686.out), (bo BK687.out), bw⟩)
      skip
      refine box_step ?hg (N := 6) ?hd (cs := #[.slice none 0 0]) (t := 26) ?hr ?_; (case hd => rfl); (case hg => rfl); (case hr => first | (go_simp; done) | (go_simp; rfl))
      intro gb706 hg w38 hbox hb
      replace HO695 := rK HO695 hb
      replace HO698 := rK HO698 hb
      replace HO701 := rK HO701 hb
      have BK706 := am (hbox)
      have GW706 := am (gs hg : w.heap.size ≤ gb706)
      have GE706 := am (gs hg : w.heap.size ≤ gb706)
      replace HB := am (below_step bw hb)
      have NB685_706 := nl hg BK685
      have NB706_685 := ng hg BK685
      replace BK685 := kb BK685 hb
      have NB686_706 := nl hg BK686
      have NB706_686 := ng hg BK686
      replace BK686 := kb BK686 hb
      have NB687_706 := nl hg BK687
      have NB706_687 := ng hg BK687
      replace BK687 := kb BK687 hb
      clear hb hbox hg
      refine hK.out _ _ ⟨bc BK685 0 _, bc BK686 0 _⟩ (fun hHeld => ?_)
      clear hK K
      refine nm (some 6) ?_
      exact norm_ (by first | (simp only [putAll, Act.put, List.setIfInBounds_toArray, List.set_cons_zero, List.set_cons_succ]; done) | (simp only [putAll, Act.put, List.setIfInBounds_toArray, List.set_cons_zero, List.set_cons_succ]; rfl)) (hJ1_3_4_5_10 (v691, v694, v697, .slice Ao38 t699.length co38, gb706) _ ⟨hHeld, (ro HO695.out), (ro HO698.out), (ro HO701.out), (bo BK685.out), (bo BK686.out), (bo BK687.out), (bo BK706.out), GW706.out, GE706.out, NB685_706.out, NB706_685.out, NB686_706.out, NB706_686.out, NB687_706.out, NB706_687.out, bw⟩)
     skip
     rintro ⟨v691, v694, v697, v700, gb706⟩ w38 ⟨hS_, h0_, h1_, h2_, h3_, h4_, h5_, h6_, h7_, h8_, h9_, h10_, h11_, h12_, h13_, h14_, h15_⟩
     have n0_ : Aside0 (Kd.R (Kd.int .i64) 3 w38 w.heap.size (fun k_ => some k_ ≠ (v697 : Value).ownBlock ∧ some k_ ≠ (v700 : Value).ownBlock) v694 t693) := ⟨h0_⟩
     have n1_ : Aside0 (Kd.R (Kd.int .i64) 3 w38 w.heap.size (fun k_ => some k_ ≠ (v694 : Value).ownBlock ∧ some k_ ≠ (v700 : Value).ownBlock) v697 y696) := ⟨h1_⟩
     have n2_ : Aside0 (Kd.R (Kd.int .i64) 3 w38 w.heap.size (fun k_ => some k_ ≠ (v694 : Value).ownBlock ∧ some k_ ≠ (v697 : Value).ownBlock) v700 t699) := ⟨h2_⟩
     have n3_ : Aside0 (w38.heap[gb685]? = some (.cells #[.slice A0_0 l0_0.length c0_0] 26 (0, 0))) := ⟨h3_⟩
     have n4_ : Aside0 (w38.heap[gb686]? = some (.cells #[.slice A1_0 l1_0.length c1_0] 26 (0, 0))) := ⟨h4_⟩
     have n5_ : Aside0 (w38.heap[gb687]? = some (.cells #[.slice none 0 0] 26 (0, 0))) := ⟨h5_⟩
     have n6_ : Aside0 (w38.heap[gb706]? = some (.cells #[.slice none 0 0] 26 (0, 0))) := ⟨h6_⟩
     have n7_ : Aside0 (w.heap.size ≤ gb706) := ⟨h7_⟩
     have n8_ : Aside0 (w.heap.size ≤ gb706) := ⟨h8_⟩
     have n9_ : Aside0 (gb685 ≠ gb706) := ⟨h9_⟩
     have n10_ : Aside0 (gb706 ≠ gb685) := ⟨h10_⟩
     have n11_ : Aside0 (gb686 ≠ gb706) := ⟨h11_⟩
     have n12_ : Aside0 (gb706 ≠ gb686) := ⟨h12_⟩
     have n13_ : Aside0 (gb687 ≠ gb706) := ⟨h13_⟩
     have n14_ : Aside0 (gb706 ≠ gb687) := ⟨h14_⟩
     have n15_ : Aside0 (Below w.heap.size w w38) := ⟨h15_⟩
     clear BK685
     clear BK686
     clear BK687
     clear HB
     clear h0_ h1_ h2_ h3_ h4_ h5_ h6_ h7_ h8_ h9_ h10_ h11_ h12_ h13_ h14_ h15_
     have HO695 := n0_
     have HO698 := n1_
     have HO701 := n2_
     have BK685 := n3_
     have BK686 := n4_
     have BK687 := n5_
     have BK706 := n6_
     have GW706 := n7_
     have GE706 := n8_
     have NB685_706 := n9_
     have NB706_685 := n10_
     have NB686_706 := n11_
     have NB706_686 := n12_
     have NB687_706 := n13_
     have NB706_687 := n14_
     have HB := n15_
     clear n0_ n1_ n2_ n3_ n4_ n5_ n6_ n7_ n8_ n9_ n10_ n11_ n12_ n13_ n14_ n15_
     have hHeld : w38.cell? ⟨gb685, 0, none⟩ = some (.slice A0_0 l0_0.length c0_0) ∧ w38.cell? ⟨gb686, 0, none⟩ = some (.slice A1_0 l1_0.length c1_0) := hS_
     obtain ⟨Ao39, co39, eo39⟩ := Kd.R_slice HO701.out
     (first | subst eo39 | (injection eo39 with f1_ f2_ f3_; have f4_ := f1_.symm; have f5_ := f3_.symm; clear f1_ f2_ f3_; subst f4_; subst f5_))
     refine norm_ (a' := ?_) ?_ ?_
     rotate_left
     ·simp only [putAll, Act.put, List.setIfInBounds_toArray, List.set_cons_zero, List.set_cons_succ]
      rfl
     refine oa 6 (some 24) (yz 13 1151) HT_ (fun K hK => ?_)
     refine gm Try.func155 #[.slice Ao39 t699.length co39] ?_
     with_reducible refine (spec_FromGaps.calls kj2 _ _ t699 t702 t705 _ ?side1 ?side2 A29.out).mono ?_
     (case side1 => exact co (Kd.R_reads' HO701.out).2.2)
     (case side2 => exact (Kd.R_reads' HO701.out).2.1)
     rintro e w40 ⟨v703, rfl, ho0, hb⟩
     refine ⟨_, rfl, ?_⟩
     have HO704 := am (Kd.R_lower (Kd.R_new' (Kd.R_new' (Kd.R_new' ho0 (Kd.R_lt (ro HO695.out))) (Kd.R_lt (ro HO698.out))) (Kd.R_lt (ro HO701.out))) (below_size bw))
     replace HO695 := am (Kd.R_elder' (ro HO695.out) (Kd.R_base ho0) hb)
     replace HO698 := am (Kd.R_elder' (ro HO698.out) (Kd.R_base ho0) hb)
     replace HO701 := am (Kd.R_elder' (ro HO701.out) (Kd.R_base ho0) hb)
     replace BK685 := kb BK685 hb
     replace BK686 := kb BK686 hb
     replace BK687 := kb BK687 hb
     replace BK706 := kb BK706 hb
     replace HB := am (below_step bw hb)
     clear hb ho0
     refine hK.out _ _ ⟨bc BK685 0 _, bc BK686 0 _⟩ (fun hHeld => ?_)
     clear hK K
     refine nm (some 24) ?_
     refine pa 7 (some 17) (yz 13 1279) HT_ ?_
     refine pa 8 (some 25) (yz 13 1535) HT_ ?_
     refine pa 9 (some 26) (yz 13 2047) HT_ ?_
     exact norm_ (by first | (simp only [putAll, Act.put, List.setIfInBounds_toArray, List.set_cons_zero, List.set_cons_succ]; done) | (simp only [putAll, Act.put, List.setIfInBounds_toArray, List.set_cons_zero, List.set_cons_succ]; rfl)) (hJ1_3_4_5_6_10 (v691, v694, v697, .slice Ao39 t699.length co39, v703, gb706) _ ⟨hHeld, (by (with_reducible repeat (first | apply Kd.R_alloc | apply Kd.R_drewN | apply Kd.R_drew)); exact Kd.R_mono HO695.out (fun _ hk => ⟨hk.1.1, ⟨hk.1.2, hk.2⟩⟩)), (by (with_reducible repeat (first | apply Kd.R_alloc | apply Kd.R_drewN | apply Kd.R_drew)); exact Kd.R_mono HO698.out (fun _ hk => ⟨hk.1.1, ⟨hk.1.2, hk.2⟩⟩)), (by (with_reducible repeat (first | apply Kd.R_alloc | apply Kd.R_drewN | apply Kd.R_drew)); exact Kd.R_mono HO701.out (fun _ hk => ⟨hk.1.1, ⟨hk.1.2, hk.2⟩⟩)), (by (with_reducible repeat (first | apply Kd.R_alloc | apply Kd.R_drewN | apply Kd.R_drew)); exact Kd.R_mono HO704.out (fun _ hk => ⟨hk.1.1.2, ⟨hk.1.2, hk.2⟩⟩)), (bo BK685.out), (bo BK686.out), (bo BK687.out), (bo BK706.out), GW706.out, GE706.out, NB685_706.out, NB706_685.out, NB686_706.out, NB706_686.out, NB687_706.out, NB706_687.out, bw⟩)
    skip
    rintro ⟨v691, v694, v697, v700, v703⟩ w39 ⟨hS_, h0_, h1_, h2_, h3_, h4_, h5_, h6_, h7_⟩
    have n0_ : Aside0 (Kd.R (Kd.int .i64) 3 w39 w.heap.size (fun k_ => some k_ ≠ (v697 : Value).ownBlock ∧ some k_ ≠ (v700 : Value).ownBlock ∧ some k_ ≠ (v703 : Value).ownBlock) v694 t693) := ⟨h0_⟩
    have n1_ : Aside0 (Kd.R (Kd.int .i64) 3 w39 w.heap.size (fun k_ => some k_ ≠ (v694 : Value).ownBlock ∧ some k_ ≠ (v700 : Value).ownBlock ∧ some k_ ≠ (v703 : Value).ownBlock) v697 y696) := ⟨h1_⟩
    have n2_ : Aside0 (Kd.R (Kd.int .i64) 3 w39 w.heap.size (fun k_ => some k_ ≠ (v694 : Value).ownBlock ∧ some k_ ≠ (v697 : Value).ownBlock ∧ some k_ ≠ (v703 : Value).ownBlock) v700 t699) := ⟨h2_⟩
    have n3_ : Aside0 (Kd.R (Kd.int .i64) 3 w39 w.heap.size (fun k_ => some k_ ≠ (v694 : Value).ownBlock ∧ some k_ ≠ (v697 : Value).ownBlock ∧ some k_ ≠ (v700 : Value).ownBlock) v703 t702) := ⟨h3_⟩
    have n4_ : Aside0 (w39.heap[gb685]? = some (.cells #[.slice A0_0 l0_0.length c0_0] 26 (0, 0))) := ⟨h4_⟩
    have n5_ : Aside0 (w39.heap[gb686]? = some (.cells #[.slice A1_0 l1_0.length c1_0] 26 (0, 0))) := ⟨h5_⟩
    have n6_ : Aside0 (w39.heap[gb687]? = some (.cells #[.slice none 0 0] 26 (0, 0))) := ⟨h6_⟩
    have n7_ : Aside0 (Below w.heap.size w w39) := ⟨h7_⟩
    clear BK685
    clear BK686
    clear BK687
    clear HB
    clear h0_ h1_ h2_ h3_ h4_ h5_ h6_ h7_
    have HO695 := n0_
    have HO698 := n1_
    have HO701 := n2_
    have HO704 := n3_
    have BK685 := n4_
    have BK686 := n5_
    have BK687 := n6_
    have HB := n7_
    clear n0_ n1_ n2_ n3_ n4_ n5_ n6_ n7_
    have hHeld : w39.cell? ⟨gb685, 0, none⟩ = some (.slice A0_0 l0_0.length c0_0) ∧ w39.cell? ⟨gb686, 0, none⟩ = some (.slice A1_0 l1_0.length c1_0) := hS_
    refine norm_ (a' := ?_) ?_ ?_
    rotate_left
    ·simp only [putAll, Act.put, List.setIfInBounds_toArray, List.set_cons_zero, List.set_cons_succ]
     rfl
    refine oa 10 (some 6) (yz 13 2047) HT_ (fun K hK => ?_)
    refine box_step ?hg (N := 6) ?hd (cs := #[.slice none 0 0]) (t := 26) ?hr ?_; (case hd => rfl); (case hg => rfl); (case hr => first | (go_simp; done) | (go_simp; rfl))
    intro gb706 hg w40 hbox hb
    replace HO695 := rK HO695 hb
    replace HO698 := rK HO698 hb
    replace HO701 := rK HO701 hb
    replace HO704 := rK HO704 hb
    have BK706 := am (hbox)
    have GW706 := am (gs hg : w.heap.size ≤ gb706)
    have GE706 := am (gs hg : w.heap.size ≤ gb706)
    replace HB := am (below_step bw hb)
    have NB685_706 := nl hg BK685
    have NB706_685 := ng hg BK685
    replace BK685 := kb BK685 hb
    have NB686_706 := nl hg BK686
    have NB706_686 := ng hg BK686
    replace BK686 := kb BK686 hb
    have NB687_706 := nl hg BK687
    have NB706_687 := ng hg BK687
    replace BK687 := kb BK687 hb
    clear hb hbox hg
    refine hK.out _ _ ⟨bc BK685 0 _, bc BK686 0 _⟩ (fun hHeld => ?_)
    clear hK K
    refine nm (some 6) ?_
    exact norm_ (by first | (simp only [putAll, Act.put, List.setIfInBounds_toArray, List.set_cons_zero, List.set_cons_succ]; done) | (simp only [putAll, Act.put, List.setIfInBounds_toArray, List.set_cons_zero, List.set_cons_succ]; rfl)) (hJ1_3_4_5_6_10 (v691, v694, v697, v700, v703, gb706) _ ⟨hHeld, (ro HO695.out), (ro HO698.out), (ro HO701.out), (ro HO704.out), (bo BK685.out), (bo BK686.out), (bo BK687.out), (bo BK706.out), GW706.out, GE706.out, NB685_706.out, NB706_685.out, NB686_706.out, NB706_686.out, NB687_706.out, NB706_687.out, bw⟩)
   rintro ⟨v691, v694, v697, v700, v703, gb706⟩ w40 ⟨hS_, h0_, h1_, h2_, h3_, h4_, h5_, h6_, h7_, h8_, h9_, h10_, h11_, h12_, h13_, h14_, h15_, h16_⟩
   have n0_ : Aside0 (Kd.R (Kd.int .i64) 3 w40 w.heap.size (fun k_ => some k_ ≠ (v697 : Value).ownBlock ∧ some k_ ≠ (v700 : Value).ownBlock ∧ some k_ ≠ (v703 : Value).ownBlock) v694 t693) := ⟨h0_⟩
   have n1_ : Aside0 (Kd.R (Kd.int .i64) 3 w40 w.heap.size (fun k_ => some k_ ≠ (v694 : Value).ownBlock ∧ some k_ ≠ (v700 : Value).ownBlock ∧ some k_ ≠ (v703 : Value).ownBlock) v697 y696) := ⟨h1_⟩
   have n2_ : Aside0 (Kd.R (Kd.int .i64) 3 w40 w.heap.size (fun k_ => some k_ ≠ (v694 : Value).ownBlock ∧ some k_ ≠ (v697 : Value).ownBlock ∧ some k_ ≠ (v703 : Value).ownBlock) v700 t699) := ⟨h2_⟩
   have n3_ : Aside0 (Kd.R (Kd.int .i64) 3 w40 w.heap.size (fun k_ => some k_ ≠ (v694 : Value).ownBlock ∧ some k_ ≠ (v697 : Value).ownBlock ∧ some k_ ≠ (v700 : Value).ownBlock) v703 t702) := ⟨h3_⟩
   have n4_ : Aside0 (w40.heap[gb685]? = some (.cells #[.slice A0_0 l0_0.length c0_0] 26 (0, 0))) := ⟨h4_⟩
   have n5_ : Aside0 (w40.heap[gb686]? = some (.cells #[.slice A1_0 l1_0.length c1_0] 26 (0, 0))) := ⟨h5_⟩
   have n6_ : Aside0 (w40.heap[gb687]? = some (.cells #[.slice none 0 0] 26 (0, 0))) := ⟨h6_⟩
   have n7_ : Aside0 (w40.heap[gb706]? = some (.cells #[.slice none 0 0] 26 (0, 0))) := ⟨h7_⟩
   have n8_ : Aside0 (w.heap.size ≤ gb706) := ⟨h8_⟩
   have n9_ : Aside0 (w.heap.size ≤ gb706) := ⟨h9_⟩
   have n10_ : Aside0 (gb685 ≠ gb706) := ⟨h10_⟩
   have n11_ : Aside0 (gb706 ≠ gb685) := ⟨h11_⟩
   have n12_ : Aside0 (gb686 ≠ gb706) := ⟨h12_⟩
   have n13_ : Aside0 (gb706 ≠ gb686) := ⟨h13_⟩
   have n14_ : Aside0 (gb687 ≠ gb706) := ⟨h14_⟩
   have n15_ : Aside0 (gb706 ≠ gb687) := ⟨h15_⟩
   have n16_ : Aside0 (Below w.heap.size w w40) := ⟨h16_⟩
   clear BK685
   clear BK686
   clear BK687
   clear HB
   clear h0_ h1_ h2_ h3_ h4_ h5_ h6_ h7_ h8_ h9_ h10_ h11_ h12_ h13_ h14_ h15_ h16_
   have HO695 := n0_
   have HO698 := n1_
   have HO701 := n2_
   have HO704 := n3_
   have BK685 := n4_
   have BK686 := n5_
   have BK687 := n6_
   have BK706 := n7_
   have GW706 := n8_
   have GE706 := n9_
   have NB685_706 := n10_
   have NB706_685 := n11_
   have NB686_706 := n12_
   have NB706_686 := n13_
   have NB687_706 := n14_
   have NB706_687 := n15_
   have HB := n16_
   clear n0_ n1_ n2_ n3_ n4_ n5_ n6_ n7_ n8_ n9_ n10_ n11_ n12_ n13_ n14_ n15_ n16_
   have hHeld : w40.cell? ⟨gb685, 0, none⟩ = some (.slice A0_0 l0_0.length c0_0) ∧ w40.cell? ⟨gb686, 0, none⟩ = some (.slice A1_0 l1_0.length c1_0) := hS_
   obtain ⟨Ao41, co41, eo41⟩ := Kd.R_slice HO704.out
   (first | subst eo41 | (injection eo41 with f1_ f2_ f3_; have f4_ := f1_.symm; have f5_ := f3_.symm; clear f1_ f2_ f3_; subst f4_; subst f5_))
   refine norm_ (a' := ?_) ?_ ?_
   rotate_left
   ·simp only [putAll, Act.put, List.setIfInBounds_toArray, List.set_cons_zero, List.set_cons_succ]
    rfl
   refine oa 11 none (yz 13 4095) HT_ (fun K hK => ?_)
   have hs42 := bc BK706 0 (.slice none 0 0)
   have hfs42 := blk_frozen BK706.out 0
   have hns42_0 := NB685_706.out
   have hns42_1 := NB686_706.out
   have hns42_2 := NB687_706.out
   have hms42_0 := NB706_685.out
   have hms42_1 := NB706_686.out
   have hms42_2 := NB706_687.out
   refine skip_ (w1 := ?_) (by rfl) rfl ?_ ?_
   rotate_left
   ·go_simp
    rfl
   refine hK.out _ _ ⟨((cell_far (p := ⟨gb706, _, none⟩) NB685_706.out _).trans (hHeld.1)), ((cell_far (p := ⟨gb706, _, none⟩) NB686_706.out _).trans (hHeld.2))⟩ (fun hHeld => ?_)
   clear hK K
   refine pa 12 (some 7) (yz 13 8191) HT_ ?_
   refine done_ (done_of HT_.out (by kernel_rfl)) ?_
   have hnb43 := NB706_685.out
   have hnc43 := NB685_706.out
   have hnb44 := NB706_686.out
   have hnc44 := NB686_706.out
   have hnb45 := NB706_687.out
   have hnc45 := NB687_706.out
   have hcz46_0 := bc BK706 0 (.slice none 0 0)
   have hfz46_0 := blk_frozen BK706.out 0
   have hnb47 := NB687_685.out
   have hnc47 := NB685_687.out
   have hnb48 := NB687_686.out
   have hnc48 := NB686_687.out
   have hcz49_0 := bc BK687 0 (.slice none 0 0)
   have hfz49_0 := blk_frozen BK687.out 0
   try go_wp2
   refine bodyPost_ret (results_ct rfl _ _ gb687 26 #[.slice Ao41 t702.length co41] (0, 0) _ rfl (by (with_reducible repeat (first | refine blk_drewN ?_ _ | refine blk_drew ?_ | refine blk_alloc ?_ _)); refine blk_put (cs := #[.slice none 0 0]) ?_ 0 _ rfl; (with_reducible repeat (first | refine blk_drewN ?_ _ | refine blk_drew ?_ | refine blk_alloc ?_ _)); refine blk_far ?_ NB687_706.out _; (with_reducible repeat (first | refine blk_drewN ?_ _ | refine blk_drew ?_ | refine blk_alloc ?_ _)); exact BK687.out) Try.underlying26 rfl (by kernel_rfl)) rfl ?_
   exact ⟨_, re, by (with_reducible repeat (first | apply Kd.R_alloc | apply Kd.R_drewN | apply Kd.R_drew)); exact Kd.R_mono (Kd.R_far (p := ⟨gb687, 0, none⟩) (Kd.R_far (p := ⟨gb706, 0, none⟩) (Kd.R_types (Kd.R_types HO704.out BK706.out (by decide)) BK687.out (by decide)) (fun _ hk => by first | exact hk.1.2 | simp_all) (.slice Ao41 t702.length co41)) (fun _ hk => hk.2) (.slice Ao41 t702.length co41)) (fun _ hk => trivial), bw⟩


/-! ### spec_DrawAddOf: function 111 -/
def spec_DrawAddOf.f (k : Nat) (l0 : List Int) : Option (List Int × List Int) := (spec_l1New.f k l0).bind fun bt709 => ((spec_l3Bent.f k bt709.1 bt709.2.1 bt709.2.2).bind fun bt713 => ((spec_l3Bent.f k bt709.1 bt713.2.1 bt713.2.2).bind fun bt719 => (some (bt713.1, bt719.1))))
set_option maxHeartbeats 8000000 in
set_option maxRecDepth 100000 in
theorem spec_DrawAddOf.calls (k : Nat) (A0 : Option Addr) (c0 : Nat) (l0 : List Int) (r1 : List Int) (r2 : List Int) (w : World) (hr0 : Kd.C (Kd.int .u8) w A0 l0.length l0) (hc0 : l0.length ≤ c0) (h : spec_DrawAddOf.f k l0 = some (r1, r2)) :
  Calls Try.prog 111 #[.slice A0 l0.length c0] w fun e w' => ∃ v0_ v1_ : Value, e = .returned (.tuple #[.agg #[v0_], .agg #[v1_]]) ∧ Kd.Q (Kd.int .i64) 3 w' w.heap.size (fun k_ => some k_ ≠ (v1_ : Value).ownBlock) v0_ r1 ∧ Kd.Q (Kd.int .i64) 3 w' w.heap.size (fun k_ => some k_ ≠ (v0_ : Value).ownBlock) v1_ r2 ∧ Below w.heap.size w w' := by
 have hu26 := Try.underlying26
 have HR0 := am hr0
 have HC0 := am hc0
 clear hr0 hc0
 have HB := am (Below.refl w.heap.size w)
 have H : ((spec_l1New.f k l0).bind fun bt709 => ((spec_l3Bent.f k bt709.1 bt709.2.1 bt709.2.2).bind fun bt713 => ((spec_l3Bent.f k bt709.1 bt713.2.1 bt713.2.2).bind fun bt719 => (some (bt713.1, bt719.1))))) = some (r1, r2) := h
 clear h
 replace H := ga H; obtain ⟨⟨t709, t710, t711⟩, A2, H⟩ := H
 replace H : ((spec_l3Bent.f k t709 t710 t711).bind fun bt713 => ((spec_l3Bent.f k t709 bt713.2.1 bt713.2.2).bind fun bt719 => (some (bt713.1, bt719.1)))) = some (r1, r2) := H
 replace H := ga H; obtain ⟨⟨t713, t716, t717⟩, A3, H⟩ := H
 replace H : ((spec_l3Bent.f k t709 t716 t717).bind fun bt719 => (some (t713, bt719.1))) = some (r1, r2) := H
 replace H := ga H; obtain ⟨⟨t719, t722, t723⟩, A4, H⟩ := H
 replace H : (some (t713, t719)) = some (r1, r2) := H
 simp only [Option.some.injEq, Prod.mk.injEq] at H
 obtain ⟨rfl, rfl⟩ := H
 go_enter Try.func111, Try.ntmps111
 try go_wp2_with (first | ((with_reducible refine gate_dst (N := 2) rfl ?_); refine bx 2 #[.slice none 0 0] 26 ?_; intro gb707 hg w5 hbox hb; have BK707 := am (hbox); have GW707 := am (gs hg : w.heap.size ≤ gb707); have GE707 := GW707; replace HB := am (below_step bw hb); clear hb hbox hg) | ((with_reducible refine gate_dst (N := 3) rfl ?_); refine bx 3 #[.slice none 0 0] 26 ?_; intro gb708 hg w6 hbox hb; have BK708 := am (hbox); have GW708 := am (gs hg : w.heap.size ≤ gb708); have GE708 := GW708; replace HB := am (below_step bw hb); have NB707_708 := nl hg BK707; have NB708_707 := ns NB707_708; replace BK707 := kb BK707 hb; clear hb hbox hg) | ((with_reducible refine gate_callee (f := 131) rfl ?_); refine gl (some 7) Try.func131 #[.slice A0 l0.length c0] ?_; (with_reducible refine (spec_l1New.calls k _ _ l0 t709 t710 t711 w _ ?side1 ?side2 ?side3 A2.out).mono ?_); (case side1 => exact bw); (case side2 => exact HR0.out); (case side3 => exact HC0.out); rintro e w7 ⟨g712, rfl, hi, hb, hb2⟩; refine ⟨_, rfl, ?_⟩; replace HB := am (hb); have HI712 := am (hi); have NB712_707 := am (IsS132.ne_blk hi (blk_below (g := gb707) (o := .cells #[.slice none 0 0] 26 (0, 0)) (bo BK707.out) hb2) (by decide)); have NB707_712 := ns NB712_707; replace BK707 := kb BK707 hb2; have NB712_708 := am (IsS132.ne_blk hi (blk_below (g := gb708) (o := .cells #[.slice none 0 0] 26 (0, 0)) (bo BK708.out) hb2) (by decide)); have NB708_712 := ns NB712_708; replace BK708 := kb BK708 hb2; clear hb hb2 hi) | ((with_reducible refine gate_callee (f := 130) rfl ?_); refine gl (some 9) Try.func130 #[.pointer (some ⟨g712, 0, none⟩)] ?_; (with_reducible refine (spec_l3Bent.calls k g712 t709 t710 t711 t713 t716 t717 w _ ?side1 ?side2 A3.out).mono ?_); (case side1 => exact iw HI712.out); (case side2 => exact bv); rintro e w8 ⟨v714, rfl, ho0, hi, hb, hk⟩; refine ⟨_, rfl, ?_⟩; replace BK707 := kk hk BK707 NB707_712; replace BK708 := kk hk BK708 NB708_712; have HO715 := am (Kd.Q_lower ho0 (below_size bv)); replace HB := am (hb); replace HI712 := am (hi); clear hb hk hi ho0) | ((with_reducible refine gate_dst (N := 5) rfl ?_); refine bx 5 #[.slice none 0 0] 26 ?_; intro gb718 hg w9 hbox hb; replace HO715 := qK HO715 hb; have BK718 := am (hbox); have GW718 := am ((by rw [hg]; exact (below_size bv) : w.heap.size ≤ gb718)); have GE718 := GW718; replace HB := am (below_step bv hb); have NB707_718 := nl hg BK707; have NB718_707 := ns NB707_718; replace BK707 := kb BK707 hb; have NB708_718 := nl hg BK708; have NB718_708 := ns NB708_718; replace BK708 := kb BK708 hb; have NB712_718 := am ((by rw [hg]; exact Nat.ne_of_lt (IsS132.lt (show IsS132 w _ g712 t709 t716 t717 from (iw HI712.out))) : g712 ≠ gb718)); have NB718_712 := ns NB712_718; replace HI712 := am (IsS132.below (iw HI712.out) hb); clear hb hbox hg; obtain ⟨Ao10, co10, eo10, _⟩ := Kd.Q_slice HO715.out; subst eo10; have hnb11 := NB718_707.out; have hnc11 := NB707_718.out; have hnb12 := NB718_708.out; have hnc12 := NB708_718.out; have hnb13 := NB718_712.out; have hnc13 := NB712_718.out; have hcz14_0 := bc BK718 0 (.slice none 0 0); have hfz14_0 := blk_frozen BK718.out 0))
 have n0_ : Aside0 (Kd.Q (Kd.int .i64) 3 (w9.setCell ⟨gb718, 0, none⟩ (.slice Ao10 t713.length co10)) w.heap.size (fun _ => True) (.slice Ao10 t713.length co10) t713) := ⟨by (with_reducible repeat (first | apply Kd.Q_alloc | apply Kd.Q_drewN | apply Kd.Q_drew)); exact Kd.Q_mono (Kd.Q_far (p := ⟨gb718, 0, none⟩) (Kd.Q_types HO715.out BK718.out (by decide)) (fun _ hk => hk.2) (.slice Ao10 t713.length co10)) (fun _ hk => trivial)⟩
 have n1_ : Aside0 ((w9.setCell ⟨gb718, 0, none⟩ (.slice Ao10 t713.length co10)).heap[gb707]? = some (.cells #[.slice none 0 0] 26 (0, 0))) := ⟨bf BK707.out⟩
 have n2_ : Aside0 ((w9.setCell ⟨gb718, 0, none⟩ (.slice Ao10 t713.length co10)).heap[gb708]? = some (.cells #[.slice none 0 0] 26 (0, 0))) := ⟨bf BK708.out⟩
 have n3_ : Aside0 ((w9.setCell ⟨gb718, 0, none⟩ (.slice Ao10 t713.length co10)).heap[gb718]? = some (.cells #[.slice Ao10 t713.length co10] 26 (0, 0))) := ⟨by (with_reducible repeat (first | refine blk_drewN ?_ _ | refine blk_drew ?_ | refine blk_alloc ?_ _)); refine blk_put (cs := #[.slice none 0 0]) ?_ 0 _ rfl; (with_reducible repeat (first | refine blk_drewN ?_ _ | refine blk_drew ?_ | refine blk_alloc ?_ _)); exact BK718.out⟩
 have n4_ : Aside0 (IsS132 w (w9.setCell ⟨gb718, 0, none⟩ (.slice Ao10 t713.length co10)) g712 t709 t716 t717) := ⟨(iw HI712.out)⟩
 have n5_ : Aside0 (Below w.heap.size w (w9.setCell ⟨gb718, 0, none⟩ (.slice Ao10 t713.length co10))) := ⟨bv⟩
 (try clear HO715); (try clear BK707); (try clear BK708); (try clear BK718); (try clear HI712); (try clear HB)
 generalize (w9.setCell ⟨gb718, 0, none⟩ (.slice Ao10 t713.length co10)) = w15 at n0_ n1_ n2_ n3_ n4_ n5_ ⊢
 have HO715 := n0_
 have BK707 := n1_
 have BK708 := n2_
 have BK718 := n3_
 have HI712 := n4_
 have HB := n5_
 clear n0_ n1_ n2_ n3_ n4_ n5_
 replace HO715 := am (Kd.Q_drew HO715.out)
 replace BK707 := bd BK707
 replace BK708 := bd BK708
 replace BK718 := bd BK718
 replace HI712 := am (IsS132.drew HI712.out)
 replace HB := am (below_drew1 HB.out)
 refine start_ (n := 5) (S := fun w' => w'.cell? ⟨gb718, 0, none⟩ = some (.slice Ao10 t713.length co10)) (ds := []) (yz 5 0) (by kernel_rfl) rfl rfl (bc BK718 0 _) (fun hHeld => ?_)
 generalize w15.drew = w16 at HO715 BK707 BK708 BK718 HI712 HB hHeld ⊢
 refine pure_ (i := 1) (N := some 11) (v := ?_) (a' := ?_) (yz 5 2) rfl rfl (by kernel_rfl) (fun _ _ _ h => h) (Or.inl ⟨by rfl, ?_⟩) ?_ ?_
 rotate_left
 ·intro w'
  go_simp
  with_reducible rfl
 rotate_left
 ·simp only [Act.put, qa, qb, qc, i64_w, i32_w]
  rfl
 refine tQ 0 (some 10) (yz 5 3) hHeld ?_
 refine one_ (i := 2) (N := some 12) (yz 5 7) rfl rfl (by kernel_rfl) (by decide) (fun K hK => ?_)
 refine gm Try.func130 #[.pointer (some ⟨g712, 0, none⟩)] ?_
 with_reducible refine (spec_l3Bent.calls k g712 t709 t716 t717 t719 t722 t723 w _ ?side1 ?side2 A4.out).mono ?_
 (case side1 => exact iw HI712.out)
 (case side2 => exact bv)
 rintro e w17 ⟨v720, rfl, ho0, hi, hb, hk⟩
 refine ⟨_, rfl, ?_⟩
 replace BK707 := kk hk BK707 NB707_712
 replace BK708 := kk hk BK708 NB708_712
 replace BK718 := kk hk BK718 NB718_712
 have HO721 := am (Kd.Q_lower (Kd.Q_new' ho0 (Kd.Q_lt (qo HO715.out))) (below_size bv))
 replace HO715 := am (Kd.Q_mono (Kd.Q_told (Kd.Q_oldK (IsS132.apartQ (show IsS132 w _ g712 t709 t716 t717 from (iw HI712.out)) (qo HO715.out) (by decide)) hk) (Kd.Q_base ho0)) (fun _ h_ => h_.1))
 replace HB := am (hb)
 replace HI712 := am (hi)
 clear hb hk hi ho0
 obtain ⟨Ao19, co19, eo19, _⟩ := Kd.Q_slice HO721.out
 (first | subst eo19 | (injection eo19 with f1_ f2_ f3_; have f4_ := f1_.symm; have f5_ := f3_.symm; clear f1_ f2_ f3_; subst f4_; subst f5_))
 refine hK.out _ _ (bc BK718 0 _) (fun hHeld => ?_)
 clear hK K
 refine nm (some 12) ?_
 refine one_ (i := 3) (N := none) (yz 5 15) rfl rfl (by kernel_rfl) (by decide) (fun K hK => ?_)
 have hs18 := bc BK707 0 (.slice none 0 0)
 have hfs18 := blk_frozen BK707.out 0
 have hns18_1 := NB708_707.out
 have hns18_2 := NB718_707.out
 have hms18_1 := NB707_708.out
 have hms18_2 := NB707_718.out
 refine skip_ (w1 := ?_) (by rfl) rfl ?_ ?_
 rotate_left
 ·go_simp
  rfl
 refine hK.out _ _ (((cell_far (p := ⟨gb707, _, none⟩) NB718_707.out _).trans (hHeld))) (fun hHeld => ?_)
 clear hK K
 refine one_ (i := 4) (N := none) (yz 5 31) rfl rfl (by kernel_rfl) (by decide) (fun K hK => ?_)
 have hs20 := bc BK708 0 (.slice none 0 0)
 have hfs20 := blk_frozen BK708.out 0
 have hns20_0 := NB707_708.out
 have hns20_2 := NB718_708.out
 have hms20_0 := NB708_707.out
 have hms20_2 := NB708_718.out
 refine skip_ (w1 := ?_) (by rfl) rfl ?_ ?_
 rotate_left
 ·go_simp
  rfl
 refine hK.out _ _ (((cell_far (p := ⟨gb708, _, none⟩) NB718_708.out _).trans (hHeld))) (fun hHeld => ?_)
 clear hK K
 refine done_ (by kernel_rfl) ?_
 try go_wp2
 refine bodyPost_ret (results_cc rfl _ _ gb707 gb708 26 26 #[.slice Ao10 t713.length co10] #[.slice Ao19 t719.length co19] (0, 0) (0, 0) _ _ rfl (by (with_reducible repeat (first | refine blk_drewN ?_ _ | refine blk_drew ?_ | refine blk_alloc ?_ _)); refine blk_far ?_ NB707_708.out _; (with_reducible repeat (first | refine blk_drewN ?_ _ | refine blk_drew ?_ | refine blk_alloc ?_ _)); refine blk_put (cs := #[.slice none 0 0]) ?_ 0 _ rfl; (with_reducible repeat (first | refine blk_drewN ?_ _ | refine blk_drew ?_ | refine blk_alloc ?_ _)); exact BK707.out) Try.underlying26 rfl (by kernel_rfl) rfl (by (with_reducible repeat (first | refine blk_drewN ?_ _ | refine blk_drew ?_ | refine blk_alloc ?_ _)); refine blk_put (cs := #[.slice none 0 0]) ?_ 0 _ rfl; (with_reducible repeat (first | refine blk_drewN ?_ _ | refine blk_drew ?_ | refine blk_alloc ?_ _)); refine blk_far ?_ NB708_707.out _; (with_reducible repeat (first | refine blk_drewN ?_ _ | refine blk_drew ?_ | refine blk_alloc ?_ _)); exact BK708.out) Try.underlying26 rfl (by kernel_rfl)) rfl ?_
 exact ⟨_, _, re, by (with_reducible repeat (first | apply Kd.Q_alloc | apply Kd.Q_drewN | apply Kd.Q_drew)); exact Kd.Q_mono (Kd.Q_far (p := ⟨gb708, 0, none⟩) (Kd.Q_far (p := ⟨gb707, 0, none⟩) (Kd.Q_types (Kd.Q_types HO715.out BK707.out (by decide)) BK708.out (by decide)) (fun _ hk => by first | exact hk.1.2 | simp_all) (.slice Ao10 t713.length co10)) (fun _ hk => hk.2) (.slice Ao19 t719.length co19)) (fun _ hk => by first | exact hk.1.1.2 | simp_all), by (with_reducible repeat (first | apply Kd.Q_alloc | apply Kd.Q_drewN | apply Kd.Q_drew)); exact Kd.Q_mono (Kd.Q_far (p := ⟨gb708, 0, none⟩) (Kd.Q_far (p := ⟨gb707, 0, none⟩) (Kd.Q_types (Kd.Q_types HO721.out BK707.out (by decide)) BK708.out (by decide)) (fun _ hk => by first | exact hk.1.2 | simp_all) (.slice Ao10 t713.length co10)) (fun _ hk => hk.2) (.slice Ao19 t719.length co19)) (fun _ hk => by first | exact hk.1.1.2 | simp_all), bv⟩

end Go.Proofs.Ytkfplkdchkmgbaa.C
