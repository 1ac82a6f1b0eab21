/- Contracts of functions of the program: spec_FromApery, spec_FromCoordinates, impl_CoordinateClash, laws_sameInts, spec_EqualSemigroup, laws_total, spec_l4Gaps, spec_GenusOf. -/
import Derived.Test.YtkfplkdchkmgbaaC0
import Derived.Test.YtkfplkdchkmgbaaC1
import Derived.Test.YtkfplkdchkmgbaaC2
import Derived.Test.YtkfplkdchkmgbaaC3
import Derived.Test.YtkfplkdchkmgbaaC6
import Derived.Test.YtkfplkdchkmgbaaC11
namespace Go.Proofs.Ytkfplkdchkmgbaa.C
open Go.RowKit Go.Proofs.YtkfplkdchkmgbaaW.PrintWords Go.Proofs.YtkfplkdchkmgbaaW.PrintLast Go.Proofs.YtkfplkdchkmgbaaW.PrintMore
attribute [local go_sem] max2_int min2_int max_two min_two max_three min_three max_four min_four
set_option linter.unusedVariables false
set_option linter.unusedSimpArgs false

/-! ### spec_FromApery: function 138 -/
def spec_FromApery.l0 : Nat → List Int → Int → List Int → Int → Option (List Int × Bool)
 | 0, _, _, _, _ => none
 | k + 1, x0, x4, x5, x6 => if x6 < x4 then (if 0 ≤ x6 then (if x6 < (x0.length : Int) then ((spec_l1In.f (rd x0 x6) 1 260).bind fun t797 => (if t797 = true then (if x5.length < 17592186044416 then (spec_FromApery.l0 k x0 x4 (x5 ++ [rd x0 x6]) (wrap64 (x6 + 1))) else (none)) else (some (([] : List Int), false)))) else (none)) else (none)) else ((spec_l6Minimal.f k x5).bind fun t802 => ((spec_AperySet.f k t802 x4).bind fun t806 => ((spec_l2Same.f k t806 x0).bind fun t809 => (if t809 = true then (some (t802, true)) else (some (([] : List Int), false))))))
def spec_FromApery.f (k : Nat) (l0 : List Int) : Option (List Int × Bool) := (spec_l1In.f (l0.length : Int) 1 60).bind fun t792 => (if t792 = true then (spec_FromApery.l0 k l0 (l0.length : Int) (([(l0.length : Int)] : List Int)) 1) else (some (([] : List Int), false)))
set_option maxHeartbeats 8000000 in
set_option maxRecDepth 100000 in
theorem spec_FromApery.calls (k : Nat) (A0 : Option Addr) (c0 : Nat) (l0 : List Int) (r1 : List Int) (r2 : Bool) (w : World) (hr0 : Kd.C (Kd.int .i64) w A0 l0.length l0) (hc0 : l0.length ≤ c0) (h : spec_FromApery.f k l0 = some (r1, r2)) :
  Calls Try.prog 138 #[.slice A0 l0.length c0] w fun e w' => ∃ v0_ : Value, e = .returned (.tuple #[.agg #[v0_], .bool r2]) ∧ Kd.R (Kd.int .i64) 3 w' w.heap.size (fun _ => True) v0_ r1 ∧ Below w.heap.size w w' := by
 have hu26 := Try.underlying26
 have HR0 := am hr0
 have HC0 := am hc0
 clear hr0 hc0
 have HB := am (Below.refl w.heap.size w)
 have H : ((spec_l1In.f (l0.length : Int) 1 60).bind fun t792 => (if t792 = true then (spec_FromApery.l0 k l0 (l0.length : Int) (([(l0.length : Int)] : List Int)) 1) else (some (([] : List Int), false)))) = some (r1, r2) := h
 clear h
 replace H := ga H; obtain ⟨t792, A2, H⟩ := H
 replace H := gb H; obtain ⟨rfl, H⟩ | ⟨rfl, H⟩ := H
 ·obtain ⟨y793, hy793⟩ : ∃ y_ : List Int, y_ = (([(l0.length : Int)] : List Int)) := ⟨_, rfl⟩
  replace H : (spec_FromApery.l0 k l0 (l0.length : Int) y793 1) = some (r1, r2) := by first | (rw [hy793]; with_reducible first | exact H | exact bs H) | (with_reducible first | exact bs H | exact H) | (rw [hy793]; exact H) | exact H
  have Ny793 := am hy793
  clear hy793
  have H' := am H
  clear H
  go_enter Try.func138, Try.ntmps138
  go_wp2_with (first | ((with_reducible refine gate_dst (N := 2) rfl ?_); refine bx 2 #[.slice none 0 0] 26 ?_; intro gb791 hg w4 hbox hb; have BK791 := am (hbox); have GW791 := am (gs hg : w.heap.size ≤ gb791); have GE791 := GW791; replace HB := am (below_step bw hb); clear hb hbox hg) | ((with_reducible refine gate_callee (f := 140) rfl ?_); refine gl (some 11) Try.func140 #[.int .i64 (l0.length : Int), .int .i64 1, .int .i64 60] ?_; (with_reducible refine (spec_l1In.calls (l0.length : Int) 1 60 true _ A2.out).mono ?_); rintro e w' ⟨rfl, ⟨nd, rfl⟩⟩; refine ⟨_, rfl, ?_⟩) | ((with_reducible refine gate_dst (N := 15) rfl ?_); refine Kd.R_lit (Kd.int .i64) _ 3 ?hg (N := 15) ?hd (xs := ([(l0.length : Int)] : List Int)) (inner := [.int .i64 (l0.length : Int)]) (ok := fun _ => True) (okp := fun _ => True) ?hr ?hp (fun _ hk => hk) trivial (Below.refl _ _) (Nat.le_refl _) (by simp) ?_; (case hd => rfl); (case hg => rfl); (case hr => first | (go_simp; done) | (go_simp; rfl)); (case hp => exact (Reps.one (show Kd.M (Kd.int .i64) _ _ _ (l0.length : Int) [.int .i64 (l0.length : Int)] from rfl) (Reps.none _ _))); intro v794 w5 ho6 hb hg_ hnew_; clear hg_ hnew_; (first | rw [← Ny793.out] at ho6 | (simp only [Int.reduceToNat] at ho6; rw [← Ny793.out] at ho6)); have HO795 := am (Kd.R_lower ho6 (below_size bw)); replace BK791 := kb BK791 hb; replace HB := am (below_step bw hb); clear hb ho6))
  go_loopg [5, 6] k (fun kq v5 v6 w' => ∃ (x5_1 : List Int) (x6_1 : Int), v6 = .int .i64 x6_1 ∧ Aside0 (spec_FromApery.l0 kq l0 (l0.length : Int) x5_1 x6_1 = some (r1, r2)) ∧ Aside0 (kq ≤ k) ∧ Aside0 (Kd.R (Kd.int .i64) 3 w' w.heap.size (fun _ => True) v5 x5_1) ∧ Aside0 (w'.heap[gb791]? = some (.cells #[(.slice none 0 0)] 26 (0, 0))) ∧ Aside0 (Below w.heap.size w w'))
  case atStart => exact ⟨(y793), (1), rr, H', ⟨Nat.le_refl _⟩, ⟨ro HO795.out⟩, ⟨bo BK791.out⟩, ⟨bw⟩⟩
  case round =>
   clear H'
   obtain ⟨x5_1, x6_1, rfl, HA, HK1, HO_5, BK791, HB⟩ := hrel
   cases gk with
   | zero => exact absurd HA.out (by simp [spec_FromApery.l0])
   | succ k1 =>
    have H := HA.out
    clear HA
    simp only [spec_FromApery.l0] at H
    replace H := gi H; obtain ⟨c7b0, H⟩ | ⟨c7b0, H⟩ := H
    ·replace H := gd H; obtain ⟨c8b0, H⟩ := H
     replace H := gd H; obtain ⟨c9b0, H⟩ := H
     replace H := ga H; obtain ⟨t797, A10, H⟩ := H
     replace H := gb H; obtain ⟨rfl, H⟩ | ⟨rfl, H⟩ := H
     ·by_cases c12 : x5_1.length < 17592186044416
      rotate_left
      ·rw [if_neg c12] at H
       exact absurd H (by simp)
      rw [if_pos c12] at H
      have LMc12 := am c12
      clear c12
      obtain ⟨y799, hy799⟩ : ∃ y_ : List Int, y_ = (x5_1 ++ [rd l0 x6_1]) := ⟨_, rfl⟩
      replace H : (spec_FromApery.l0 k1 l0 (l0.length : Int) y799 (wrap64 (x6_1 + 1))) = some (r1, r2) := by first | (rw [hy799]; with_reducible first | exact H | exact bs H) | (with_reducible first | exact bs H | exact H) | (rw [hy799]; exact H) | exact H
      have Ny799 := am hy799
      clear hy799
      have H' := am H
      clear H
      obtain ⟨⟨ad796, e796, hx796_0⟩, p796, q796⟩ := pq (Kd.at_int HR0.out x6_1)
      cases e796
      replace hx796_0 := hw HB hx796_0
      go_wp2_with (first | ((with_reducible refine gate_callee (f := 140) rfl ?_); refine gl (some 25) Try.func140 #[.int .i64 (rd l0 x6_1), .int .i64 1, .int .i64 260] ?_; (with_reducible refine (spec_l1In.calls (rd l0 x6_1) 1 260 true _ A10.out).mono ?_); rintro e w' ⟨rfl, ⟨nd, rfl⟩⟩; refine ⟨_, rfl, ?_⟩; have p798 : 0 ≤ (x6_1 : Int) := of_decide_eq_true (by first | (with_reducible assumption) | assumption); have q798 : x6_1 < (l0.length : Int) := of_decide_eq_true (by first | (with_reducible assumption) | assumption); obtain ⟨ad798, e798, hx798_0⟩ := Kd.at_int HR0.out x6_1 p798 q798; obtain rfl : ad796 = ad798 := (by injection e798); replace hx798_0 := hw HB hx798_0; replace p798 := eq_true p798; replace q798 := eq_true q798) | ((with_reducible refine gate_builtin (b := .append) (xs := #[.tmp 28, .tmp 33]) rfl ?_); at_builtin; refine Kd.R_append (Kd.int .i64) (w0 := w) w.heap.size rfl (.tmp 28) (.tmp 33) 24 3 (.int .i64 0) 8 rfl Try.underlying24 info3 rfl (by decide) (by omega) u5 x5_1 (rd l0 x6_1) [.int .i64 (rd l0 x6_1)] (fun _ => True) (fun _ => False) rfl rfl ?aP (fun _ hk => hk.elim) ?aF ?aO ?aB ?aS ?aL ?_; (case aP => exact rfl); (case aB => exact bw); (case aF => exact (fun _ _ => trivial)); (case aO => exact (ro HO_5.out)); (case aS => exact (below_size bw)); (case aL => have := LMc12.out; omega); intro v800 w13 ho hb hg hat; rw [← Ny799.out] at ho; replace BK791 := am (blk_grown (g := gb791) (o := .cells #[.slice none 0 0] 26 (0, 0)) (bo BK791.out) hg (Kd.R_ne HO_5.out BK791.out (by decide))); replace HB := am (hb); have HO801 := am (ho); clear HO_5 ho hb hg hat))
      go_roundg k1
      case measure => have := HK1.out; omega
      case rel => exact ⟨(y799), (wrap64 (x6_1 + 1)), rr, H', ⟨by have := HK1.out; omega⟩, ⟨ro HO801.out⟩, ⟨bo BK791.out⟩, ⟨bw⟩⟩
     simp only [Option.some.injEq, Prod.mk.injEq] at H
     obtain ⟨rfl, rfl⟩ := H
     obtain ⟨⟨ad796, e796, hx796_0⟩, p796, q796⟩ := pq (Kd.at_int HR0.out x6_1)
     cases e796
     replace hx796_0 := hw HB hx796_0
     go_wp2_with (first | ((with_reducible refine gate_callee (f := 140) rfl ?_); refine gl (some 25) Try.func140 #[.int .i64 (rd l0 x6_1), .int .i64 1, .int .i64 260] ?_; (with_reducible refine (spec_l1In.calls (rd l0 x6_1) 1 260 false _ A10.out).mono ?_); rintro e w' ⟨rfl, ⟨nd, rfl⟩⟩; refine ⟨_, rfl, ?_⟩; (try (rw [drewN_self wr]; generalize hq_ : World.drewN wr _ = wr; have n0_ : Aside0 (Kd.R (Kd.int .i64) 3 wr w.heap.size (fun _ => True) u5 x5_1) := ⟨by rw [← hq_]; exact (ro HO_5.out)⟩; have n1_ : Aside0 (wr.heap[gb791]? = some (.cells #[.slice none 0 0] 26 (0, 0))) := ⟨by rw [← hq_]; exact (bo BK791.out)⟩; have n2_ : Aside0 (Below w.heap.size w wr) := ⟨by rw [← hq_]; exact bw⟩; clear HO_5 BK791 HB hq_; have HO_5 := n0_; have BK791 := n1_; have HB := n2_; clear n0_ n1_ n2_)); have hcz14_0 := bc BK791 0 (.slice none 0 0); have hfz14_0 := blk_frozen BK791.out 0))
     refine bodyPost_ret (results_ct rfl _ _ gb791 26 #[.slice none 0 0] (0, 0) _ rfl (by (with_reducible repeat (first | refine blk_drewN ?_ _ | refine blk_drew ?_ | refine blk_alloc ?_ _)); refine blk_put (cs := #[.slice none 0 0]) ?_ 0 _ rfl; (with_reducible repeat (first | refine blk_drewN ?_ _ | refine blk_drew ?_ | refine blk_alloc ?_ _)); exact BK791.out) Try.underlying26 rfl (by kernel_rfl)) rfl ?_
     exact ⟨_, re, by first | exact Kd.R_nil _ _ _ _ _ | exact Kd.N_nil _ _ _ _ _ | exact Kd.V_nil _ _ _ _ _ | exact Kd.Q_nil _ _ _ _ _ | exact Kd.S_nil _ _ _ _ _, bw⟩
    replace H := ga H; obtain ⟨t802, A15, H⟩ := H
    replace H := ga H; obtain ⟨t806, A16, H⟩ := H
    replace H := ga H; obtain ⟨t809, A17, H⟩ := H
    replace H := gb H; obtain ⟨rfl, H⟩ | ⟨rfl, H⟩ := H
    ·simp only [Option.some.injEq, Prod.mk.injEq] at H
     obtain ⟨rfl, rfl⟩ := H
     obtain ⟨Ao19, co19, eo19⟩ := Kd.R_slice HO_5.out
     subst eo19
     go_wp2_with (first | ((with_reducible refine gate_callee (f := 214) rfl ?_); refine gl (some 36) Try.func214 #[.slice Ao19 x5_1.length co19] ?_; (with_reducible refine (spec_l6Minimal.calls k1 _ _ x5_1 t802 _ ?side1 ?side2 A15.out).mono ?_); (case side1 => exact co (Kd.R_reads' HO_5.out).2.2); (case side2 => exact (Kd.R_reads' HO_5.out).2.1); rintro e w20 ⟨v803, rfl, ho0, hb⟩; refine ⟨_, rfl, ?_⟩; have HO804 := am (Kd.R_lower (Kd.R_new' ho0 (Kd.R_lt (ro HO_5.out))) (below_size bw)); replace HO_5 := am (Kd.R_elder' (ro HO_5.out) (Kd.R_base ho0) hb); replace BK791 := kb BK791 hb; replace HB := am (below_step bw hb); clear hb ho0; obtain ⟨Ao21, co21, eo21⟩ := Kd.R_slice HO804.out; subst eo21) | ((with_reducible refine gate_dst (N := 7) rfl ?_); refine bx 7 #[.slice none 0 0] 26 ?_; intro gb805 hg w22 hbox hb; replace HO_5 := rK HO_5 hb; replace HO804 := rK HO804 hb; have BK805 := am (hbox); have GW805 := am (gs hg : w.heap.size ≤ gb805); have GE805 := GW805; replace HB := am (below_step bw hb); have NB791_805 := nl hg BK791; have NB805_791 := ns NB791_805; replace BK791 := kb BK791 hb; clear hb hbox hg; have hnb23 := NB805_791.out; have hnc23 := NB791_805.out; have hcz24_0 := bc BK805 0 (.slice none 0 0); have hfz24_0 := blk_frozen BK805.out 0) | ((with_reducible refine gate_callee (f := 211) rfl ?_); refine gl (some 40) Try.func211 #[.agg #[.slice Ao21 t802.length co21], .int .i64 (l0.length : Int)] ?_; (with_reducible refine (spec_AperySet.calls k1 _ _ t802 (l0.length : Int) t806 _ ?side1 ?side2 A16.out).mono ?_); (case side1 => refine (Kd.R_reads' (e := 3) (base := w.heap.size) (ok := fun k_ => (True ∧ nb k_ Ao19 x5_1 co19)) (n := t802.length) (c := co21) ?_).2.2; exact (rF HO804 BK805 (.slice Ao21 t802.length co21))); (case side2 => exact (Kd.R_reads' HO804.out).2.1); rintro e w25 ⟨v807, rfl, ho0, hb⟩; refine ⟨_, rfl, ?_⟩; have HO808 := am (Kd.R_lower (Kd.R_new' (Kd.R_new' ho0 (Kd.R_lt (rF HO_5 BK805 (.slice Ao21 t802.length co21)))) (Kd.R_lt (rF HO804 BK805 (.slice Ao21 t802.length co21)))) (below_size bw)); replace HO_5 := am (Kd.R_elder' (rF HO_5 BK805 (.slice Ao21 t802.length co21)) (Kd.R_base ho0) hb); replace HO804 := am (Kd.R_elder' (rF HO804 BK805 (.slice Ao21 t802.length co21)) (Kd.R_base ho0) hb); replace BK791 := kb BK791 hb; replace BK805 := am (blk_below (g := gb805) (o := .cells #[.slice Ao21 t802.length co21] 26 (0, 0)) (by (with_reducible repeat (first | refine blk_drewN ?_ _ | refine blk_drew ?_ | refine blk_alloc ?_ _)); refine blk_put (cs := #[.slice none 0 0]) ?_ 0 _ rfl; (with_reducible repeat (first | refine blk_drewN ?_ _ | refine blk_drew ?_ | refine blk_alloc ?_ _)); exact BK805.out) hb); replace HB := am (below_step bw hb); clear hb ho0; obtain ⟨Ao26, co26, eo26⟩ := Kd.R_slice HO808.out; subst eo26) | ((with_reducible refine gate_callee (f := 143) rfl ?_); refine gl (some 42) Try.func143 #[.slice Ao26 t806.length co26, .slice A0 l0.length c0] ?_; (with_reducible refine (spec_l2Same.calls k1 _ _ t806 _ _ l0 true _ ?side1 ?side2 ?side3 ?side4 A17.out).mono ?_); (case side1 => exact co (Kd.R_reads' HO808.out).2.2); (case side2 => exact (Kd.R_reads' HO808.out).2.1); (case side3 => exact co (Kd.C_below HR0.out HB.out)); (case side4 => exact HC0.out); rintro e w' ⟨rfl, ⟨nd, rfl⟩⟩; refine ⟨_, rfl, ?_⟩; (try (rw [drewN_self w25]; generalize hq_ : World.drewN w25 _ = w25; have n0_ : Aside0 (Kd.R (Kd.int .i64) 3 w25 w.heap.size (fun k_ => nb k_ Ao26 t806 co26 ∧ nb k_ Ao19 x5_1 co19) (.slice Ao21 t802.length co21) t802) := ⟨by rw [← hq_]; exact (by (with_reducible repeat (first | apply Kd.R_alloc | apply Kd.R_drewN | apply Kd.R_drew)); exact Kd.R_mono HO804.out (fun _ hk => by first | exact ⟨hk.2, hk.1.2⟩ | simp_all))⟩; have n1_ : Aside0 (Kd.R (Kd.int .i64) 3 w25 w.heap.size (fun k_ => nb k_ Ao21 t802 co21 ∧ nb k_ Ao19 x5_1 co19) (.slice Ao26 t806.length co26) t806) := ⟨by rw [← hq_]; exact (by (with_reducible repeat (first | apply Kd.R_alloc | apply Kd.R_drewN | apply Kd.R_drew)); exact Kd.R_mono HO808.out (fun _ hk => by first | exact ⟨hk.2, hk.1.2⟩ | simp_all))⟩; have n2_ : Aside0 (Kd.R (Kd.int .i64) 3 w25 w.heap.size (fun k_ => nb k_ Ao21 t802 co21 ∧ nb k_ Ao26 t806 co26) (.slice Ao19 x5_1.length co19) x5_1) := ⟨by rw [← hq_]; exact (by (with_reducible repeat (first | apply Kd.R_alloc | apply Kd.R_drewN | apply Kd.R_drew)); exact Kd.R_mono HO_5.out (fun _ hk => by first | exact ⟨hk.1.2, hk.2⟩ | simp_all))⟩; have n3_ : Aside0 (w25.heap[gb791]? = some (.cells #[.slice none 0 0] 26 (0, 0))) := ⟨by rw [← hq_]; exact (bo BK791.out)⟩; have n4_ : Aside0 (w25.heap[gb805]? = some (.cells #[.slice Ao21 t802.length co21] 26 (0, 0))) := ⟨by rw [← hq_]; exact (bo BK805.out)⟩; have n5_ : Aside0 (Below w.heap.size w w25) := ⟨by rw [← hq_]; exact bw⟩; clear HO804 HO808 HO_5 BK791 BK805 HB hq_; have HO804 := n0_; have HO808 := n1_; have HO_5 := n2_; have BK791 := n3_; have BK805 := n4_; have HB := n5_; clear n0_ n1_ n2_ n3_ n4_ n5_)); have hcz27_0 := bc BK805 0 (.slice Ao21 t802.length co21); have hfz27_0 := blk_frozen BK805.out 0; have hcz28_0 := bc BK791 0 (.slice none 0 0); have hfz28_0 := blk_frozen BK791.out 0))
     refine bodyPost_ret (results_ct rfl _ _ gb791 26 #[.slice Ao21 t802.length co21] (0, 0) _ rfl (by (with_reducible repeat (first | refine blk_drewN ?_ _ | refine blk_drew ?_ | refine blk_alloc ?_ _)); refine blk_put (cs := #[.slice none 0 0]) ?_ 0 _ rfl; (with_reducible repeat (first | refine blk_drewN ?_ _ | refine blk_drew ?_ | refine blk_alloc ?_ _)); exact BK791.out) Try.underlying26 rfl (by kernel_rfl)) rfl ?_
     exact ⟨_, re, by (with_reducible repeat (first | apply Kd.R_alloc | apply Kd.R_drewN | apply Kd.R_drew)); exact Kd.R_mono (Kd.R_far (p := ⟨gb791, 0, none⟩) (Kd.R_types HO804.out BK791.out (by decide)) (fun _ hk => hk.2) (.slice Ao21 t802.length co21)) (fun _ hk => trivial), bw⟩
    simp only [Option.some.injEq, Prod.mk.injEq] at H
    obtain ⟨rfl, rfl⟩ := H
    obtain ⟨Ao29, co29, eo29⟩ := Kd.R_slice HO_5.out
    subst eo29
    go_wp2_with (first | ((with_reducible refine gate_callee (f := 214) rfl ?_); refine gl (some 36) Try.func214 #[.slice Ao29 x5_1.length co29] ?_; (with_reducible refine (spec_l6Minimal.calls k1 _ _ x5_1 t802 _ ?side1 ?side2 A15.out).mono ?_); (case side1 => exact co (Kd.R_reads' HO_5.out).2.2); (case side2 => exact (Kd.R_reads' HO_5.out).2.1); rintro e w30 ⟨v803, rfl, ho0, hb⟩; refine ⟨_, rfl, ?_⟩; have HO804 := am (Kd.R_lower (Kd.R_new' ho0 (Kd.R_lt (ro HO_5.out))) (below_size bw)); replace HO_5 := am (Kd.R_elder' (ro HO_5.out) (Kd.R_base ho0) hb); replace BK791 := kb BK791 hb; replace HB := am (below_step bw hb); clear hb ho0; obtain ⟨Ao31, co31, eo31⟩ := Kd.R_slice HO804.out; subst eo31) | ((with_reducible refine gate_dst (N := 7) rfl ?_); refine bx 7 #[.slice none 0 0] 26 ?_; intro gb805 hg w32 hbox hb; replace HO_5 := rK HO_5 hb; replace HO804 := rK HO804 hb; have BK805 := am (hbox); have GW805 := am (gs hg : w.heap.size ≤ gb805); have GE805 := GW805; replace HB := am (below_step bw hb); have NB791_805 := nl hg BK791; have NB805_791 := ns NB791_805; replace BK791 := kb BK791 hb; clear hb hbox hg; have hnb33 := NB805_791.out; have hnc33 := NB791_805.out; have hcz34_0 := bc BK805 0 (.slice none 0 0); have hfz34_0 := blk_frozen BK805.out 0) | ((with_reducible refine gate_callee (f := 211) rfl ?_); refine gl (some 40) Try.func211 #[.agg #[.slice Ao31 t802.length co31], .int .i64 (l0.length : Int)] ?_; (with_reducible refine (spec_AperySet.calls k1 _ _ t802 (l0.length : Int) t806 _ ?side1 ?side2 A16.out).mono ?_); (case side1 => refine (Kd.R_reads' (e := 3) (base := w.heap.size) (ok := fun k_ => (True ∧ nb k_ Ao29 x5_1 co29)) (n := t802.length) (c := co31) ?_).2.2; exact (rF HO804 BK805 (.slice Ao31 t802.length co31))); (case side2 => exact (Kd.R_reads' HO804.out).2.1); rintro e w35 ⟨v807, rfl, ho0, hb⟩; refine ⟨_, rfl, ?_⟩; have HO808 := am (Kd.R_lower (Kd.R_new' (Kd.R_new' ho0 (Kd.R_lt (rF HO_5 BK805 (.slice Ao31 t802.length co31)))) (Kd.R_lt (rF HO804 BK805 (.slice Ao31 t802.length co31)))) (below_size bw)); replace HO_5 := am (Kd.R_elder' (rF HO_5 BK805 (.slice Ao31 t802.length co31)) (Kd.R_base ho0) hb); replace HO804 := am (Kd.R_elder' (rF HO804 BK805 (.slice Ao31 t802.length co31)) (Kd.R_base ho0) hb); replace BK791 := kb BK791 hb; replace BK805 := am (blk_below (g := gb805) (o := .cells #[.slice Ao31 t802.length co31] 26 (0, 0)) (by (with_reducible repeat (first | refine blk_drewN ?_ _ | refine blk_drew ?_ | refine blk_alloc ?_ _)); refine blk_put (cs := #[.slice none 0 0]) ?_ 0 _ rfl; (with_reducible repeat (first | refine blk_drewN ?_ _ | refine blk_drew ?_ | refine blk_alloc ?_ _)); exact BK805.out) hb); replace HB := am (below_step bw hb); clear hb ho0; obtain ⟨Ao36, co36, eo36⟩ := Kd.R_slice HO808.out; subst eo36) | ((with_reducible refine gate_callee (f := 143) rfl ?_); refine gl (some 42) Try.func143 #[.slice Ao36 t806.length co36, .slice A0 l0.length c0] ?_; (with_reducible refine (spec_l2Same.calls k1 _ _ t806 _ _ l0 false _ ?side1 ?side2 ?side3 ?side4 A17.out).mono ?_); (case side1 => exact co (Kd.R_reads' HO808.out).2.2); (case side2 => exact (Kd.R_reads' HO808.out).2.1); (case side3 => exact co (Kd.C_below HR0.out HB.out)); (case side4 => exact HC0.out); rintro e w' ⟨rfl, ⟨nd, rfl⟩⟩; refine ⟨_, rfl, ?_⟩; (try (rw [drewN_self w35]; generalize hq_ : World.drewN w35 _ = w35; have n0_ : Aside0 (Kd.R (Kd.int .i64) 3 w35 w.heap.size (fun k_ => nb k_ Ao36 t806 co36 ∧ nb k_ Ao29 x5_1 co29) (.slice Ao31 t802.length co31) t802) := ⟨by rw [← hq_]; exact (by (with_reducible repeat (first | apply Kd.R_alloc | apply Kd.R_drewN | apply Kd.R_drew)); exact Kd.R_mono HO804.out (fun _ hk => by first | exact ⟨hk.2, hk.1.2⟩ | simp_all))⟩; have n1_ : Aside0 (Kd.R (Kd.int .i64) 3 w35 w.heap.size (fun k_ => nb k_ Ao31 t802 co31 ∧ nb k_ Ao29 x5_1 co29) (.slice Ao36 t806.length co36) t806) := ⟨by rw [← hq_]; exact (by (with_reducible repeat (first | apply Kd.R_alloc | apply Kd.R_drewN | apply Kd.R_drew)); exact Kd.R_mono HO808.out (fun _ hk => by first | exact ⟨hk.2, hk.1.2⟩ | simp_all))⟩; have n2_ : Aside0 (Kd.R (Kd.int .i64) 3 w35 w.heap.size (fun k_ => nb k_ Ao31 t802 co31 ∧ nb k_ Ao36 t806 co36) (.slice Ao29 x5_1.length co29) x5_1) := ⟨by rw [← hq_]; exact (by (with_reducible repeat (first | apply Kd.R_alloc | apply Kd.R_drewN | apply Kd.R_drew)); exact Kd.R_mono HO_5.out (fun _ hk => by first | exact ⟨hk.1.2, hk.2⟩ | simp_all))⟩; have n3_ : Aside0 (w35.heap[gb791]? = some (.cells #[.slice none 0 0] 26 (0, 0))) := ⟨by rw [← hq_]; exact (bo BK791.out)⟩; have n4_ : Aside0 (w35.heap[gb805]? = some (.cells #[.slice Ao31 t802.length co31] 26 (0, 0))) := ⟨by rw [← hq_]; exact (bo BK805.out)⟩; have n5_ : Aside0 (Below w.heap.size w w35) := ⟨by rw [← hq_]; exact bw⟩; clear HO804 HO808 HO_5 BK791 BK805 HB hq_; have HO804 := n0_; have HO808 := n1_; have HO_5 := n2_; have BK791 := n3_; have BK805 := n4_; have HB := n5_; clear n0_ n1_ n2_ n3_ n4_ n5_)); have hcz37_0 := bc BK791 0 (.slice none 0 0); have hfz37_0 := blk_frozen BK791.out 0))
    refine bodyPost_ret (results_ct rfl _ _ gb791 26 #[.slice none 0 0] (0, 0) _ rfl (by (with_reducible repeat (first | refine blk_drewN ?_ _ | refine blk_drew ?_ | refine blk_alloc ?_ _)); refine blk_put (cs := #[.slice none 0 0]) ?_ 0 _ rfl; (with_reducible repeat (first | refine blk_drewN ?_ _ | refine blk_drew ?_ | refine blk_alloc ?_ _)); exact BK791.out) Try.underlying26 rfl (by kernel_rfl)) rfl ?_
    exact ⟨_, re, by first | exact Kd.R_nil _ _ _ _ _ | exact Kd.N_nil _ _ _ _ _ | exact Kd.V_nil _ _ _ _ _ | exact Kd.Q_nil _ _ _ _ _ | exact Kd.S_nil _ _ _ _ _, bw⟩
 simp only [Option.some.injEq, Prod.mk.injEq] at H
 obtain ⟨rfl, rfl⟩ := H
 go_enter Try.func138, Try.ntmps138
 go_wp2_with (first | ((with_reducible refine gate_dst (N := 2) rfl ?_); refine bx 2 #[.slice none 0 0] 26 ?_; intro gb791 hg w38 hbox hb; have BK791 := am (hbox); have GW791 := am (gs hg : w.heap.size ≤ gb791); have GE791 := GW791; replace HB := am (below_step bw hb); clear hb hbox hg) | ((with_reducible refine gate_callee (f := 140) rfl ?_); refine gl (some 11) Try.func140 #[.int .i64 (l0.length : Int), .int .i64 1, .int .i64 60] ?_; (with_reducible refine (spec_l1In.calls (l0.length : Int) 1 60 false _ A2.out).mono ?_); rintro e w' ⟨rfl, ⟨nd, rfl⟩⟩; refine ⟨_, rfl, ?_⟩; (try (rw [drewN_self w38]; generalize hq_ : World.drewN w38 _ = w38; have n0_ : Aside0 (w38.heap[gb791]? = some (.cells #[.slice none 0 0] 26 (0, 0))) := ⟨by rw [← hq_]; exact (bo BK791.out)⟩; have n1_ : Aside0 (Below w.heap.size w w38) := ⟨by rw [← hq_]; exact bw⟩; clear BK791 HB hq_; have BK791 := n0_; have HB := n1_; clear n0_ n1_)); have hcz39_0 := bc BK791 0 (.slice none 0 0); have hfz39_0 := blk_frozen BK791.out 0))
 refine bodyPost_ret (results_ct rfl _ _ gb791 26 #[.slice none 0 0] (0, 0) _ rfl (by (with_reducible repeat (first | refine blk_drewN ?_ _ | refine blk_drew ?_ | refine blk_alloc ?_ _)); refine blk_put (cs := #[.slice none 0 0]) ?_ 0 _ rfl; (with_reducible repeat (first | refine blk_drewN ?_ _ | refine blk_drew ?_ | refine blk_alloc ?_ _)); exact BK791.out) Try.underlying26 rfl (by kernel_rfl)) rfl ?_
 exact ⟨_, re, by first | exact Kd.R_nil _ _ _ _ _ | exact Kd.N_nil _ _ _ _ _ | exact Kd.V_nil _ _ _ _ _ | exact Kd.Q_nil _ _ _ _ _ | exact Kd.S_nil _ _ _ _ _, bw⟩


/-! ### spec_FromCoordinates: function 17 -/
mutual
def spec_FromCoordinates.j0 : Nat → List Int → Bool → Option (List Int × Bool)
 | 0, _, _ => none
 | k + 1, x0, x21 => if x21 = true then (some (([] : List Int), false)) else (spec_FromCoordinates.l0 k x0 (wrap64 ((x0.length : Int) + 1)) (([0] : List Int)) 1)
def spec_FromCoordinates.l0 : Nat → List Int → Int → List Int → Int → Option (List Int × Bool)
 | 0, _, _, _, _ => none
 | k + 1, x0, x6, x7, x8 => if x8 < x6 then (if 0 ≤ (wrap64 (x8 - 1)) then (if (wrap64 (x8 - 1)) < (x0.length : Int) then (if x7.length < 17592186044416 then (spec_FromCoordinates.l0 k x0 x6 (x7 ++ [wrap64 ((wrap64 ((rd x0 (wrap64 (x8 - 1))) * x6)) + x8)]) (wrap64 (x8 + 1))) else (none)) else (none)) else (none)) else ((spec_FromApery.f k x7).bind fun bt822 => (some (bt822.1, bt822.2)))
end
def spec_FromCoordinates.f (k : Nat) (l0 : List Int) : Option (List Int × Bool) := (spec_CoordinateClash.f k l0).bind fun bt811 => (if bt811.2.2 = true then (spec_FromCoordinates.j0 k l0 true) else (spec_FromCoordinates.j0 k l0 (decide ((l0.length : Int) ≥ 60))))
set_option maxHeartbeats 8000000 in
set_option maxRecDepth 100000 in
theorem spec_FromCoordinates.calls (k : Nat) (A0 : Option Addr) (c0 : Nat) (l0 : List Int) (r1 : List Int) (r2 : Bool) (w : World) (hr0 : Kd.C (Kd.int .i64) w A0 l0.length l0) (hc0 : l0.length ≤ c0) (h : spec_FromCoordinates.f k l0 = some (r1, r2)) :
  Calls Try.prog 17 #[.slice A0 l0.length c0] w fun e w' => ∃ v0_ : Value, e = .returned (.tuple #[.agg #[v0_], .bool r2]) ∧ Kd.R (Kd.int .i64) 3 w' w.heap.size (fun _ => True) v0_ r1 ∧ Below w.heap.size w w' := by
 have hu26 := Try.underlying26
 have hu33 := Try.underlying33
 have HR0 := am hr0
 have HC0 := am hc0
 clear hr0 hc0
 have HB := am (Below.refl w.heap.size w)
 have H : ((spec_CoordinateClash.f k l0).bind fun bt811 => (if bt811.2.2 = true then (spec_FromCoordinates.j0 k l0 true) else (spec_FromCoordinates.j0 k l0 (decide ((l0.length : Int) ≥ 60))))) = some (r1, r2) := h
 clear h
 replace H := ga H; obtain ⟨⟨t811, t812, t813⟩, A2, H⟩ := H
 replace H : (if t813 = true then (spec_FromCoordinates.j0 k l0 true) else (spec_FromCoordinates.j0 k l0 (decide ((l0.length : Int) ≥ 60)))) = some (r1, r2) := H
 have HC3 := am H
 clear H
 go_enter Try.func17, Try.ntmps17
 go_upto_region 2 with (first | ((with_reducible refine gate_dst (N := 2) rfl ?_); (try (refine gate_guard (by rfl) ?_; dsimp only)); refine bx 2 #[.slice none 0 0] 26 ?_; intro gb810 hg w4 hbox hb; have BK810 := am (hbox); have GW810 := am (gs hg : w.heap.size ≤ gb810); have GE810 := GW810; replace HB := am (below_step bw hb); clear hb hbox hg) | ((with_reducible refine gate_callee (f := 19) rfl ?_); refine gl (some 13) Try.func19 #[.slice A0 l0.length c0] ?_; (with_reducible refine (spec_CoordinateClash.calls k _ _ l0 t811 t812 t813 _ ?side1 ?side2 A2.out).mono ?_); (case side1 => exact co (Kd.C_below HR0.out HB.out)); (case side2 => exact HC0.out); rintro e w5 ⟨rfl, hb⟩; refine ⟨_, rfl, ?_⟩; replace BK810 := kb BK810 hb; replace HB := am (below_step bw hb); clear hb) | ((with_reducible refine gate_dst (N := 4) rfl ?_); (try (refine gate_guard (by rfl) ?_; dsimp only)); refine bx 4 #[.int .i64 0, .int .i64 0] 33 ?_; intro gb814 hg w6 hbox hb; have BK814 := am (hbox); have GW814 := am (gs hg : w.heap.size ≤ gb814); have GE814 := GW814; replace HB := am (below_step bw hb); have NB810_814 := nl hg BK810; have NB814_810 := ns NB810_814; replace BK810 := kb BK810 hb; clear hb hbox hg; have hnb7 := NB814_810.out; have hnc7 := NB810_814.out; have hcz8_0 := bc BK814 0 (.int .i64 0); have hcz8_1 := bc BK814 1 (.int .i64 0); have hfz8_0 := blk_frozen BK814.out 0; have hfz8_1 := blk_frozen BK814.out 1))
 (try simp only [Act.put, List.setIfInBounds_toArray, List.set_cons_zero, List.set_cons_succ])
 go_cut [21] (fun v21 wc => ∃ (kq : Nat) (x21_2 : Bool), v21 = .bool x21_2 ∧ Aside0 (spec_FromCoordinates.j0 kq l0 x21_2 = some (r1, r2)) ∧ Aside0 (kq ≤ k) ∧ Aside0 (wc.heap[gb810]? = some (.cells #[(.slice none 0 0)] 26 (0, 0))) ∧ Aside0 (wc.heap[gb814]? = some (.cells #[.int .i64 t811, .int .i64 t812] 33 (0, 0))) ∧ Aside0 (Below w.heap.size w wc))
 case first =>
  have H := HC3.out
  clear HC3
  replace H := gb H; obtain ⟨rfl, H⟩ | ⟨rfl, H⟩ := H
  ·have H' := am H
   clear H
   go_wp2
   go_meet
   case rel => exact ⟨_, (true), rr, H', ⟨om⟩, ⟨bf BK810.out⟩, ⟨by (with_reducible repeat (first | refine blk_drewN ?_ _ | refine blk_drew ?_ | refine blk_alloc ?_ _)); refine blk_put (cs := #[.int .i64 t811, .int .i64 0]) ?_ 1 _ rfl; (with_reducible repeat (first | refine blk_drewN ?_ _ | refine blk_drew ?_ | refine blk_alloc ?_ _)); refine blk_put (cs := #[.int .i64 0, .int .i64 0]) ?_ 0 _ rfl; (with_reducible repeat (first | refine blk_drewN ?_ _ | refine blk_drew ?_ | refine blk_alloc ?_ _)); exact BK814.out⟩, ⟨bw⟩⟩
  have H' := am H
  clear H
  go_wp2
  go_meet
  case rel => exact ⟨_, (decide ((l0.length : Int) ≥ 60)), rr, H', ⟨om⟩, ⟨bf BK810.out⟩, ⟨by (with_reducible repeat (first | refine blk_drewN ?_ _ | refine blk_drew ?_ | refine blk_alloc ?_ _)); refine blk_put (cs := #[.int .i64 t811, .int .i64 0]) ?_ 1 _ rfl; (with_reducible repeat (first | refine blk_drewN ?_ _ | refine blk_drew ?_ | refine blk_alloc ?_ _)); refine blk_put (cs := #[.int .i64 0, .int .i64 0]) ?_ 0 _ rfl; (with_reducible repeat (first | refine blk_drewN ?_ _ | refine blk_drew ?_ | refine blk_alloc ?_ _)); exact BK814.out⟩, ⟨bw⟩⟩
 case rest =>
  clear HC3
  try clear hcz8_0; try clear hcz8_1; try clear hfz8_0; try clear hfz8_1
  obtain ⟨kq, x21_2, rfl, HA, HJ2, BK810, BK814, HB⟩ := hcut
  cases kq with
  | zero => exact absurd HA.out (by simp [spec_FromCoordinates.j0])
  | succ kj2 =>
   have H := HA.out
   clear HA
   simp only [spec_FromCoordinates.j0] at H
   replace H := gb H; obtain ⟨rfl, H⟩ | ⟨rfl, H⟩ := H
   ·simp only [Option.some.injEq, Prod.mk.injEq] at H
    obtain ⟨rfl, rfl⟩ := H
    have hnb11 := NB810_814.out
    have hnc11 := NB814_810.out
    have hcz12_0 := bc BK810 0 (.slice none 0 0)
    have hfz12_0 := blk_frozen BK810.out 0
    go_wp2
    refine bodyPost_ret (results_ct rfl _ _ gb810 26 #[.slice none 0 0] (0, 0) _ rfl (by (with_reducible repeat (first | refine blk_drewN ?_ _ | refine blk_drew ?_ | refine blk_alloc ?_ _)); refine blk_put (cs := #[.slice none 0 0]) ?_ 0 _ rfl; (with_reducible repeat (first | refine blk_drewN ?_ _ | refine blk_drew ?_ | refine blk_alloc ?_ _)); exact BK810.out) Try.underlying26 rfl (by kernel_rfl)) rfl ?_
    exact ⟨_, re, by first | exact Kd.R_nil _ _ _ _ _ | exact Kd.N_nil _ _ _ _ _ | exact Kd.V_nil _ _ _ _ _ | exact Kd.Q_nil _ _ _ _ _ | exact Kd.S_nil _ _ _ _ _, bw⟩
   obtain ⟨y815, hy815⟩ : ∃ y_ : List Int, y_ = (([0] : List Int)) := ⟨_, rfl⟩
   replace H : (spec_FromCoordinates.l0 kj2 l0 (wrap64 ((l0.length : Int) + 1)) y815 1) = some (r1, r2) := by first | (rw [hy815]; with_reducible first | exact H | exact bs H) | (with_reducible first | exact bs H | exact H) | (rw [hy815]; exact H) | exact H
   have Ny815 := am hy815
   clear hy815
   have H' := am H
   clear H
   go_wp2_with (first | ((with_reducible refine gate_dst (N := 26) rfl ?_); (try (refine gate_guard (by rfl) ?_; dsimp only)); refine Kd.R_lit (Kd.int .i64) _ 3 ?hg (N := 26) ?hd (xs := ([0] : List Int)) (inner := [.int .i64 0]) (ok := fun _ => True) (okp := fun _ => True) ?hr ?hp (fun _ hk => hk) trivial (Below.refl _ _) (Nat.le_refl _) (by simp) ?_; (case hd => rfl); (case hg => rfl); (case hr => first | (go_simp; done) | (go_simp; rfl)); (case hp => exact (Reps.one (show Kd.M (Kd.int .i64) _ _ _ 0 [.int .i64 0] from rfl) (Reps.none _ _))); intro v816 w13 ho14 hb hg_ hnew_; clear hg_ hnew_; (first | rw [← Ny815.out] at ho14 | (simp only [Int.reduceToNat] at ho14; rw [← Ny815.out] at ho14)); have HO817 := am (Kd.R_lower ho14 (below_size bw)); replace BK810 := kb BK810 hb; replace BK814 := kb BK814 hb; replace HB := am (below_step bw hb); clear hb ho14))
   go_loopg [7, 8] kj2 (fun kq v7 v8 w' => ∃ (x7_2 : List Int) (x8_2 : Int), v8 = .int .i64 x8_2 ∧ Aside0 (spec_FromCoordinates.l0 kq l0 (wrap64 ((l0.length : Int) + 1)) x7_2 x8_2 = some (r1, r2)) ∧ Aside0 (kq ≤ kj2) ∧ Aside0 (Kd.R (Kd.int .i64) 3 w' w.heap.size (fun _ => True) v7 x7_2) ∧ Aside0 (w'.heap[gb810]? = some (.cells #[(.slice none 0 0)] 26 (0, 0))) ∧ Aside0 (w'.heap[gb814]? = some (.cells #[.int .i64 t811, .int .i64 t812] 33 (0, 0))) ∧ Aside0 (Below w.heap.size w w'))
   case atStart => exact ⟨(y815), (1), rr, H', ⟨Nat.le_refl _⟩, ⟨ro HO817.out⟩, ⟨bo BK810.out⟩, ⟨bo BK814.out⟩, ⟨bw⟩⟩
   case round =>
    clear H'
    try clear hcz12_0; try clear hcz8_0; try clear hcz8_1; try clear hfz12_0; try clear hfz8_0; try clear hfz8_1
    obtain ⟨x7_2, x8_2, rfl, HA, HK2, HO_7, BK810, BK814, HB⟩ := hrel
    cases gk with
    | zero => exact absurd HA.out (by simp [spec_FromCoordinates.l0])
    | succ k2 =>
     have H := HA.out
     clear HA
     simp only [spec_FromCoordinates.l0] at H
     replace H := gi H; obtain ⟨c15b0, H⟩ | ⟨c15b0, H⟩ := H
     ·obtain ⟨ji16, hji16⟩ : ∃ j_ : Int, (wrap64 (x8_2 - 1)) = j_ := ⟨_, rfl⟩
      replace H : (if 0 ≤ (ji16) then (if (ji16) < (l0.length : Int) then (if x7_2.length < 17592186044416 then (spec_FromCoordinates.l0 k2 l0 (wrap64 ((l0.length : Int) + 1)) (x7_2 ++ [wrap64 ((wrap64 ((rd l0 (ji16)) * (wrap64 ((l0.length : Int) + 1)))) + x8_2)]) (wrap64 (x8_2 + 1))) else (none)) else (none)) else (none)) = some (r1, r2) := by first | (rw [hji16] at H; exact H) | (simp only [hji16] at H ⊢; exact H)
      have hji16w : (IntKind.i64.wrap (x8_2 - 1)) = ji16 := (i64_w _).trans hji16
      replace H := gd H; obtain ⟨c17b0, H⟩ := H
      replace H := gd H; obtain ⟨c18b0, H⟩ := H
      by_cases c19 : x7_2.length < 17592186044416
      rotate_left
      ·rw [if_neg c19] at H
       exact absurd H (by simp)
      rw [if_pos c19] at H
      have LMc19 := am c19
      clear c19
      obtain ⟨y819, hy819⟩ : ∃ y_ : List Int, y_ = (x7_2 ++ [wrap64 ((wrap64 ((rd l0 (ji16)) * (wrap64 ((l0.length : Int) + 1)))) + x8_2)]) := ⟨_, rfl⟩
      replace H : (spec_FromCoordinates.l0 k2 l0 (wrap64 ((l0.length : Int) + 1)) y819 (wrap64 (x8_2 + 1))) = some (r1, r2) := by first | (rw [hy819]; with_reducible first | exact H | exact bs H) | (with_reducible first | exact bs H | exact H) | (rw [hy819]; exact H) | exact H
      have Ny819 := am hy819
      clear hy819
      have H' := am H
      clear H
      obtain ⟨⟨ad818, e818, hx818_0⟩, p818, q818⟩ := pq (Kd.at_int HR0.out (ji16))
      cases e818
      replace hx818_0 := hw HB hx818_0
      go_wp2_with (first | ((with_reducible refine gate_builtin (b := .append) (xs := #[.tmp 32, .tmp 42]) rfl ?_); (try (refine gate_guard (by rfl) ?_; dsimp only)); at_builtin; refine Kd.R_append (Kd.int .i64) (w0 := w) w.heap.size rfl (.tmp 32) (.tmp 42) 24 3 (.int .i64 0) 8 rfl Try.underlying24 info3 rfl (by decide) (by omega) u7 x7_2 (wrap64 ((wrap64 ((rd l0 (ji16)) * (wrap64 ((l0.length : Int) + 1)))) + x8_2)) [.int .i64 (wrap64 ((wrap64 ((rd l0 (ji16)) * (wrap64 ((l0.length : Int) + 1)))) + x8_2))] (fun _ => True) (fun _ => False) rfl rfl ?aP (fun _ hk => hk.elim) ?aF ?aO ?aB ?aS ?aL ?_; (case aP => exact rfl); (case aB => exact bw); (case aF => exact (fun _ _ => trivial)); (case aO => exact (ro HO_7.out)); (case aS => exact (below_size bw)); (case aL => have := LMc19.out; omega); intro v820 w20 ho hb hg hat; rw [← Ny819.out] at ho; replace BK810 := am (blk_grown (g := gb810) (o := .cells #[.slice none 0 0] 26 (0, 0)) (bo BK810.out) hg (Kd.R_ne HO_7.out BK810.out (by decide))); replace BK814 := am (blk_grown (g := gb814) (o := .cells #[.int .i64 t811, .int .i64 t812] 33 (0, 0)) (bo BK814.out) hg (Kd.R_ne HO_7.out BK814.out (by decide))); replace HB := am (hb); have HO821 := am (ho); clear HO_7 ho hb hg hat))
      go_roundg k2
      case measure => have := HJ2.out; have := HK2.out; omega
      case rel => exact ⟨(y819), (wrap64 (x8_2 + 1)), rr, H', ⟨by have := HJ2.out; have := HK2.out; omega⟩, ⟨ro HO821.out⟩, ⟨bo BK810.out⟩, ⟨bo BK814.out⟩, ⟨bw⟩⟩
     replace H := ga H; obtain ⟨⟨t822, t825⟩, A21, H⟩ := H
     replace H : (some (t822, t825)) = some (r1, r2) := H
     simp only [Option.some.injEq, Prod.mk.injEq] at H
     obtain ⟨rfl, rfl⟩ := H
     obtain ⟨Ao22, co22, eo22⟩ := Kd.R_slice HO_7.out
     subst eo22
     go_wp2_with (first | ((with_reducible refine gate_callee (f := 138) rfl ?_); refine gl (some 46) Try.func138 #[.slice Ao22 x7_2.length co22] ?_; (with_reducible refine (spec_FromApery.calls k2 _ _ x7_2 t822 t825 _ ?side1 ?side2 A21.out).mono ?_); (case side1 => exact co (Kd.R_reads' HO_7.out).2.2); (case side2 => exact (Kd.R_reads' HO_7.out).2.1); rintro e w23 ⟨v823, rfl, ho0, hb⟩; refine ⟨_, rfl, ?_⟩; have HO824 := am (Kd.R_lower (Kd.R_new' ho0 (Kd.R_lt (ro HO_7.out))) (below_size bw)); replace HO_7 := am (Kd.R_elder' (ro HO_7.out) (Kd.R_base ho0) hb); replace BK810 := kb BK810 hb; replace BK814 := kb BK814 hb; replace HB := am (below_step bw hb); clear hb ho0) | ((with_reducible refine gate_dst (N := 9) rfl ?_); (try (refine gate_guard (by rfl) ?_; dsimp only)); refine bx 9 #[.slice none 0 0] 26 ?_; intro gb826 hg w24 hbox hb; replace HO_7 := rK HO_7 hb; replace HO824 := rK HO824 hb; have BK826 := am (hbox); have GW826 := am (gs hg : w.heap.size ≤ gb826); have GE826 := GW826; replace HB := am (below_step bw hb); have NB810_826 := nl hg BK810; have NB826_810 := ns NB810_826; replace BK810 := kb BK810 hb; have NB814_826 := nl hg BK814; have NB826_814 := ns NB814_826; replace BK814 := kb BK814 hb; clear hb hbox hg; obtain ⟨Ao25, co25, eo25⟩ := Kd.R_slice HO824.out; subst eo25; have hnb26 := NB826_810.out; have hnc26 := NB810_826.out; have hnb27 := NB826_814.out; have hnc27 := NB814_826.out; have hcz28_0 := bc BK826 0 (.slice none 0 0); have hfz28_0 := blk_frozen BK826.out 0; have hnb29 := NB810_814.out; have hnc29 := NB814_810.out; have hcz30_0 := bc BK810 0 (.slice none 0 0); have hfz30_0 := blk_frozen BK810.out 0))
     refine bodyPost_ret (results_ct rfl _ _ gb810 26 #[.slice Ao25 t822.length co25] (0, 0) _ rfl (by (with_reducible repeat (first | refine blk_drewN ?_ _ | refine blk_drew ?_ | refine blk_alloc ?_ _)); refine blk_put (cs := #[.slice none 0 0]) ?_ 0 _ rfl; (with_reducible repeat (first | refine blk_drewN ?_ _ | refine blk_drew ?_ | refine blk_alloc ?_ _)); refine blk_far ?_ NB810_826.out _; (with_reducible repeat (first | refine blk_drewN ?_ _ | refine blk_drew ?_ | refine blk_alloc ?_ _)); exact BK810.out) Try.underlying26 rfl (by kernel_rfl)) rfl ?_
     exact ⟨_, re, by (with_reducible repeat (first | apply Kd.R_alloc | apply Kd.R_drewN | apply Kd.R_drew)); exact Kd.R_mono (Kd.R_far (p := ⟨gb810, 0, none⟩) (Kd.R_far (p := ⟨gb826, 0, none⟩) (Kd.R_types (Kd.R_types HO824.out BK826.out (by decide)) BK810.out (by decide)) (fun _ hk => by first | exact hk.1.2 | simp_all) (.slice Ao25 t822.length co25)) (fun _ hk => hk.2) (.slice Ao25 t822.length co25)) (fun _ hk => trivial), bw⟩


/-! ### impl_CoordinateClash: function 18 -/
mutual
def impl_CoordinateClash.l0 : Nat → List Int → List Int → Int → Int → Option (Int × Int × Bool)
 | 0, _, _, _, _ => none
 | k + 1, x0, x10, x11, x12 => if x12 < x11 then (if 0 ≤ x12 then (if x12 < (x10.length : Int) then ((impl_within.f (rd x10 x12) 1 200).bind fun t829 => (if t829 = true then (impl_CoordinateClash.l0 k x0 x10 x11 (wrap64 (x12 + 1))) else (some (wrap64 (x12 + 1), 0, true)))) else (none)) else (none)) else (impl_CoordinateClash.l1 k x0 (wrap64 ((x0.length : Int) + 1)) 1)
def impl_CoordinateClash.l1 : Nat → List Int → Int → Int → Option (Int × Int × Bool)
 | 0, _, _, _ => none
 | k + 1, x0, x6, x7 => if x7 < x6 then (impl_CoordinateClash.l2 k x0 x6 x7 x7) else (some (0, 0, false))
def impl_CoordinateClash.l2 : Nat → List Int → Int → Int → Int → Option (Int × Int × Bool)
 | 0, _, _, _, _ => none
 | k + 1, x0, x6, x7, x8 => if x8 < x6 then (if 0 ≤ (wrap64 (x7 - 1)) then (if (wrap64 (x7 - 1)) < (x0.length : Int) then (if 0 ≤ (wrap64 (x8 - 1)) then (if (wrap64 (x8 - 1)) < (x0.length : Int) then (if (wrap64 (x7 + x8)) < x6 then (if 0 ≤ (wrap64 ((wrap64 (x7 + x8)) - 1)) then (if (wrap64 ((wrap64 (x7 + x8)) - 1)) < (x0.length : Int) then (if (wrap64 ((rd x0 (wrap64 (x7 - 1))) + (rd x0 (wrap64 (x8 - 1))))) < (rd x0 (wrap64 ((wrap64 (x7 + x8)) - 1))) then (some (x7, x8, true)) else (if (wrap64 (x7 + x8)) > x6 then (if 0 ≤ (wrap64 ((wrap64 ((wrap64 (x7 + x8)) - x6)) - 1)) then (if (wrap64 ((wrap64 ((wrap64 (x7 + x8)) - x6)) - 1)) < (x0.length : Int) then (if (wrap64 ((wrap64 ((rd x0 (wrap64 (x7 - 1))) + (rd x0 (wrap64 (x8 - 1))))) + 1)) < (rd x0 (wrap64 ((wrap64 ((wrap64 (x7 + x8)) - x6)) - 1))) then (some (x7, x8, true)) else (impl_CoordinateClash.l2 k x0 x6 x7 (wrap64 (x8 + 1)))) else (none)) else (none)) else (impl_CoordinateClash.l2 k x0 x6 x7 (wrap64 (x8 + 1))))) else (none)) else (none)) else (if (wrap64 (x7 + x8)) > x6 then (if 0 ≤ (wrap64 ((wrap64 ((wrap64 (x7 + x8)) - x6)) - 1)) then (if (wrap64 ((wrap64 ((wrap64 (x7 + x8)) - x6)) - 1)) < (x0.length : Int) then (if (wrap64 ((wrap64 ((rd x0 (wrap64 (x7 - 1))) + (rd x0 (wrap64 (x8 - 1))))) + 1)) < (rd x0 (wrap64 ((wrap64 ((wrap64 (x7 + x8)) - x6)) - 1))) then (some (x7, x8, true)) else (impl_CoordinateClash.l2 k x0 x6 x7 (wrap64 (x8 + 1)))) else (none)) else (none)) else (impl_CoordinateClash.l2 k x0 x6 x7 (wrap64 (x8 + 1))))) else (none)) else (none)) else (none)) else (none)) else (impl_CoordinateClash.l1 k x0 x6 (wrap64 (x7 + 1)))
end
def impl_CoordinateClash.f (k : Nat) (l0 : List Int) : Option (Int × Int × Bool) := impl_CoordinateClash.l0 k l0 l0 (l0.length : Int) 0
set_option maxHeartbeats 8000000 in
set_option maxRecDepth 100000 in
theorem impl_CoordinateClash.calls (k : Nat) (A0 : Option Addr) (c0 : Nat) (l0 : List Int) (r1 : Int) (r2 : Int) (r3 : Bool) (w : World) (hr0 : Kd.C (Kd.int .i64) w A0 l0.length l0) (hc0 : l0.length ≤ c0) (h : impl_CoordinateClash.f k l0 = some (r1, r2, r3)) :
  Calls Try.prog 18 #[.slice A0 l0.length c0] w fun e w' => e = .returned (.tuple #[.agg #[.int .i64 r1, .int .i64 r2], .bool r3]) ∧ Below w.heap.size w w' := by
 have hu33 := Try.underlying33
 have HR0 := am hr0
 have HC0 := am hc0
 clear hr0 hc0
 have HB := am (Below.refl w.heap.size w)
 have H : (impl_CoordinateClash.l0 k l0 l0 (l0.length : Int) 0) = some (r1, r2, r3) := h
 clear h
 have H' := am H
 clear H
 go_enter Try.func18, Try.ntmps18
 go_wp2_with (first | ((with_reducible refine gate_dst (N := 2) rfl ?_); refine bx 2 #[.int .i64 0, .int .i64 0] 33 ?_; intro gb827 hg w2 hbox hb; have BK827 := am (hbox); have GW827 := am (gs hg : w.heap.size ≤ gb827); have GE827 := GW827; replace HB := am (below_step bw hb); clear hb hbox hg))
 repeat (go_quiet (first | ((with_reducible refine gate_dst (N := 2) rfl ?_); refine bx 2 #[.int .i64 0, .int .i64 0] 33 ?_; intro gb827 hg w2 hbox hb; have n0_ := am (below_step bw hb); have n1_ := am (hbox); have n2_ := am (gs hg : w.heap.size ≤ gb827); have n3_ := am (gs hg : w.heap.size ≤ gb827); clear HB; have HB := n0_; have BK827 := n1_; have GW827 := n2_; have GE827 := n3_; clear n0_ n1_ n2_ n3_; clear hb hbox hg)); try go_wp2_with (first | ((with_reducible refine gate_dst (N := 2) rfl ?_); refine bx 2 #[.int .i64 0, .int .i64 0] 33 ?_; intro gb827 hg w2 hbox hb; have n0_ := am (below_step bw hb); have n1_ := am (hbox); have n2_ := am (gs hg : w.heap.size ≤ gb827); have n3_ := am (gs hg : w.heap.size ≤ gb827); clear HB; have HB := n0_; have BK827 := n1_; have GW827 := n2_; have GE827 := n3_; clear n0_ n1_ n2_ n3_; clear hb hbox hg)))
 go_loopg [12] k (fun kq v12 w' => ∃ (x12_1 : Int) (x828000_1 : Int) (x828001_1 : Int), v12 = .int .i64 x12_1 ∧ Aside0 (impl_CoordinateClash.l0 kq l0 l0 (l0.length : Int) x12_1 = some (r1, r2, r3)) ∧ Aside0 (kq ≤ k) ∧ Aside0 (w'.heap[gb827]? = some (.cells #[.int .i64 x828000_1, .int .i64 x828001_1] 33 (0, 0))) ∧ Aside0 (Below w.heap.size w w'))
 case atStart => exact ⟨(0), (0), (0), rr, H', ⟨Nat.le_refl _⟩, ⟨bo BK827.out⟩, ⟨bw⟩⟩
 case round =>
  clear H'
  obtain ⟨x12_1, x828000_1, x828001_1, rfl, HA, HK1, BK827, HB⟩ := hrel
  cases gk with
  | zero => exact absurd HA.out (by simp [impl_CoordinateClash.l0])
  | succ k1 =>
   have H := HA.out
   clear HA
   simp only [impl_CoordinateClash.l0] at H
   replace H := gi H; obtain ⟨c3b0, H⟩ | ⟨c3b0, H⟩ := H
   ·replace H := gd H; obtain ⟨c4b0, H⟩ := H
    replace H := gd H; obtain ⟨c5b0, H⟩ := H
    replace H := ga H; obtain ⟨t829, A6, H⟩ := H
    replace H := gb H; obtain ⟨rfl, H⟩ | ⟨rfl, H⟩ := H
    ·have H' := am H
     clear H
     obtain ⟨⟨ad828, e828, hx828_0⟩, p828, q828⟩ := pq (Kd.at_int HR0.out x12_1)
     cases e828
     replace hx828_0 := hw HB hx828_0
     go_wp2_with (first | (go_at_call 139; (with_reducible refine (impl_within.calls (rd l0 x12_1) 1 200 true _ A6.out).mono ?_); rintro e w' ⟨rfl, ⟨nd, rfl⟩⟩; (try first | exact ⟨rfl, _, World.drewN_drewN _ _ _⟩ | exact ⟨rfl, _, Eq.trans (World.drewN_drewN _ _ _) (congrArg (World.drewN _) (Nat.add_assoc _ _ _))⟩)))
     repeat (go_quiet (first | (go_at_call 139; (with_reducible refine (impl_within.calls (rd l0 x12_1) 1 200 true _ A6.out).mono ?_); rintro e w' ⟨rfl, ⟨nd, rfl⟩⟩; (try first | exact ⟨rfl, _, World.drewN_drewN _ _ _⟩ | exact ⟨rfl, _, Eq.trans (World.drewN_drewN _ _ _) (congrArg (World.drewN _) (Nat.add_assoc _ _ _))⟩))); try go_wp2_with (first | (go_at_call 139; (with_reducible refine (impl_within.calls (rd l0 x12_1) 1 200 true _ A6.out).mono ?_); rintro e w' ⟨rfl, ⟨nd, rfl⟩⟩; (try first | exact ⟨rfl, _, World.drewN_drewN _ _ _⟩ | exact ⟨rfl, _, Eq.trans (World.drewN_drewN _ _ _) (congrArg (World.drewN _) (Nat.add_assoc _ _ _))⟩))))
     go_roundg k1
     case measure => have := HK1.out; omega
     case rel => exact ⟨(wrap64 (x12_1 + 1)), (x828000_1), (x828001_1), rr, H', ⟨by have := HK1.out; omega⟩, ⟨bo BK827.out⟩, ⟨bw⟩⟩
    simp only [Option.some.injEq, Prod.mk.injEq] at H
    obtain ⟨rfl, rfl, rfl⟩ := H
    obtain ⟨⟨ad828, e828, hx828_0⟩, p828, q828⟩ := pq (Kd.at_int HR0.out x12_1)
    cases e828
    replace hx828_0 := hw HB hx828_0
    go_wp2_with (first | (go_at_call 139; (with_reducible refine (impl_within.calls (rd l0 x12_1) 1 200 false _ A6.out).mono ?_); rintro e w' ⟨rfl, ⟨nd, rfl⟩⟩; (try first | exact ⟨rfl, _, World.drewN_drewN _ _ _⟩ | exact ⟨rfl, _, Eq.trans (World.drewN_drewN _ _ _) (congrArg (World.drewN _) (Nat.add_assoc _ _ _))⟩); have hcz8_0 := bc BK827 0 (.int .i64 x828000_1); have hcz8_1 := bc BK827 1 (.int .i64 x828001_1); have hfz8_0 := blk_frozen BK827.out 0; have hfz8_1 := blk_frozen BK827.out 1))
    repeat (go_quiet (first | (go_at_call 139; (with_reducible refine (impl_within.calls (rd l0 x12_1) 1 200 false _ A6.out).mono ?_); rintro e w' ⟨rfl, ⟨nd, rfl⟩⟩; (try first | exact ⟨rfl, _, World.drewN_drewN _ _ _⟩ | exact ⟨rfl, _, Eq.trans (World.drewN_drewN _ _ _) (congrArg (World.drewN _) (Nat.add_assoc _ _ _))⟩); have hcz8_0 := bc BK827 0 (.int .i64 x828000_1); have hcz8_1 := bc BK827 1 (.int .i64 x828001_1); have hfz8_0 := blk_frozen BK827.out 0; have hfz8_1 := blk_frozen BK827.out 1)); try go_wp2_with (first | (go_at_call 139; (with_reducible refine (impl_within.calls (rd l0 x12_1) 1 200 false _ A6.out).mono ?_); rintro e w' ⟨rfl, ⟨nd, rfl⟩⟩; (try first | exact ⟨rfl, _, World.drewN_drewN _ _ _⟩ | exact ⟨rfl, _, Eq.trans (World.drewN_drewN _ _ _) (congrArg (World.drewN _) (Nat.add_assoc _ _ _))⟩); have hcz8_0 := bc BK827 0 (.int .i64 x828000_1); have hcz8_1 := bc BK827 1 (.int .i64 x828001_1); have hfz8_0 := blk_frozen BK827.out 0; have hfz8_1 := blk_frozen BK827.out 1)))
    refine bodyPost_ret (results_ct rfl _ _ gb827 33 #[.int .i64 (wrap64 (x12_1 + 1)), .int .i64 0] (0, 0) _ rfl (by (with_reducible repeat (first | refine blk_drewN ?_ _ | refine blk_drew ?_ | refine blk_alloc ?_ _)); refine blk_put (cs := #[.int .i64 (wrap64 (x12_1 + 1)), .int .i64 x828001_1]) ?_ 1 _ rfl; (with_reducible repeat (first | refine blk_drewN ?_ _ | refine blk_drew ?_ | refine blk_alloc ?_ _)); refine blk_put (cs := #[.int .i64 x828000_1, .int .i64 x828001_1]) ?_ 0 _ rfl; (with_reducible repeat (first | refine blk_drewN ?_ _ | refine blk_drew ?_ | refine blk_alloc ?_ _)); exact BK827.out) Try.underlying33 rfl (by kernel_rfl)) rfl ?_
    exact ⟨re, bw⟩
   have H' := am H
   clear H
   go_wp2
   repeat (go_quiet (fail); try go_wp2)
   go_loopg [7] k1 (fun kq v7 w' => ∃ (x7_2 : Int) (x828000_2 : Int) (x828001_2 : Int), v7 = .int .i64 x7_2 ∧ Aside0 (impl_CoordinateClash.l1 kq l0 (wrap64 ((l0.length : Int) + 1)) x7_2 = some (r1, r2, r3)) ∧ Aside0 (kq ≤ k1) ∧ Aside0 (w'.heap[gb827]? = some (.cells #[.int .i64 x828000_2, .int .i64 x828001_2] 33 (0, 0))) ∧ Aside0 (Below w.heap.size w w'))
   case atStart => exact ⟨(1), (x828000_1), (x828001_1), rr, H', ⟨Nat.le_refl _⟩, ⟨bo BK827.out⟩, ⟨bw⟩⟩
   case round =>
    clear H'
    try clear c3b0; try clear c4b0; try clear c5b0; try clear hcz8_0; try clear hcz8_1; try clear hfz8_0; try clear hfz8_1; try clear hx828_0; try clear p828; try clear q828
    obtain ⟨x7_2, x828000_2, x828001_2, rfl, HA, HK2, BK827, HB⟩ := hrel
    cases gk with
    | zero => exact absurd HA.out (by simp [impl_CoordinateClash.l1])
    | succ k2 =>
     have H := HA.out
     clear HA
     simp only [impl_CoordinateClash.l1] at H
     replace H := gi H; obtain ⟨c9b0, H⟩ | ⟨c9b0, H⟩ := H
     ·have H' := am H
      clear H
      go_wp2
      repeat (go_quiet (fail); try go_wp2)
      go_loopg [8] k2 (fun kq v8 w' => ∃ (x8_3 : Int) (x828000_3 : Int) (x828001_3 : Int), v8 = .int .i64 x8_3 ∧ Aside0 (impl_CoordinateClash.l2 kq l0 (wrap64 ((l0.length : Int) + 1)) x7_2 x8_3 = some (r1, r2, r3)) ∧ Aside0 (kq ≤ k2) ∧ Aside0 (w'.heap[gb827]? = some (.cells #[.int .i64 x828000_3, .int .i64 x828001_3] 33 (0, 0))) ∧ Aside0 (Below w.heap.size w w'))
      case atStart => exact ⟨(x7_2), (x828000_2), (x828001_2), rr, H', ⟨Nat.le_refl _⟩, ⟨bo BK827.out⟩, ⟨bw⟩⟩
      case round =>
       clear H'
       try clear c3b0; try clear c4b0; try clear c5b0; try clear c9b0; try clear hcz8_0; try clear hcz8_1; try clear hfz8_0; try clear hfz8_1; try clear hx828_0; try clear p828; try clear q828
       obtain ⟨x8_3, x828000_3, x828001_3, rfl, HA, HK3, BK827, HB⟩ := hrel
       cases gk with
       | zero => exact absurd HA.out (by simp [impl_CoordinateClash.l2])
       | succ k3 =>
        have H := HA.out
        clear HA
        simp only [impl_CoordinateClash.l2] at H
        replace H := gi H; obtain ⟨c10b0, H⟩ | ⟨c10b0, H⟩ := H
        ·obtain ⟨ji11, hji11⟩ : ∃ j_ : Int, (wrap64 (x7_2 - 1)) = j_ := ⟨_, rfl⟩
         replace H : (if 0 ≤ (ji11) then (if (ji11) < (l0.length : Int) then (if 0 ≤ (wrap64 (x8_3 - 1)) then (if (wrap64 (x8_3 - 1)) < (l0.length : Int) then (if (wrap64 (x7_2 + x8_3)) < (wrap64 ((l0.length : Int) + 1)) then (if 0 ≤ (wrap64 ((wrap64 (x7_2 + x8_3)) - 1)) then (if (wrap64 ((wrap64 (x7_2 + x8_3)) - 1)) < (l0.length : Int) then (if (wrap64 ((rd l0 (ji11)) + (rd l0 (wrap64 (x8_3 - 1))))) < (rd l0 (wrap64 ((wrap64 (x7_2 + x8_3)) - 1))) then (some (x7_2, x8_3, true)) else (if (wrap64 (x7_2 + x8_3)) > (wrap64 ((l0.length : Int) + 1)) then (if 0 ≤ (wrap64 ((wrap64 ((wrap64 (x7_2 + x8_3)) - (wrap64 ((l0.length : Int) + 1)))) - 1)) then (if (wrap64 ((wrap64 ((wrap64 (x7_2 + x8_3)) - (wrap64 ((l0.length : Int) + 1)))) - 1)) < (l0.length : Int) then (if (wrap64 ((wrap64 ((rd l0 (ji11)) + (rd l0 (wrap64 (x8_3 - 1))))) + 1)) < (rd l0 (wrap64 ((wrap64 ((wrap64 (x7_2 + x8_3)) - (wrap64 ((l0.length : Int) + 1)))) - 1))) then (some (x7_2, x8_3, true)) else (impl_CoordinateClash.l2 k3 l0 (wrap64 ((l0.length : Int) + 1)) x7_2 (wrap64 (x8_3 + 1)))) else (none)) else (none)) else (impl_CoordinateClash.l2 k3 l0 (wrap64 ((l0.length : Int) + 1)) x7_2 (wrap64 (x8_3 + 1))))) else (none)) else (none)) else (if (wrap64 (x7_2 + x8_3)) > (wrap64 ((l0.length : Int) + 1)) then (if 0 ≤ (wrap64 ((wrap64 ((wrap64 (x7_2 + x8_3)) - (wrap64 ((l0.length : Int) + 1)))) - 1)) then (if (wrap64 ((wrap64 ((wrap64 (x7_2 + x8_3)) - (wrap64 ((l0.length : Int) + 1)))) - 1)) < (l0.length : Int) then (if (wrap64 ((wrap64 ((rd l0 (ji11)) + (rd l0 (wrap64 (x8_3 - 1))))) + 1)) < (rd l0 (wrap64 ((wrap64 ((wrap64 (x7_2 + x8_3)) - (wrap64 ((l0.length : Int) + 1)))) - 1))) then (some (x7_2, x8_3, true)) else (impl_CoordinateClash.l2 k3 l0 (wrap64 ((l0.length : Int) + 1)) x7_2 (wrap64 (x8_3 + 1)))) else (none)) else (none)) else (impl_CoordinateClash.l2 k3 l0 (wrap64 ((l0.length : Int) + 1)) x7_2 (wrap64 (x8_3 + 1))))) else (none)) else (none)) else (none)) else (none)) = some (r1, r2, r3) := by first | (rw [hji11] at H; exact H) | (simp only [hji11] at H ⊢; exact H)
         have hji11w : (IntKind.i64.wrap (x7_2 - 1)) = ji11 := (i64_w _).trans hji11
         replace H := gd H; obtain ⟨c12b0, H⟩ := H
         replace H := gd H; obtain ⟨c13b0, H⟩ := H
         obtain ⟨ji14, hji14⟩ : ∃ j_ : Int, (wrap64 (x8_3 - 1)) = j_ := ⟨_, rfl⟩
         replace H : (if 0 ≤ (ji14) then (if (ji14) < (l0.length : Int) then (if (wrap64 (x7_2 + x8_3)) < (wrap64 ((l0.length : Int) + 1)) then (if 0 ≤ (wrap64 ((wrap64 (x7_2 + x8_3)) - 1)) then (if (wrap64 ((wrap64 (x7_2 + x8_3)) - 1)) < (l0.length : Int) then (if (wrap64 ((rd l0 (ji11)) + (rd l0 (ji14)))) < (rd l0 (wrap64 ((wrap64 (x7_2 + x8_3)) - 1))) then (some (x7_2, x8_3, true)) else (if (wrap64 (x7_2 + x8_3)) > (wrap64 ((l0.length : Int) + 1)) then (if 0 ≤ (wrap64 ((wrap64 ((wrap64 (x7_2 + x8_3)) - (wrap64 ((l0.length : Int) + 1)))) - 1)) then (if (wrap64 ((wrap64 ((wrap64 (x7_2 + x8_3)) - (wrap64 ((l0.length : Int) + 1)))) - 1)) < (l0.length : Int) then (if (wrap64 ((wrap64 ((rd l0 (ji11)) + (rd l0 (ji14)))) + 1)) < (rd l0 (wrap64 ((wrap64 ((wrap64 (x7_2 + x8_3)) - (wrap64 ((l0.length : Int) + 1)))) - 1))) then (some (x7_2, x8_3, true)) else (impl_CoordinateClash.l2 k3 l0 (wrap64 ((l0.length : Int) + 1)) x7_2 (wrap64 (x8_3 + 1)))) else (none)) else (none)) else (impl_CoordinateClash.l2 k3 l0 (wrap64 ((l0.length : Int) + 1)) x7_2 (wrap64 (x8_3 + 1))))) else (none)) else (none)) else (if (wrap64 (x7_2 + x8_3)) > (wrap64 ((l0.length : Int) + 1)) then (if 0 ≤ (wrap64 ((wrap64 ((wrap64 (x7_2 + x8_3)) - (wrap64 ((l0.length : Int) + 1)))) - 1)) then (if (wrap64 ((wrap64 ((wrap64 (x7_2 + x8_3)) - (wrap64 ((l0.length : Int) + 1)))) - 1)) < (l0.length : Int) then (if (wrap64 ((wrap64 ((rd l0 (ji11)) + (rd l0 (ji14)))) + 1)) < (rd l0 (wrap64 ((wrap64 ((wrap64 (x7_2 + x8_3)) - (wrap64 ((l0.length : Int) + 1)))) - 1))) then (some (x7_2, x8_3, true)) else (impl_CoordinateClash.l2 k3 l0 (wrap64 ((l0.length : Int) + 1)) x7_2 (wrap64 (x8_3 + 1)))) else (none)) else (none)) else (impl_CoordinateClash.l2 k3 l0 (wrap64 ((l0.length : Int) + 1)) x7_2 (wrap64 (x8_3 + 1))))) else (none)) else (none)) = some (r1, r2, r3) := by first | (rw [hji14] at H; exact H) | (simp only [hji14] at H ⊢; exact H)
         have hji14w : (IntKind.i64.wrap (x8_3 - 1)) = ji14 := (i64_w _).trans hji14
         replace H := gd H; obtain ⟨c15b0, H⟩ := H
         replace H := gd H; obtain ⟨c16b0, H⟩ := H
         replace H := gi H; obtain ⟨c17b0, H⟩ | ⟨c17b0, H⟩ := H
         ·obtain ⟨ji18, hji18⟩ : ∃ j_ : Int, (wrap64 ((wrap64 (x7_2 + x8_3)) - 1)) = j_ := ⟨_, rfl⟩
          replace H : (if 0 ≤ (ji18) then (if (ji18) < (l0.length : Int) then (if (wrap64 ((rd l0 (ji11)) + (rd l0 (ji14)))) < (rd l0 (ji18)) then (some (x7_2, x8_3, true)) else (if (wrap64 (x7_2 + x8_3)) > (wrap64 ((l0.length : Int) + 1)) then (if 0 ≤ (wrap64 ((wrap64 ((wrap64 (x7_2 + x8_3)) - (wrap64 ((l0.length : Int) + 1)))) - 1)) then (if (wrap64 ((wrap64 ((wrap64 (x7_2 + x8_3)) - (wrap64 ((l0.length : Int) + 1)))) - 1)) < (l0.length : Int) then (if (wrap64 ((wrap64 ((rd l0 (ji11)) + (rd l0 (ji14)))) + 1)) < (rd l0 (wrap64 ((wrap64 ((wrap64 (x7_2 + x8_3)) - (wrap64 ((l0.length : Int) + 1)))) - 1))) then (some (x7_2, x8_3, true)) else (impl_CoordinateClash.l2 k3 l0 (wrap64 ((l0.length : Int) + 1)) x7_2 (wrap64 (x8_3 + 1)))) else (none)) else (none)) else (impl_CoordinateClash.l2 k3 l0 (wrap64 ((l0.length : Int) + 1)) x7_2 (wrap64 (x8_3 + 1))))) else (none)) else (none)) = some (r1, r2, r3) := by first | (rw [hji18] at H; exact H) | (simp only [hji18] at H ⊢; exact H)
          have hji18w : (IntKind.i64.wrap ((wrap64 (x7_2 + x8_3)) - 1)) = ji18 := (i64_w _).trans hji18
          replace H := gd H; obtain ⟨c19b0, H⟩ := H
          replace H := gd H; obtain ⟨c20b0, H⟩ := H
          replace H := gi H; obtain ⟨c21b0, H⟩ | ⟨c21b0, H⟩ := H
          ·simp only [Option.some.injEq, Prod.mk.injEq] at H
           obtain ⟨rfl, rfl, rfl⟩ := H
           obtain ⟨⟨ad830, e830, hx830_0⟩, p830, q830⟩ := pq (Kd.at_int HR0.out (ji11))
           cases e830
           replace hx830_0 := hw HB hx830_0
           obtain ⟨⟨ad831, e831, hx831_0⟩, p831, q831⟩ := pq (Kd.at_int HR0.out (ji14))
           obtain rfl : ad830 = ad831 := (by injection e831)
           replace hx831_0 := hw HB hx831_0
           obtain ⟨⟨ad832, e832, hx832_0⟩, p832, q832⟩ := pq (Kd.at_int HR0.out (ji18))
           obtain rfl : ad830 = ad832 := (by injection e832)
           replace hx832_0 := hw HB hx832_0
           have hcz22_0 := bc BK827 0 (.int .i64 x828000_3)
           have hcz22_1 := bc BK827 1 (.int .i64 x828001_3)
           have hfz22_0 := blk_frozen BK827.out 0
           have hfz22_1 := blk_frozen BK827.out 1
           go_wp2
           repeat (go_quiet (fail); try go_wp2)
           refine bodyPost_ret (results_ct rfl _ _ gb827 33 #[.int .i64 x7_2, .int .i64 x8_3] (0, 0) _ rfl (by (with_reducible repeat (first | refine blk_drewN ?_ _ | refine blk_drew ?_ | refine blk_alloc ?_ _)); refine blk_put (cs := #[.int .i64 x7_2, .int .i64 x828001_3]) ?_ 1 _ rfl; (with_reducible repeat (first | refine blk_drewN ?_ _ | refine blk_drew ?_ | refine blk_alloc ?_ _)); refine blk_put (cs := #[.int .i64 x828000_3, .int .i64 x828001_3]) ?_ 0 _ rfl; (with_reducible repeat (first | refine blk_drewN ?_ _ | refine blk_drew ?_ | refine blk_alloc ?_ _)); exact BK827.out) Try.underlying33 rfl (by kernel_rfl)) rfl ?_
           exact ⟨by first | rfl | (simp [errW_none, errW_some] <;> rfl) | (simp only [← hji11, ← hji14, ← hji18]; first | rfl | (simp [errW_none, errW_some] <;> rfl)) | (simp [*, errW_none, errW_some] <;> rfl), bw⟩
          replace H := gj H; obtain ⟨c23, H⟩ | ⟨c23, H⟩ := H
          ·have c23b0 : decide ((wrap64 ((l0.length : Int) + 1)) < (wrap64 (x7_2 + x8_3))) = true := decide_eq_true c23
           clear c23
           obtain ⟨ji24, hji24⟩ : ∃ j_ : Int, (wrap64 ((wrap64 ((wrap64 (x7_2 + x8_3)) - (wrap64 ((l0.length : Int) + 1)))) - 1)) = j_ := ⟨_, rfl⟩
           replace H : (if 0 ≤ (ji24) then (if (ji24) < (l0.length : Int) then (if (wrap64 ((wrap64 ((rd l0 (ji11)) + (rd l0 (ji14)))) + 1)) < (rd l0 (ji24)) then (some (x7_2, x8_3, true)) else (impl_CoordinateClash.l2 k3 l0 (wrap64 ((l0.length : Int) + 1)) x7_2 (wrap64 (x8_3 + 1)))) else (none)) else (none)) = some (r1, r2, r3) := by first | (rw [hji24] at H; exact H) | (simp only [hji24] at H ⊢; exact H)
           have hji24w : (IntKind.i64.wrap ((wrap64 ((wrap64 (x7_2 + x8_3)) - (wrap64 ((l0.length : Int) + 1)))) - 1)) = ji24 := (i64_w _).trans hji24
           replace H := gd H; obtain ⟨c25b0, H⟩ := H
           replace H := gd H; obtain ⟨c26b0, H⟩ := H
           replace H := gi H; obtain ⟨c27b0, H⟩ | ⟨c27b0, H⟩ := H
           ·simp only [Option.some.injEq, Prod.mk.injEq] at H
            obtain ⟨rfl, rfl, rfl⟩ := H
            obtain ⟨⟨ad830, e830, hx830_0⟩, p830, q830⟩ := pq (Kd.at_int HR0.out (ji11))
            cases e830
            replace hx830_0 := hw HB hx830_0
            obtain ⟨⟨ad831, e831, hx831_0⟩, p831, q831⟩ := pq (Kd.at_int HR0.out (ji14))
            obtain rfl : ad830 = ad831 := (by injection e831)
            replace hx831_0 := hw HB hx831_0
            obtain ⟨⟨ad832, e832, hx832_0⟩, p832, q832⟩ := pq (Kd.at_int HR0.out (ji18))
            obtain rfl : ad830 = ad832 := (by injection e832)
            replace hx832_0 := hw HB hx832_0
            obtain ⟨⟨ad833, e833, hx833_0⟩, p833, q833⟩ := pq (Kd.at_int HR0.out (ji24))
            obtain rfl : ad830 = ad833 := (by injection e833)
            replace hx833_0 := hw HB hx833_0
            have hcz28_0 := bc BK827 0 (.int .i64 x828000_3)
            have hcz28_1 := bc BK827 1 (.int .i64 x828001_3)
            have hfz28_0 := blk_frozen BK827.out 0
            have hfz28_1 := blk_frozen BK827.out 1
            go_wp2
            repeat (go_quiet (fail); try go_wp2)
            refine bodyPost_ret (results_ct rfl _ _ gb827 33 #[.int .i64 x7_2, .int .i64 x8_3] (0, 0) _ rfl (by (with_reducible repeat (first | refine blk_drewN ?_ _ | refine blk_drew ?_ | refine blk_alloc ?_ _)); refine blk_put (cs := #[.int .i64 x7_2, .int .i64 x828001_3]) ?_ 1 _ rfl; (with_reducible repeat (first | refine blk_drewN ?_ _ | refine blk_drew ?_ | refine blk_alloc ?_ _)); refine blk_put (cs := #[.int .i64 x828000_3, .int .i64 x828001_3]) ?_ 0 _ rfl; (with_reducible repeat (first | refine blk_drewN ?_ _ | refine blk_drew ?_ | refine blk_alloc ?_ _)); exact BK827.out) Try.underlying33 rfl (by kernel_rfl)) rfl ?_
            exact ⟨by first | rfl | (simp [errW_none, errW_some] <;> rfl) | (simp only [← hji11, ← hji14, ← hji18, ← hji24]; first | rfl | (simp [errW_none, errW_some] <;> rfl)) | (simp [*, errW_none, errW_some] <;> rfl), bw⟩
           have H' := am H
           clear H
           obtain ⟨⟨ad830, e830, hx830_0⟩, p830, q830⟩ := pq (Kd.at_int HR0.out (ji11))
           cases e830
           replace hx830_0 := hw HB hx830_0
           obtain ⟨⟨ad831, e831, hx831_0⟩, p831, q831⟩ := pq (Kd.at_int HR0.out (ji14))
           obtain rfl : ad830 = ad831 := (by injection e831)
           replace hx831_0 := hw HB hx831_0
           obtain ⟨⟨ad832, e832, hx832_0⟩, p832, q832⟩ := pq (Kd.at_int HR0.out (ji18))
           obtain rfl : ad830 = ad832 := (by injection e832)
           replace hx832_0 := hw HB hx832_0
           obtain ⟨⟨ad833, e833, hx833_0⟩, p833, q833⟩ := pq (Kd.at_int HR0.out (ji24))
           obtain rfl : ad830 = ad833 := (by injection e833)
           replace hx833_0 := hw HB hx833_0
           go_wp2
           repeat (go_quiet (fail); try go_wp2)
           go_roundg k3
           case measure => have := HK1.out; have := HK2.out; have := HK3.out; omega
           case rel => exact ⟨(wrap64 (x8_3 + 1)), (x828000_3), (x828001_3), rr, H', ⟨by have := HK1.out; have := HK2.out; have := HK3.out; omega⟩, ⟨bo BK827.out⟩, ⟨bw⟩⟩
          have c23b0 : decide ((wrap64 ((l0.length : Int) + 1)) < (wrap64 (x7_2 + x8_3))) = false := decide_eq_false c23
          clear c23
          have H' := am H
          clear H
          obtain ⟨⟨ad830, e830, hx830_0⟩, p830, q830⟩ := pq (Kd.at_int HR0.out (ji11))
          cases e830
          replace hx830_0 := hw HB hx830_0
          obtain ⟨⟨ad831, e831, hx831_0⟩, p831, q831⟩ := pq (Kd.at_int HR0.out (ji14))
          obtain rfl : ad830 = ad831 := (by injection e831)
          replace hx831_0 := hw HB hx831_0
          obtain ⟨⟨ad832, e832, hx832_0⟩, p832, q832⟩ := pq (Kd.at_int HR0.out (ji18))
          obtain rfl : ad830 = ad832 := (by injection e832)
          replace hx832_0 := hw HB hx832_0
          go_wp2
          repeat (go_quiet (fail); try go_wp2)
          go_roundg k3
          case measure => have := HK1.out; have := HK2.out; have := HK3.out; omega
          case rel => exact ⟨(wrap64 (x8_3 + 1)), (x828000_3), (x828001_3), rr, H', ⟨by have := HK1.out; have := HK2.out; have := HK3.out; omega⟩, ⟨bo BK827.out⟩, ⟨bw⟩⟩
         replace H := gj H; obtain ⟨c29, H⟩ | ⟨c29, H⟩ := H
         ·have c29b0 : decide ((wrap64 ((l0.length : Int) + 1)) < (wrap64 (x7_2 + x8_3))) = true := decide_eq_true c29
          clear c29
          obtain ⟨ji30, hji30⟩ : ∃ j_ : Int, (wrap64 ((wrap64 ((wrap64 (x7_2 + x8_3)) - (wrap64 ((l0.length : Int) + 1)))) - 1)) = j_ := ⟨_, rfl⟩
          replace H : (if 0 ≤ (ji30) then (if (ji30) < (l0.length : Int) then (if (wrap64 ((wrap64 ((rd l0 (ji11)) + (rd l0 (ji14)))) + 1)) < (rd l0 (ji30)) then (some (x7_2, x8_3, true)) else (impl_CoordinateClash.l2 k3 l0 (wrap64 ((l0.length : Int) + 1)) x7_2 (wrap64 (x8_3 + 1)))) else (none)) else (none)) = some (r1, r2, r3) := by first | (rw [hji30] at H; exact H) | (simp only [hji30] at H ⊢; exact H)
          have hji30w : (IntKind.i64.wrap ((wrap64 ((wrap64 (x7_2 + x8_3)) - (wrap64 ((l0.length : Int) + 1)))) - 1)) = ji30 := (i64_w _).trans hji30
          replace H := gd H; obtain ⟨c31b0, H⟩ := H
          replace H := gd H; obtain ⟨c32b0, H⟩ := H
          replace H := gi H; obtain ⟨c33b0, H⟩ | ⟨c33b0, H⟩ := H
          ·simp only [Option.some.injEq, Prod.mk.injEq] at H
           obtain ⟨rfl, rfl, rfl⟩ := H
           obtain ⟨⟨ad830, e830, hx830_0⟩, p830, q830⟩ := pq (Kd.at_int HR0.out (ji11))
           cases e830
           replace hx830_0 := hw HB hx830_0
           obtain ⟨⟨ad831, e831, hx831_0⟩, p831, q831⟩ := pq (Kd.at_int HR0.out (ji14))
           obtain rfl : ad830 = ad831 := (by injection e831)
           replace hx831_0 := hw HB hx831_0
           obtain ⟨⟨ad834, e834, hx834_0⟩, p834, q834⟩ := pq (Kd.at_int HR0.out (ji30))
           obtain rfl : ad830 = ad834 := (by injection e834)
           replace hx834_0 := hw HB hx834_0
           have hcz34_0 := bc BK827 0 (.int .i64 x828000_3)
           have hcz34_1 := bc BK827 1 (.int .i64 x828001_3)
           have hfz34_0 := blk_frozen BK827.out 0
           have hfz34_1 := blk_frozen BK827.out 1
           go_wp2
           repeat (go_quiet (fail); try go_wp2)
           refine bodyPost_ret (results_ct rfl _ _ gb827 33 #[.int .i64 x7_2, .int .i64 x8_3] (0, 0) _ rfl (by (with_reducible repeat (first | refine blk_drewN ?_ _ | refine blk_drew ?_ | refine blk_alloc ?_ _)); refine blk_put (cs := #[.int .i64 x7_2, .int .i64 x828001_3]) ?_ 1 _ rfl; (with_reducible repeat (first | refine blk_drewN ?_ _ | refine blk_drew ?_ | refine blk_alloc ?_ _)); refine blk_put (cs := #[.int .i64 x828000_3, .int .i64 x828001_3]) ?_ 0 _ rfl; (with_reducible repeat (first | refine blk_drewN ?_ _ | refine blk_drew ?_ | refine blk_alloc ?_ _)); exact BK827.out) Try.underlying33 rfl (by kernel_rfl)) rfl ?_
           exact ⟨by first | rfl | (simp [errW_none, errW_some] <;> rfl) | (simp only [← hji11, ← hji14, ← hji30]; first | rfl | (simp [errW_none, errW_some] <;> rfl)) | (simp [*, errW_none, errW_some] <;> rfl), bw⟩
          have H' := am H
          clear H
          obtain ⟨⟨ad830, e830, hx830_0⟩, p830, q830⟩ := pq (Kd.at_int HR0.out (ji11))
          cases e830
          replace hx830_0 := hw HB hx830_0
          obtain ⟨⟨ad831, e831, hx831_0⟩, p831, q831⟩ := pq (Kd.at_int HR0.out (ji14))
          obtain rfl : ad830 = ad831 := (by injection e831)
          replace hx831_0 := hw HB hx831_0
          obtain ⟨⟨ad834, e834, hx834_0⟩, p834, q834⟩ := pq (Kd.at_int HR0.out (ji30))
          obtain rfl : ad830 = ad834 := (by injection e834)
          replace hx834_0 := hw HB hx834_0
          go_wp2
          repeat (go_quiet (fail); try go_wp2)
          go_roundg k3
          case measure => have := HK1.out; have := HK2.out; have := HK3.out; omega
          case rel => exact ⟨(wrap64 (x8_3 + 1)), (x828000_3), (x828001_3), rr, H', ⟨by have := HK1.out; have := HK2.out; have := HK3.out; omega⟩, ⟨bo BK827.out⟩, ⟨bw⟩⟩
         have c29b0 : decide ((wrap64 ((l0.length : Int) + 1)) < (wrap64 (x7_2 + x8_3))) = false := decide_eq_false c29
         clear c29
         have H' := am H
         clear H
         obtain ⟨⟨ad830, e830, hx830_0⟩, p830, q830⟩ := pq (Kd.at_int HR0.out (ji11))
         cases e830
         replace hx830_0 := hw HB hx830_0
         obtain ⟨⟨ad831, e831, hx831_0⟩, p831, q831⟩ := pq (Kd.at_int HR0.out (ji14))
         obtain rfl : ad830 = ad831 := (by injection e831)
         replace hx831_0 := hw HB hx831_0
         go_wp2
         repeat (go_quiet (fail); try go_wp2)
         go_roundg k3
         case measure => have := HK1.out; have := HK2.out; have := HK3.out; omega
         case rel => exact ⟨(wrap64 (x8_3 + 1)), (x828000_3), (x828001_3), rr, H', ⟨by have := HK1.out; have := HK2.out; have := HK3.out; omega⟩, ⟨bo BK827.out⟩, ⟨bw⟩⟩
        have H' := am H
        clear H
        go_wp2
        repeat (go_quiet (fail); try go_wp2)
        go_roundg k3
        case measure => have := HK1.out; have := HK2.out; have := HK3.out; omega
        case rel => exact ⟨(wrap64 (x7_2 + 1)), (x828000_3), (x828001_3), rr, H', ⟨by have := HK1.out; have := HK2.out; have := HK3.out; omega⟩, ⟨bo BK827.out⟩, ⟨bw⟩⟩
     simp only [Option.some.injEq, Prod.mk.injEq] at H
     obtain ⟨rfl, rfl, rfl⟩ := H
     have hcz35_0 := bc BK827 0 (.int .i64 x828000_2)
     have hcz35_1 := bc BK827 1 (.int .i64 x828001_2)
     have hfz35_0 := blk_frozen BK827.out 0
     have hfz35_1 := blk_frozen BK827.out 1
     go_wp2
     repeat (go_quiet (fail); try go_wp2)
     refine bodyPost_ret (results_ct rfl _ _ gb827 33 #[.int .i64 0, .int .i64 0] (0, 0) _ rfl (by (with_reducible repeat (first | refine blk_drewN ?_ _ | refine blk_drew ?_ | refine blk_alloc ?_ _)); refine blk_put (cs := #[.int .i64 0, .int .i64 x828001_2]) ?_ 1 _ rfl; (with_reducible repeat (first | refine blk_drewN ?_ _ | refine blk_drew ?_ | refine blk_alloc ?_ _)); refine blk_put (cs := #[.int .i64 x828000_2, .int .i64 x828001_2]) ?_ 0 _ rfl; (with_reducible repeat (first | refine blk_drewN ?_ _ | refine blk_drew ?_ | refine blk_alloc ?_ _)); exact BK827.out) Try.underlying33 rfl (by kernel_rfl)) rfl ?_
     exact ⟨re, bw⟩


/-! ### laws_sameInts: function 20 -/
def laws_sameInts.l0 : Nat → List Int → List Int → Int → Option (Bool)
 | 0, _, _, _ => none
 | k + 1, x0, x1, x5 => if x5 < (x0.length : Int) then (if 0 ≤ x5 then (if x5 < (x1.length : Int) then (if (rd x0 x5) = (rd x1 x5) then (laws_sameInts.l0 k x0 x1 (wrap64 (x5 + 1))) else (some false)) else (none)) else (none)) else (some true)
def laws_sameInts.f (k : Nat) (l0 : List Int) (l1 : List Int) : Option (Bool) := if (l0.length : Int) = (l1.length : Int) then (laws_sameInts.l0 k l0 l1 0) else (some false)
set_option maxHeartbeats 8000000 in
set_option maxRecDepth 100000 in
theorem laws_sameInts.calls (k : Nat) (A0 : Option Addr) (c0 : Nat) (l0 : List Int) (A1 : Option Addr) (c1 : Nat) (l1 : List Int) (r : Bool) (w : World) (hr0 : Kd.C (Kd.int .i64) w A0 l0.length l0) (hc0 : l0.length ≤ c0) (hr1 : Kd.C (Kd.int .i64) w A1 l1.length l1) (hc1 : l1.length ≤ c1) (h : laws_sameInts.f k l0 l1 = some r) :
  Calls Try.prog 20 #[.slice A0 l0.length c0, .slice A1 l1.length c1] w fun e w' => e = .returned (.bool r) ∧ Drawn0 w w' := by
 have HR0 := am hr0
 have HC0 := am hc0
 clear hr0 hc0
 have HR1 := am hr1
 have HC1 := am hc1
 clear hr1 hc1
 have H : (if (l0.length : Int) = (l1.length : Int) then (laws_sameInts.l0 k l0 l1 0) else (some false)) = some r := h
 clear h
 by_cases c3 : (l0.length : Int) = (l1.length : Int)
 ·rw [if_pos c3] at H
  have c3b0 : ((l0.length : Int) == (l1.length : Int)) = true := beq_iff_eq.mpr c3
  have c3b1 : ((l0.length : Int) != (l1.length : Int)) = false := bne_eq_false_iff_eq.mpr c3
  have c3b2 : (l0.length == l1.length) = true := by first | simpa using c3 | (simp at c3 ⊢; omega)
  clear c3
  have H' := am H
  clear H
  go_enter Try.func20, Try.ntmps20
  go_wp2
  repeat (go_quiet (fail); try go_wp2)
  go_loopg [5] k (fun kq v5 w' => ∃ (x5_1 : Int), v5 = .int .i64 x5_1 ∧ Aside0 (laws_sameInts.l0 kq l0 l1 x5_1 = some r) ∧ Aside0 (kq ≤ k) ∧ Drawn0 w w')
  case atStart => exact ⟨(0), rr, H', ⟨Nat.le_refl _⟩, dw⟩
  case round =>
   clear H'
   try clear c1; try clear c3; try clear c3b0; try clear c3b1; try clear c3b2
   obtain ⟨x5_1, rfl, HA, HK1, ⟨m1, rfl⟩⟩ := hrel
   cases gk with
   | zero => exact absurd HA.out (by simp [laws_sameInts.l0])
   | succ k1 =>
    have H := HA.out
    clear HA
    simp only [laws_sameInts.l0] at H
    replace H := gi H; obtain ⟨c4b0, H⟩ | ⟨c4b0, H⟩ := H
    ·replace H := gd H; obtain ⟨c5b0, H⟩ := H
     replace H := gd H; obtain ⟨c6b0, H⟩ := H
     by_cases c7 : (rd l0 x5_1) = (rd l1 x5_1)
     ·rw [if_pos c7] at H
      have c7b0 : ((rd l0 x5_1) == (rd l1 x5_1)) = true := beq_iff_eq.mpr c7
      have c7b1 : ((rd l0 x5_1) != (rd l1 x5_1)) = false := bne_eq_false_iff_eq.mpr c7
      clear c7
      have H' := am H
      clear H
      obtain ⟨⟨ad835, e835, hx835_0⟩, p835, q835⟩ := pq (Kd.at_int HR0.out x5_1)
      cases e835
      obtain ⟨⟨ad836, e836, hx836_0⟩, p836, q836⟩ := pq (Kd.at_int HR1.out x5_1)
      cases e836
      go_wp2
      repeat (go_quiet (fail); try go_wp2)
      go_roundg k1
      case measure => have := HK1.out; omega
      case rel => exact ⟨(wrap64 (x5_1 + 1)), rr, H', ⟨by have := HK1.out; omega⟩, dw⟩
     rw [if_neg c7] at H
     have c7b0 : ((rd l0 x5_1) == (rd l1 x5_1)) = false := beq_eq_false_iff_ne.mpr c7
     have c7b1 : ((rd l0 x5_1) != (rd l1 x5_1)) = true := bne_iff_ne.mpr c7
     obtain rfl := Option.some.inj H
     obtain ⟨⟨ad835, e835, hx835_0⟩, p835, q835⟩ := pq (Kd.at_int HR0.out x5_1)
     cases e835
     obtain ⟨⟨ad836, e836, hx836_0⟩, p836, q836⟩ := pq (Kd.at_int HR1.out x5_1)
     cases e836
     go_wp2
     repeat (go_quiet (fail); try go_wp2)
     go_ret
     exact ⟨rr, dw⟩
    obtain rfl := Option.some.inj H
    go_wp2
    repeat (go_quiet (fail); try go_wp2)
    go_ret
    exact ⟨rr, dw⟩
 rw [if_neg c3] at H
 have c3b0 : ((l0.length : Int) == (l1.length : Int)) = false := beq_eq_false_iff_ne.mpr c3
 have c3b1 : ((l0.length : Int) != (l1.length : Int)) = true := bne_iff_ne.mpr c3
 have c3b2 : (l0.length == l1.length) = false := by first | simpa using c3 | (simp at c3 ⊢; omega)
 obtain rfl := Option.some.inj H
 go_enter Try.func20, Try.ntmps20
 go_wp2
 repeat (go_quiet (fail); try go_wp2)
 go_ret
 exact ⟨rr, dw⟩


/-! ### spec_EqualSemigroup: function 22 -/
def spec_EqualSemigroup.f (k : Nat) (l0_0 : List Int) (l1_0 : List Int) : Option (Bool) := (spec_l2Same.f k l0_0 l1_0).bind fun t839 => (some t839)
set_option maxHeartbeats 8000000 in
set_option maxRecDepth 100000 in
theorem spec_EqualSemigroup.calls (k : Nat) (A0_0 : Option Addr) (c0_0 : Nat) (l0_0 : List Int) (A1_0 : Option Addr) (c1_0 : Nat) (l1_0 : List Int) (r : Bool) (w : World) (hr0_0 : Kd.C (Kd.int .i64) w A0_0 l0_0.length l0_0) (hc0_0 : l0_0.length ≤ c0_0) (hr1_0 : Kd.C (Kd.int .i64) w A1_0 l1_0.length l1_0) (hc1_0 : l1_0.length ≤ c1_0) (h : spec_EqualSemigroup.f k l0_0 l1_0 = some r) :
  Calls Try.prog 22 #[.agg #[.slice A0_0 l0_0.length c0_0], .agg #[.slice A1_0 l1_0.length c1_0]] w fun e w' => e = .returned (.bool r) ∧ Below w.heap.size w w' := by
 have hu26 := Try.underlying26
 have HR0_0 := am hr0_0
 have HC0_0 := am hc0_0
 clear hr0_0 hc0_0
 have HR1_0 := am hr1_0
 have HC1_0 := am hc1_0
 clear hr1_0 hc1_0
 have HB := am (Below.refl w.heap.size w)
 have H : ((spec_l2Same.f k l0_0 l1_0).bind fun t839 => (some t839)) = some r := h
 clear h
 replace H := ga H; obtain ⟨t839, A3, H⟩ := H
 obtain rfl := Option.some.inj H
 go_enter Try.func22, Try.ntmps22
 go_wp2_with (first | ((with_reducible refine gate_dst (N := 2) rfl ?_); refine bx 2 #[.slice A0_0 l0_0.length c0_0] 26 ?_; intro gb837 hg w4 hbox hb; have BK837 := am (hbox); have GW837 := am (gs hg : w.heap.size ≤ gb837); have GE837 := GW837; replace HB := am (below_step bw hb); clear hb hbox hg) | ((with_reducible refine gate_dst (N := 3) rfl ?_); refine bx 3 #[.slice A1_0 l1_0.length c1_0] 26 ?_; intro gb838 hg w5 hbox hb; have BK838 := am (hbox); have GW838 := am (gs hg : w.heap.size ≤ gb838); have GE838 := GW838; replace HB := am (below_step bw hb); have NB837_838 := nl hg BK837; have NB838_837 := ns NB837_838; replace BK837 := kb BK837 hb; clear hb hbox hg; have hnb6 := NB837_838.out; have hnc6 := NB838_837.out; have hcz7_0 := bc BK837 0 (.slice A0_0 l0_0.length c0_0); have hfz7_0 := blk_frozen BK837.out 0; have hcz8_0 := bc BK838 0 (.slice A1_0 l1_0.length c1_0); have hfz8_0 := blk_frozen BK838.out 0) | ((with_reducible refine gate_callee (f := 143) rfl ?_); refine gl (some 9) Try.func143 #[.slice A0_0 l0_0.length c0_0, .slice A1_0 l1_0.length c1_0] ?_; (with_reducible refine (spec_l2Same.calls k _ _ l0_0 _ _ l1_0 t839 _ ?side1 ?side2 ?side3 ?side4 A3.out).mono ?_); (case side1 => exact co (Kd.C_below HR0_0.out HB.out)); (case side2 => exact HC0_0.out); (case side3 => exact co (Kd.C_below HR1_0.out HB.out)); (case side4 => exact HC1_0.out); rintro e w' ⟨rfl, ⟨nd, rfl⟩⟩; refine ⟨_, rfl, ?_⟩))
 go_ret
 exact ⟨re, bw⟩


/-! ### laws_total: function 24 -/
def laws_total.l0 : Nat → List Int → Int → Int → Option (Int)
 | 0, _, _, _ => none
 | k + 1, x0, x3, x4 => if x4 < (x0.length : Int) then (if 0 ≤ x4 then (laws_total.l0 k x0 (wrap64 (x3 + (rd x0 x4))) (wrap64 (x4 + 1))) else (none)) else (some x3)
def laws_total.f (k : Nat) (l0 : List Int) : Option (Int) := laws_total.l0 k l0 0 0
set_option maxHeartbeats 8000000 in
set_option maxRecDepth 100000 in
theorem laws_total.calls (k : Nat) (A0 : Option Addr) (c0 : Nat) (l0 : List Int) (r : Int) (w : World) (hr0 : Kd.C (Kd.int .i64) w A0 l0.length l0) (hc0 : l0.length ≤ c0) (h : laws_total.f k l0 = some r) :
  Calls Try.prog 24 #[.slice A0 l0.length c0] w fun e w' => e = .returned (.int .i64 r) ∧ Drawn0 w w' := by
 have HR0 := am hr0
 have HC0 := am hc0
 clear hr0 hc0
 have H : (laws_total.l0 k l0 0 0) = some r := h
 clear h
 have H' := am H
 clear H
 go_enter Try.func24, Try.ntmps24
 go_wp2
 go_loopg [3, 4] k (fun kq v3 v4 w' => ∃ (x3_1 : Int) (x4_1 : Int), v3 = .int .i64 x3_1 ∧ v4 = .int .i64 x4_1 ∧ Aside0 (laws_total.l0 kq l0 x3_1 x4_1 = some r) ∧ Aside0 (kq ≤ k) ∧ Drawn0 w w')
 case atStart => exact ⟨(0), (0), rr, rr, H', ⟨Nat.le_refl _⟩, dw⟩
 case round =>
  clear H'
  obtain ⟨x3_1, x4_1, rfl, rfl, HA, HK1, ⟨m1, rfl⟩⟩ := hrel
  cases gk with
  | zero => exact absurd HA.out (by simp [laws_total.l0])
  | succ k1 =>
   have H := HA.out
   clear HA
   simp only [laws_total.l0] at H
   replace H := gi H; obtain ⟨c2b0, H⟩ | ⟨c2b0, H⟩ := H
   ·replace H := gd H; obtain ⟨c3b0, H⟩ := H
    have H' := am H
    clear H
    obtain ⟨⟨ad840, e840, hx840_0⟩, p840, q840⟩ := pq (Kd.at_int HR0.out x4_1)
    cases e840
    go_wp2
    go_roundg k1
    case measure => have := HK1.out; omega
    case rel => exact ⟨(wrap64 (x3_1 + (rd l0 x4_1))), (wrap64 (x4_1 + 1)), rr, rr, H', ⟨by have := HK1.out; omega⟩, dw⟩
   obtain rfl := Option.some.inj H
   go_wp2
   go_ret
   exact ⟨rr, dw⟩


/-! ### spec_l4Gaps: function 149 -/
def spec_l4Gaps.l0 : Nat → List Int → List Bool → Int → Option (List Int)
 | 0, _, _, _ => none
 | k + 1, x3, x4, x5 => if x5 < 200 then (if 0 ≤ x5 then (if x5 < (x4.length : Int) then (if rdOf false x4 x5 = true then (spec_l4Gaps.l0 k x3 x4 (wrap64 (x5 + 1))) else (if x3.length < 17592186044416 then (spec_l4Gaps.l0 k (x3 ++ [x5]) x4 (wrap64 (x5 + 1))) else (none))) else (none)) else (none)) else (some x3)
def spec_l4Gaps.f (k : Nat) (l0_0 : List Int) : Option (List Int) := (spec_l3Table.f k l0_0 200).bind fun t845 => (spec_l4Gaps.l0 k (([] : List Int)) t845 1)
set_option maxHeartbeats 8000000 in
set_option maxRecDepth 100000 in
theorem spec_l4Gaps.calls (k : Nat) (A0_0 : Option Addr) (c0_0 : Nat) (l0_0 : List Int) (r : List Int) (w : World) (hr0_0 : Kd.C (Kd.int .i64) w A0_0 l0_0.length l0_0) (hc0_0 : l0_0.length ≤ c0_0) (h : spec_l4Gaps.f k l0_0 = some r) :
  Calls Try.prog 149 #[.agg #[.slice A0_0 l0_0.length c0_0]] w fun e w' => ∃ v0_ : Value, e = .returned (v0_) ∧ Kd.R (Kd.int .i64) 3 w' w.heap.size (fun _ => True) v0_ r ∧ Below w.heap.size w w' := by
 have hu26 := Try.underlying26
 have HR0_0 := am hr0_0
 have HC0_0 := am hc0_0
 clear hr0_0 hc0_0
 have HB := am (Below.refl w.heap.size w)
 have H : ((spec_l3Table.f k l0_0 200).bind fun t845 => (spec_l4Gaps.l0 k (([] : List Int)) t845 1)) = some r := h
 clear h
 obtain ⟨y842, hy842⟩ : ∃ y_ : List Int, y_ = (([] : List Int)) := ⟨_, rfl⟩
 replace H : ((spec_l3Table.f k l0_0 200).bind fun t845 => (spec_l4Gaps.l0 k y842 t845 1)) = some r := by first | (rw [hy842]; with_reducible first | exact H | exact bs H) | (with_reducible first | exact bs H | exact H) | (rw [hy842]; exact H) | exact H
 have Ny842 := am hy842
 clear hy842
 replace H := ga H; obtain ⟨t845, A2, H⟩ := H
 have H' := am H
 clear H
 go_enter Try.func149, Try.ntmps149
 go_wp2_with (first | ((with_reducible refine gate_dst (N := 1) rfl ?_); refine bx 1 #[.slice A0_0 l0_0.length c0_0] 26 ?_; intro gb841 hg w3 hbox hb; have BK841 := am (hbox); have GW841 := am (gs hg : w.heap.size ≤ gb841); have GE841 := GW841; replace HB := am (below_step bw hb); clear hb hbox hg) | ((with_reducible refine gate_dst (N := 6) rfl ?_); refine Kd.R_lit (Kd.int .i64) _ 3 ?hg (N := 6) ?hd (xs := ([] : List Int)) (inner := []) (ok := fun _ => True) (okp := fun _ => True) ?hr ?hp (fun _ hk => hk) trivial (Below.refl _ _) (Nat.le_refl _) (by simp) ?_; (case hd => rfl); (case hg => rfl); (case hr => first | (go_simp; done) | (go_simp; rfl)); (case hp => exact (Reps.none _ _)); intro v843 w4 ho5 hb hg_ hnew_; clear hg_ hnew_; (first | rw [← Ny842.out] at ho5 | (simp only [Int.reduceToNat] at ho5; rw [← Ny842.out] at ho5)); have HO844 := am (Kd.R_lower ho5 (below_size bw)); replace BK841 := kb BK841 hb; replace HB := am (below_step bw hb); clear hb ho5; have hcz6_0 := bc BK841 0 (.slice A0_0 l0_0.length c0_0); have hfz6_0 := blk_frozen BK841.out 0) | ((with_reducible refine gate_callee (f := 215) rfl ?_); refine gl (some 9) Try.func215 #[.slice A0_0 l0_0.length c0_0, .int .i64 200] ?_; (with_reducible refine (spec_l3Table.calls k _ _ l0_0 200 t845 _ ?side1 ?side2 A2.out).mono ?_); (case side1 => exact co (Kd.C_below HR0_0.out HB.out)); (case side2 => exact HC0_0.out); rintro e w7 ⟨v846, rfl, ho0, hb⟩; refine ⟨_, rfl, ?_⟩; replace HO844 := rK HO844 hb; have HO847 := am (Kd.R_lower ho0 (below_size bw)); replace BK841 := kb BK841 hb; replace HB := am (below_step bw hb); clear hb ho0))
 go_loopg [3, 5] k (fun kq v3 v5 w' => ∃ (x3_1 : List Int) (x5_1 : Int), v5 = .int .i64 x5_1 ∧ Aside0 (spec_l4Gaps.l0 kq x3_1 t845 x5_1 = some r) ∧ Aside0 (kq ≤ k) ∧ Aside0 (Kd.R (Kd.int .i64) 3 w' w.heap.size (fun _ => True) v3 x3_1) ∧ Aside0 (Kd.R Kd.bool 4 w' w.heap.size (fun _ => True) v846 t845) ∧ Aside0 (w'.heap[gb841]? = some (.cells #[(.slice A0_0 l0_0.length c0_0)] 26 (0, 0))) ∧ Aside0 (Below w.heap.size w w'))
 case atStart => exact ⟨(y842), (1), rr, H', ⟨Nat.le_refl _⟩, ⟨ro HO844.out⟩, ⟨ro HO847.out⟩, ⟨bo BK841.out⟩, ⟨bw⟩⟩
 case round =>
  clear H'
  try clear hcz6_0; try clear hfz6_0
  obtain ⟨x3_1, x5_1, rfl, HA, HK1, HO_3, HO_4, BK841, HB⟩ := hrel
  cases gk with
  | zero => exact absurd HA.out (by simp [spec_l4Gaps.l0])
  | succ k1 =>
   have H := HA.out
   clear HA
   simp only [spec_l4Gaps.l0] at H
   replace H := gi H; obtain ⟨c8b0, H⟩ | ⟨c8b0, H⟩ := H
   ·replace H := gd H; obtain ⟨c9b0, H⟩ := H
    replace H := gd H; obtain ⟨c10b0, H⟩ := H
    obtain ⟨bq11, hbq11⟩ : ∃ b_ : Bool, b_ = (rdOf false t845 x5_1) := ⟨_, rfl⟩
    replace H : (if bq11 = true then (spec_l4Gaps.l0 k1 x3_1 t845 (wrap64 (x5_1 + 1))) else (if x3_1.length < 17592186044416 then (spec_l4Gaps.l0 k1 (x3_1 ++ [x5_1]) t845 (wrap64 (x5_1 + 1))) else (none))) = some r := by rw [← hbq11] at H; exact H
    have Nbq11 := am hbq11
    clear hbq11
    replace H := gb H; obtain ⟨rfl, H⟩ | ⟨rfl, H⟩ := H
    ·have H' := am H
     clear H
     obtain ⟨Ao13, co13, eo13⟩ := Kd.R_slice HO_4.out
     subst eo13
     obtain ⟨⟨ad848, e848, hx848_0⟩, p848, q848⟩ := pq (Kd.at_bool (Kd.R_reads' HO_4.out).2.2 x5_1)
     (try rw [← Nbq11.out] at hx848_0)
     cases e848
     go_wp2
     go_roundg k1
     case measure => have := HK1.out; omega
     case rel => exact ⟨(x3_1), (wrap64 (x5_1 + 1)), rr, H', ⟨by have := HK1.out; omega⟩, ⟨ro HO_3.out⟩, ⟨ro HO_4.out⟩, ⟨bo BK841.out⟩, ⟨bw⟩⟩
    by_cases c14 : x3_1.length < 17592186044416
    rotate_left
    ·rw [if_neg c14] at H
     exact absurd H (by simp)
    rw [if_pos c14] at H
    have LMc14 := am c14
    clear c14
    obtain ⟨y849, hy849⟩ : ∃ y_ : List Int, y_ = (x3_1 ++ [x5_1]) := ⟨_, rfl⟩
    replace H : (spec_l4Gaps.l0 k1 y849 t845 (wrap64 (x5_1 + 1))) = some r := by first | (rw [hy849]; with_reducible first | exact H | exact bs H) | (with_reducible first | exact bs H | exact H) | (rw [hy849]; exact H) | exact H
    have Ny849 := am hy849
    clear hy849
    have H' := am H
    clear H
    obtain ⟨Ao15, co15, eo15⟩ := Kd.R_slice HO_4.out
    subst eo15
    obtain ⟨⟨ad848, e848, hx848_0⟩, p848, q848⟩ := pq (Kd.at_bool (Kd.R_reads' HO_4.out).2.2 x5_1)
    (try rw [← Nbq11.out] at hx848_0)
    cases e848
    go_wp2_with (first | ((with_reducible refine gate_builtin (b := .append) (xs := #[.tmp 19, .tmp 21]) rfl ?_); at_builtin; refine Kd.R_append (Kd.int .i64) (w0 := w) w.heap.size rfl (.tmp 19) (.tmp 21) 24 3 (.int .i64 0) 8 rfl Try.underlying24 info3 rfl (by decide) (by omega) u3 x3_1 x5_1 [.int .i64 x5_1] (fun _ => True) (fun _ => False) rfl rfl ?aP (fun _ hk => hk.elim) ?aF ?aO ?aB ?aS ?aL ?_; (case aP => exact rfl); (case aB => exact bw); (case aF => exact (fun _ _ => trivial)); (case aO => exact (ro HO_3.out)); (case aS => exact (below_size bw)); (case aL => have := LMc14.out; omega); intro v850 w16 ho hb hg hat; rw [← Ny849.out] at ho; replace HO_4 := am (Kd.R_over' (ro HO_4.out) (Kd.R_typed (ro HO_3.out)) (by decide) hg); replace BK841 := am (blk_grown (g := gb841) (o := .cells #[.slice A0_0 l0_0.length c0_0] 26 (0, 0)) (bo BK841.out) hg (Kd.R_ne HO_3.out BK841.out (by decide))); replace HB := am (hb); have HO851 := am (ho); clear HO_3 ho hb hg hat))
    go_roundg k1
    case measure => have := HK1.out; omega
    case rel => exact ⟨(y849), (wrap64 (x5_1 + 1)), rr, H', ⟨by have := HK1.out; omega⟩, ⟨ro HO851.out⟩, ⟨ro HO_4.out⟩, ⟨bo BK841.out⟩, ⟨bw⟩⟩
   obtain rfl := Option.some.inj H
   go_wp2
   go_ret
   exact ⟨_, re, ro HO_3.out, bw⟩


/-! ### spec_GenusOf: function 25 -/
def spec_GenusOf.f (k : Nat) (l0_0 : List Int) : Option (Int) := (spec_IsSemigroup.f k l0_0).bind fun t853 => (if t853 = true then ((spec_l4Gaps.f k l0_0).bind fun t854 => (some (t854.length : Int))) else (some (-1)))
set_option maxHeartbeats 8000000 in
set_option maxRecDepth 100000 in
theorem spec_GenusOf.calls (k : Nat) (A0_0 : Option Addr) (c0_0 : Nat) (l0_0 : List Int) (r : Int) (w : World) (hr0_0 : Kd.C (Kd.int .i64) w A0_0 l0_0.length l0_0) (hc0_0 : l0_0.length ≤ c0_0) (h : spec_GenusOf.f k l0_0 = some r) :
  Calls Try.prog 25 #[.agg #[.slice A0_0 l0_0.length c0_0]] w fun e w' => e = .returned (.int .i64 r) ∧ Below w.heap.size w w' := by
 have hu26 := Try.underlying26
 have HR0_0 := am hr0_0
 have HC0_0 := am hc0_0
 clear hr0_0 hc0_0
 have HB := am (Below.refl w.heap.size w)
 have H : ((spec_IsSemigroup.f k l0_0).bind fun t853 => (if t853 = true then ((spec_l4Gaps.f k l0_0).bind fun t854 => (some (t854.length : Int))) else (some (-1)))) = some r := h
 clear h
 replace H := ga H; obtain ⟨t853, A2, H⟩ := H
 replace H := gb H; obtain ⟨rfl, H⟩ | ⟨rfl, H⟩ := H
 ·replace H := ga H; obtain ⟨t854, A4, H⟩ := H
  obtain rfl := Option.some.inj H
  go_enter Try.func25, Try.ntmps25
  go_wp2_with (first | ((with_reducible refine gate_dst (N := 1) rfl ?_); refine bx 1 #[.slice A0_0 l0_0.length c0_0] 26 ?_; intro gb852 hg w5 hbox hb; have BK852 := am (hbox); have GW852 := am (gs hg : w.heap.size ≤ gb852); have GE852 := GW852; replace HB := am (below_step bw hb); clear hb hbox hg; have hcz6_0 := bc BK852 0 (.slice A0_0 l0_0.length c0_0); have hfz6_0 := blk_frozen BK852.out 0) | ((with_reducible refine gate_callee (f := 23) rfl ?_); refine gl (some 4) Try.func23 #[.agg #[.slice A0_0 l0_0.length c0_0]] ?_; (with_reducible refine (spec_IsSemigroup.calls k _ _ l0_0 true _ ?side1 ?side2 A2.out).mono ?_); (case side1 => exact co (Kd.C_below HR0_0.out HB.out)); (case side2 => exact HC0_0.out); rintro e w7 ⟨rfl, hb⟩; refine ⟨_, rfl, ?_⟩; replace BK852 := kb BK852 hb; replace HB := am (below_step bw hb); clear hb; have hcz8_0 := bc BK852 0 (.slice A0_0 l0_0.length c0_0); have hfz8_0 := blk_frozen BK852.out 0) | ((with_reducible refine gate_callee (f := 149) rfl ?_); refine gl (some 7) Try.func149 #[.agg #[.slice A0_0 l0_0.length c0_0]] ?_; (with_reducible refine (spec_l4Gaps.calls k _ _ l0_0 t854 _ ?side1 ?side2 A4.out).mono ?_); (case side1 => exact co (Kd.C_below HR0_0.out HB.out)); (case side2 => exact HC0_0.out); rintro e w9 ⟨v855, rfl, ho0, hb⟩; refine ⟨_, rfl, ?_⟩; have HO856 := am (Kd.R_lower ho0 (below_size bw)); replace BK852 := kb BK852 hb; replace HB := am (below_step bw hb); clear hb ho0; obtain ⟨Ao10, co10, eo10⟩ := Kd.R_slice HO856.out; subst eo10))
  go_ret
  exact ⟨re, bw⟩
 obtain rfl := Option.some.inj H
 go_enter Try.func25, Try.ntmps25
 go_wp2_with (first | ((with_reducible refine gate_dst (N := 1) rfl ?_); refine bx 1 #[.slice A0_0 l0_0.length c0_0] 26 ?_; intro gb852 hg w11 hbox hb; have BK852 := am (hbox); have GW852 := am (gs hg : w.heap.size ≤ gb852); have GE852 := GW852; replace HB := am (below_step bw hb); clear hb hbox hg; have hcz12_0 := bc BK852 0 (.slice A0_0 l0_0.length c0_0); have hfz12_0 := blk_frozen BK852.out 0) | ((with_reducible refine gate_callee (f := 23) rfl ?_); refine gl (some 4) Try.func23 #[.agg #[.slice A0_0 l0_0.length c0_0]] ?_; (with_reducible refine (spec_IsSemigroup.calls k _ _ l0_0 false _ ?side1 ?side2 A2.out).mono ?_); (case side1 => exact co (Kd.C_below HR0_0.out HB.out)); (case side2 => exact HC0_0.out); rintro e w13 ⟨rfl, hb⟩; refine ⟨_, rfl, ?_⟩; replace BK852 := kb BK852 hb; replace HB := am (below_step bw hb); clear hb))
 go_ret
 exact ⟨re, bw⟩

end Go.Proofs.Ytkfplkdchkmgbaa.C
