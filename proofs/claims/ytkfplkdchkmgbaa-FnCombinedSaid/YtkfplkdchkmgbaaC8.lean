/- Contracts of functions of the program: impl_FromGens. -/
import Derived.Test.YtkfplkdchkmgbaaC0
import Derived.Test.YtkfplkdchkmgbaaC1
import Derived.Test.YtkfplkdchkmgbaaC6
namespace Go.Proofs.Ytkfplkdchkmgbaa.C
open Go.RowKit Go.Proofs.YtkfplkdchkmgbaaW.PrintWords Go.Proofs.YtkfplkdchkmgbaaW.PrintLast Go.Proofs.YtkfplkdchkmgbaaW.PrintMore
attribute [local go_sem] max2_int min2_int max_two min_two max_three min_three max_four min_four
set_option linter.unusedVariables false
set_option linter.unusedSimpArgs false

/-! ### impl_FromGens: function 92 -/
def impl_FromGens.l0 : Nat → List Int → Int → Int → List Int → Option (List Int × Bool)
 | 0, _, _, _, _ => none
 | k + 1, x13, x14, x15, x727000 => if x15 < x14 then (if 0 ≤ x15 then (if x15 < (x13.length : Int) then (if (x727000.length : Int) = 0 then (if x727000.length < 17592186044416 then (impl_FromGens.l0 k x13 x14 (wrap64 (x15 + 1)) (x727000 ++ [rd x13 x15])) else (none)) else ((impl_Generates.f k x727000 (rd x13 x15)).bind fun t734 => (if t734 = true then (impl_FromGens.l0 k x13 x14 (wrap64 (x15 + 1)) x727000) else (if x727000.length < 17592186044416 then (impl_FromGens.l0 k x13 x14 (wrap64 (x15 + 1)) (x727000 ++ [rd x13 x15])) else (none))))) else (none)) else (none)) else ((impl_IsSemigroup.f k x727000).bind fun t738 => (if t738 = true then (some (x727000, true)) else (some (([] : List Int), false))))
def impl_FromGens.f (k : Nat) (l0 : List Int) : Option (List Int × Bool) := (impl_usable.f k l0).bind fun t725 => (if t725 = true then ((impl_SortList.f l0).bind fun t727 => (impl_FromGens.l0 k t727 (t727.length : Int) 0 ([] : List Int))) else (some (([] : List Int), false)))
set_option maxHeartbeats 8000000 in
set_option maxRecDepth 100000 in
theorem impl_FromGens.calls (k : Nat) (A0 : Option Addr) (c0 : Nat) (l0 : List Int) (r1 : List Int) (r2 : Bool) (w : World) (hr0 : Kd.C (Kd.int .i64) w A0 l0.length l0) (hc0 : l0.length ≤ c0) (h : impl_FromGens.f k l0 = some (r1, r2)) :
  Calls Try.prog 92 #[.slice A0 l0.length c0] w fun e w' => ∃ v0_ : Value, e = .returned (.tuple #[.agg #[v0_], .bool r2]) ∧ Kd.R (Kd.int .i64) 3 w' w.heap.size (fun _ => True) v0_ r1 ∧ Below w.heap.size w w' := by
 have hu26 := Try.underlying26
 have HR0 := am hr0
 have HC0 := am hc0
 clear hr0 hc0
 have HB := am (Below.refl w.heap.size w)
 have H : ((impl_usable.f k l0).bind fun t725 => (if t725 = true then ((impl_SortList.f l0).bind fun t727 => (impl_FromGens.l0 k t727 (t727.length : Int) 0 ([] : List Int))) else (some (([] : List Int), false)))) = some (r1, r2) := h
 clear h
 replace H := ga H; obtain ⟨t725, A2, H⟩ := H
 replace H := gb H; obtain ⟨rfl, H⟩ | ⟨rfl, H⟩ := H
 ·replace H := ga H; obtain ⟨t727, A4, H⟩ := H
  have H' := am H
  clear H
  go_enter Try.func92, Try.ntmps92
  go_wp2_with (first | ((with_reducible refine gate_dst (N := 2) rfl ?_); refine bx 2 #[.slice none 0 0] 26 ?_; intro gb724 hg w5 hbox hb; have BK724 := am (hbox); have GW724 := am (gs hg : w.heap.size ≤ gb724); have GE724 := GW724; replace HB := am (below_step bw hb); clear hb hbox hg) | ((with_reducible refine gate_callee (f := 200) rfl ?_); refine gl (some 8) Try.func200 #[.slice A0 l0.length c0] ?_; (with_reducible refine (impl_usable.calls k _ _ l0 true _ ?side1 ?side2 A2.out).mono ?_); (case side1 => exact co (Kd.C_below HR0.out HB.out)); (case side2 => exact HC0.out); rintro e w' ⟨rfl, ⟨nd, rfl⟩⟩; refine ⟨_, rfl, ?_⟩; (try (rw [drewN_self w5]; generalize hq_ : World.drewN w5 _ = w5; have n0_ : Aside0 (w5.heap[gb724]? = some (.cells #[.slice none 0 0] 26 (0, 0))) := ⟨by rw [← hq_]; exact (bo BK724.out)⟩; have n1_ : Aside0 (Below w.heap.size w w5) := ⟨by rw [← hq_]; exact bw⟩; clear BK724 HB hq_; have BK724 := n0_; have HB := n1_; clear n0_ n1_))) | ((with_reducible refine gate_dst (N := 4) rfl ?_); refine bx 4 #[.slice none 0 0] 26 ?_; intro gb726 hg w6 hbox hb; have BK726 := am (hbox); have GW726 := am (gs hg : w.heap.size ≤ gb726); have GE726 := GW726; replace HB := am (below_step bw hb); have NB724_726 := nl hg BK724; have NB726_724 := ns NB724_726; replace BK724 := kb BK724 hb; clear hb hbox hg; have hnb7 := NB726_724.out; have hnc7 := NB724_726.out; have hcz8_0 := bc BK726 0 (.slice none 0 0); have hfz8_0 := blk_frozen BK726.out 0) | ((with_reducible refine gate_callee (f := 89) rfl ?_); refine gl (some 13) Try.func89 #[.slice A0 l0.length c0] ?_; (with_reducible refine (impl_SortList.calls _ _ l0 t727 _ ?side1 ?side2 A4.out).mono ?_); (case side1 => exact Kd.C_below HR0.out bw); (case side2 => exact HC0.out); rintro e w9 ⟨v728, rfl, ho0, hb⟩; refine ⟨_, rfl, ?_⟩; have HO729 := am (Kd.R_lower ho0 (below_size bw)); replace BK724 := kb BK724 hb; replace BK726 := am (blk_below (g := gb726) (o := .cells #[.slice none 0 0] 26 (0, 0)) (by (with_reducible repeat (first | refine blk_drewN ?_ _ | refine blk_drew ?_ | refine blk_alloc ?_ _)); refine blk_put (cs := #[.slice none 0 0]) ?_ 0 _ rfl; (with_reducible repeat (first | refine blk_drewN ?_ _ | refine blk_drew ?_ | refine blk_alloc ?_ _)); exact BK726.out) hb); replace HB := am (below_step bw hb); clear hb ho0; obtain ⟨Ao10, co10, eo10⟩ := Kd.R_slice HO729.out; subst eo10))
  go_loopg [15] k (fun kq v15 w' => ∃ (x15_1 : Int) (x727000_1 : List Int) (u727000 : Value), v15 = .int .i64 x15_1 ∧ Aside0 (impl_FromGens.l0 kq t727 (t727.length : Int) x15_1 x727000_1 = some (r1, r2)) ∧ Aside0 (kq ≤ k) ∧ Aside0 (Kd.R (Kd.int .i64) 3 w' w.heap.size (fun k_ => some k_ ≠ (u727000 : Value).ownBlock) (.slice Ao10 t727.length co10) t727) ∧ Aside0 (Kd.R (Kd.int .i64) 3 w' w.heap.size (fun k_ => nb k_ Ao10 t727 co10) u727000 x727000_1) ∧ Aside0 (w'.heap[gb724]? = some (.cells #[(.slice none 0 0)] 26 (0, 0))) ∧ Aside0 (w'.heap[gb726]? = some (.cells #[u727000] 26 (0, 0))) ∧ Aside0 (Below w.heap.size w w'))
  case atStart => exact ⟨(0), (([] : List Int)), (.slice none 0 0), rr, H', ⟨Nat.le_refl _⟩, ⟨by (with_reducible repeat (first | apply Kd.R_alloc | apply Kd.R_drewN | apply Kd.R_drew)); exact Kd.R_mono HO729.out (fun _ hk => (by simp [Value.ownBlock]))⟩, ⟨by first | exact Kd.R_nil _ _ _ _ _ | exact Kd.N_nil _ _ _ _ _ | exact Kd.V_nil _ _ _ _ _ | exact Kd.Q_nil _ _ _ _ _ | exact Kd.S_nil _ _ _ _ _⟩, ⟨bo BK724.out⟩, ⟨bo BK726.out⟩, ⟨bw⟩⟩
  case round =>
   clear H'
   try clear hcz8_0; try clear hfz8_0
   obtain ⟨x15_1, x727000_1, u727000, rfl, HA, HK1, HO_13, HO_727000, BK724, BK726, HB⟩ := hrel
   cases gk with
   | zero => exact absurd HA.out (by simp [impl_FromGens.l0])
   | succ k1 =>
    have H := HA.out
    clear HA
    simp only [impl_FromGens.l0] at H
    replace H := gi H; obtain ⟨c11b0, H⟩ | ⟨c11b0, H⟩ := H
    ·replace H := gd H; obtain ⟨c12b0, H⟩ := H
     replace H := gd H; obtain ⟨c13b0, H⟩ := H
     by_cases c14 : (x727000_1.length : Int) = 0
     ·rw [if_pos c14] at H
      have c14b0 : ((x727000_1.length : Int) == 0) = true := beq_iff_eq.mpr c14
      have c14b1 : ((x727000_1.length : Int) != 0) = false := bne_eq_false_iff_eq.mpr c14
      clear c14
      by_cases c15 : x727000_1.length < 17592186044416
      rotate_left
      ·rw [if_neg c15] at H
       exact absurd H (by simp)
      rw [if_pos c15] at H
      have LMc15 := am c15
      clear c15
      obtain ⟨y731, hy731⟩ : ∃ y_ : List Int, y_ = (x727000_1 ++ [rd t727 x15_1]) := ⟨_, rfl⟩
      replace H : (impl_FromGens.l0 k1 t727 (t727.length : Int) (wrap64 (x15_1 + 1)) y731) = some (r1, r2) := by first | (rw [hy731]; with_reducible first | exact H | exact bs H) | (with_reducible first | exact bs H | exact H) | (rw [hy731]; exact H) | exact H
      have Ny731 := am hy731
      clear hy731
      have H' := am H
      clear H
      obtain ⟨⟨ad730, e730, hx730_0⟩, p730, q730⟩ := pq (Kd.at_int (Kd.R_reads' HO_13.out).2.2 x15_1)
      cases e730
      have hnb16 := NB726_724.out
      have hnc16 := NB724_726.out
      have hcz17_0 := bc BK726 0 (u727000)
      have hfz17_0 := blk_frozen BK726.out 0
      obtain ⟨Ao18, co18, eo18⟩ := Kd.R_slice HO_727000.out
      subst eo18
      go_wp2_with (first | ((with_reducible refine gate_builtin (b := .append) (xs := #[.tmp 31, .tmp 33]) rfl ?_); at_builtin; refine Kd.R_append (Kd.int .i64) (w0 := w) w.heap.size rfl (.tmp 31) (.tmp 33) 24 3 (.int .i64 0) 8 rfl Try.underlying24 info3 rfl (by decide) (by omega) (.slice Ao18 x727000_1.length co18) x727000_1 (rd t727 x15_1) [.int .i64 (rd t727 x15_1)] (fun k_ => some k_ ≠ (.slice (some ad730) t727.length co10 : Value).ownBlock) (fun _ => False) rfl rfl ?aP (fun _ hk => hk.elim) ?aF ?aO ?aB ?aS ?aL ?_; (case aP => exact rfl); (case aB => exact bw); (case aF => exact (fun k_ hk => Kd.fresh' (Kd.R_lt (ro HO_13.out)) k_ hk)); (case aO => exact (ro HO_727000.out)); (case aS => exact (below_size bw)); (case aL => have := LMc15.out; omega); intro v732 w19 ho hb hg hat; rw [← Ny731.out] at ho; replace HO_13 := am (Kd.R_after (ok := (fun _ => True)) (by (with_reducible repeat (first | apply Kd.R_alloc | apply Kd.R_drewN | apply Kd.R_drew)); exact Kd.R_mono HO_13.out (fun _ hk => ⟨trivial, by first | exact hk | exact (by intro a n m c x h; cases a <;> exact h : ∀ (a : Option Addr) (n m c x : Nat), some x ≠ (Value.slice a n c).ownBlock → some x ≠ (Value.slice a m c).ownBlock) _ _ _ _ _ hk⟩)) hg hat); replace BK724 := am (blk_grown (g := gb724) (o := .cells #[.slice none 0 0] 26 (0, 0)) (bo BK724.out) hg (Kd.R_ne HO_727000.out BK724.out (by decide))); replace BK726 := am (blk_grown (g := gb726) (o := .cells #[.slice Ao18 x727000_1.length co18] 26 (0, 0)) (bo BK726.out) hg (Kd.R_ne HO_727000.out BK726.out (by decide))); replace HB := am (hb); have HO733 := am (ho); clear HO_727000 ho hb hg hat; obtain ⟨Ao20, co20, eo20⟩ := Kd.R_slice HO733.out; subst eo20; have hcz21_0 := bc BK726 0 (.slice Ao18 x727000_1.length co18); have hfz21_0 := blk_frozen BK726.out 0))
      go_roundg k1
      case measure => have := HK1.out; omega
      case rel => exact ⟨(wrap64 (x15_1 + 1)), (y731), (.slice Ao20 y731.length co20), rr, H', ⟨by have := HK1.out; omega⟩, ⟨by (with_reducible repeat (first | apply Kd.R_alloc | apply Kd.R_drewN | apply Kd.R_drew)); exact Kd.R_mono (Kd.R_far (p := ⟨gb726, 0, none⟩) (Kd.R_types HO_13.out BK726.out (by decide)) (fun _ hk => hk.2) (.slice Ao20 y731.length co20)) (fun _ hk => by first | exact hk.1.2 | simp_all)⟩, ⟨by (with_reducible repeat (first | apply Kd.R_alloc | apply Kd.R_drewN | apply Kd.R_drew)); exact Kd.R_mono (Kd.R_far (p := ⟨gb726, 0, none⟩) (Kd.R_types HO733.out BK726.out (by decide)) (fun _ hk => hk.2) (.slice Ao20 y731.length co20)) (fun _ hk => hk.1)⟩, ⟨bf BK724.out⟩, ⟨by (with_reducible repeat (first | refine blk_drewN ?_ _ | refine blk_drew ?_ | refine blk_alloc ?_ _)); refine blk_put (cs := #[.slice Ao18 x727000_1.length co18]) ?_ 0 _ rfl; (with_reducible repeat (first | refine blk_drewN ?_ _ | refine blk_drew ?_ | refine blk_alloc ?_ _)); exact BK726.out⟩, ⟨bw⟩⟩
     rw [if_neg c14] at H
     have c14b0 : ((x727000_1.length : Int) == 0) = false := beq_eq_false_iff_ne.mpr c14
     have c14b1 : ((x727000_1.length : Int) != 0) = true := bne_iff_ne.mpr c14
     have c14b2 : ¬ (x727000_1 = []) := fun h_ => c14 (by rw [h_]; rfl)
     replace H := ga H; obtain ⟨t734, A22, H⟩ := H
     replace H := gb H; obtain ⟨rfl, H⟩ | ⟨rfl, H⟩ := H
     ·have H' := am H
      clear H
      obtain ⟨⟨ad730, e730, hx730_0⟩, p730, q730⟩ := pq (Kd.at_int (Kd.R_reads' HO_13.out).2.2 x15_1)
      cases e730
      have hnb24 := NB726_724.out
      have hnc24 := NB724_726.out
      have hcz25_0 := bc BK726 0 (u727000)
      have hfz25_0 := blk_frozen BK726.out 0
      obtain ⟨Ao26, co26, eo26⟩ := Kd.R_slice HO_727000.out
      subst eo26
      go_wp2_with (first | (go_at_call 201; (with_reducible refine (impl_Generates.calls k1 _ _ x727000_1 (rd t727 x15_1) true _ ?side1 ?side2 A22.out).mono ?_); (case side1 => exact co (Kd.R_reads' HO_727000.out).2.2); (case side2 => exact (Kd.R_reads' HO_727000.out).2.1); rintro e w27 ⟨rfl, hb⟩; replace HO_13 := rK HO_13 hb; replace HO_727000 := rK HO_727000 hb; replace BK724 := kb BK724 hb; replace BK726 := kb BK726 hb; replace HB := am (below_step bw hb); clear hb))
      go_roundg k1
      case measure => have := HK1.out; omega
      case rel => exact ⟨(wrap64 (x15_1 + 1)), (x727000_1), (.slice Ao26 x727000_1.length co26), rr, H', ⟨by have := HK1.out; omega⟩, ⟨ro HO_13.out⟩, ⟨ro HO_727000.out⟩, ⟨bo BK724.out⟩, ⟨bo BK726.out⟩, ⟨bw⟩⟩
     by_cases c28 : x727000_1.length < 17592186044416
     rotate_left
     ·rw [if_neg c28] at H
      exact absurd H (by simp)
     rw [if_pos c28] at H
     have LMc28 := am c28
     clear c28
     obtain ⟨y735, hy735⟩ : ∃ y_ : List Int, y_ = (x727000_1 ++ [rd t727 x15_1]) := ⟨_, rfl⟩
     replace H : (impl_FromGens.l0 k1 t727 (t727.length : Int) (wrap64 (x15_1 + 1)) y735) = some (r1, r2) := by first | (rw [hy735]; with_reducible first | exact H | exact bs H) | (with_reducible first | exact bs H | exact H) | (rw [hy735]; exact H) | exact H
     have Ny735 := am hy735
     clear hy735
     have H' := am H
     clear H
     obtain ⟨⟨ad730, e730, hx730_0⟩, p730, q730⟩ := pq (Kd.at_int (Kd.R_reads' HO_13.out).2.2 x15_1)
     cases e730
     have hnb29 := NB726_724.out
     have hnc29 := NB724_726.out
     have hcz30_0 := bc BK726 0 (u727000)
     have hfz30_0 := blk_frozen BK726.out 0
     obtain ⟨Ao31, co31, eo31⟩ := Kd.R_slice HO_727000.out
     subst eo31
     go_wp2_with (first | (go_at_call 201; (with_reducible refine (impl_Generates.calls k1 _ _ x727000_1 (rd t727 x15_1) false _ ?side1 ?side2 A22.out).mono ?_); (case side1 => exact co (Kd.R_reads' HO_727000.out).2.2); (case side2 => exact (Kd.R_reads' HO_727000.out).2.1); rintro e w32 ⟨rfl, hb⟩; replace HO_13 := rK HO_13 hb; replace HO_727000 := rK HO_727000 hb; replace BK724 := kb BK724 hb; replace BK726 := kb BK726 hb; replace HB := am (below_step bw hb); clear hb; have hcz33_0 := bc BK726 0 (.slice Ao31 x727000_1.length co31); have hfz33_0 := blk_frozen BK726.out 0) | ((with_reducible refine gate_builtin (b := .append) (xs := #[.tmp 31, .tmp 33]) rfl ?_); at_builtin; refine Kd.R_append (Kd.int .i64) (w0 := w) w.heap.size rfl (.tmp 31) (.tmp 33) 24 3 (.int .i64 0) 8 rfl Try.underlying24 info3 rfl (by decide) (by omega) (.slice Ao31 x727000_1.length co31) x727000_1 (rd t727 x15_1) [.int .i64 (rd t727 x15_1)] (fun k_ => some k_ ≠ (.slice (some ad730) t727.length co10 : Value).ownBlock) (fun _ => False) rfl rfl ?aP (fun _ hk => hk.elim) ?aF ?aO ?aB ?aS ?aL ?_; (case aP => exact rfl); (case aB => exact bw); (case aF => exact (fun k_ hk => Kd.fresh' (Kd.R_lt (ro HO_13.out)) k_ hk)); (case aO => exact (ro HO_727000.out)); (case aS => exact (below_size bw)); (case aL => have := LMc28.out; omega); intro v736 w34 ho hb hg hat; rw [← Ny735.out] at ho; replace HO_13 := am (Kd.R_after (ok := (fun _ => True)) (by (with_reducible repeat (first | apply Kd.R_alloc | apply Kd.R_drewN | apply Kd.R_drew)); exact Kd.R_mono HO_13.out (fun _ hk => ⟨trivial, by first | exact hk | exact (by intro a n m c x h; cases a <;> exact h : ∀ (a : Option Addr) (n m c x : Nat), some x ≠ (Value.slice a n c).ownBlock → some x ≠ (Value.slice a m c).ownBlock) _ _ _ _ _ hk⟩)) hg hat); replace BK724 := am (blk_grown (g := gb724) (o := .cells #[.slice none 0 0] 26 (0, 0)) (bo BK724.out) hg (Kd.R_ne HO_727000.out BK724.out (by decide))); replace BK726 := am (blk_grown (g := gb726) (o := .cells #[.slice Ao31 x727000_1.length co31] 26 (0, 0)) (bo BK726.out) hg (Kd.R_ne HO_727000.out BK726.out (by decide))); replace HB := am (hb); have HO737 := am (ho); clear HO_727000 ho hb hg hat; obtain ⟨Ao35, co35, eo35⟩ := Kd.R_slice HO737.out; subst eo35; have hcz36_0 := bc BK726 0 (.slice Ao31 x727000_1.length co31); have hfz36_0 := blk_frozen BK726.out 0))
     go_roundg k1
     case measure => have := HK1.out; omega
     case rel => exact ⟨(wrap64 (x15_1 + 1)), (y735), (.slice Ao35 y735.length co35), rr, H', ⟨by have := HK1.out; omega⟩, ⟨by (with_reducible repeat (first | apply Kd.R_alloc | apply Kd.R_drewN | apply Kd.R_drew)); exact Kd.R_mono (Kd.R_far (p := ⟨gb726, 0, none⟩) (Kd.R_types HO_13.out BK726.out (by decide)) (fun _ hk => hk.2) (.slice Ao35 y735.length co35)) (fun _ hk => by first | exact hk.1.2 | simp_all)⟩, ⟨by (with_reducible repeat (first | apply Kd.R_alloc | apply Kd.R_drewN | apply Kd.R_drew)); exact Kd.R_mono (Kd.R_far (p := ⟨gb726, 0, none⟩) (Kd.R_types HO737.out BK726.out (by decide)) (fun _ hk => hk.2) (.slice Ao35 y735.length co35)) (fun _ hk => hk.1)⟩, ⟨bf BK724.out⟩, ⟨by (with_reducible repeat (first | refine blk_drewN ?_ _ | refine blk_drew ?_ | refine blk_alloc ?_ _)); refine blk_put (cs := #[.slice Ao31 x727000_1.length co31]) ?_ 0 _ rfl; (with_reducible repeat (first | refine blk_drewN ?_ _ | refine blk_drew ?_ | refine blk_alloc ?_ _)); exact BK726.out⟩, ⟨bw⟩⟩
    replace H := ga H; obtain ⟨t738, A37, H⟩ := H
    replace H := gb H; obtain ⟨rfl, H⟩ | ⟨rfl, H⟩ := H
    ·simp only [Option.some.injEq, Prod.mk.injEq] at H
     obtain ⟨rfl, rfl⟩ := H
     have hnb39 := NB726_724.out
     have hnc39 := NB724_726.out
     have hcz40_0 := bc BK726 0 (u727000)
     have hfz40_0 := blk_frozen BK726.out 0
     obtain ⟨Ao41, co41, eo41⟩ := Kd.R_slice HO_727000.out
     subst eo41
     go_wp2_with (first | ((with_reducible refine gate_callee (f := 151) rfl ?_); refine gl (some 38) Try.func151 #[.agg #[.slice Ao41 x727000_1.length co41]] ?_; (with_reducible refine (impl_IsSemigroup.calls k1 _ _ x727000_1 true _ ?side1 ?side2 A37.out).mono ?_); (case side1 => exact co (Kd.R_reads' HO_727000.out).2.2); (case side2 => exact (Kd.R_reads' HO_727000.out).2.1); rintro e w42 ⟨rfl, hb⟩; refine ⟨_, rfl, ?_⟩; replace HO_13 := rK HO_13 hb; replace HO_727000 := rK HO_727000 hb; replace BK724 := kb BK724 hb; replace BK726 := kb BK726 hb; replace HB := am (below_step bw hb); clear hb; have hcz43_0 := bc BK726 0 (.slice Ao41 x727000_1.length co41); have hfz43_0 := blk_frozen BK726.out 0; have hcz44_0 := bc BK724 0 (.slice none 0 0); have hfz44_0 := blk_frozen BK724.out 0))
     refine bodyPost_ret (results_ct rfl _ _ gb724 26 #[.slice Ao41 x727000_1.length co41] (0, 0) _ rfl (by (with_reducible repeat (first | refine blk_drewN ?_ _ | refine blk_drew ?_ | refine blk_alloc ?_ _)); refine blk_put (cs := #[.slice none 0 0]) ?_ 0 _ rfl; (with_reducible repeat (first | refine blk_drewN ?_ _ | refine blk_drew ?_ | refine blk_alloc ?_ _)); exact BK724.out) Try.underlying26 rfl (by kernel_rfl)) rfl ?_
     exact ⟨_, re, by (with_reducible repeat (first | apply Kd.R_alloc | apply Kd.R_drewN | apply Kd.R_drew)); exact Kd.R_mono (Kd.R_far (p := ⟨gb724, 0, none⟩) (Kd.R_types HO_727000.out BK724.out (by decide)) (fun _ hk => hk.2) (.slice Ao41 x727000_1.length co41)) (fun _ hk => trivial), bw⟩
    simp only [Option.some.injEq, Prod.mk.injEq] at H
    obtain ⟨rfl, rfl⟩ := H
    have hnb45 := NB726_724.out
    have hnc45 := NB724_726.out
    have hcz46_0 := bc BK726 0 (u727000)
    have hfz46_0 := blk_frozen BK726.out 0
    obtain ⟨Ao47, co47, eo47⟩ := Kd.R_slice HO_727000.out
    subst eo47
    go_wp2_with (first | ((with_reducible refine gate_callee (f := 151) rfl ?_); refine gl (some 38) Try.func151 #[.agg #[.slice Ao47 x727000_1.length co47]] ?_; (with_reducible refine (impl_IsSemigroup.calls k1 _ _ x727000_1 false _ ?side1 ?side2 A37.out).mono ?_); (case side1 => exact co (Kd.R_reads' HO_727000.out).2.2); (case side2 => exact (Kd.R_reads' HO_727000.out).2.1); rintro e w48 ⟨rfl, hb⟩; refine ⟨_, rfl, ?_⟩; replace HO_13 := rK HO_13 hb; replace HO_727000 := rK HO_727000 hb; replace BK724 := kb BK724 hb; replace BK726 := kb BK726 hb; replace HB := am (below_step bw hb); clear hb; have hcz49_0 := bc BK724 0 (.slice none 0 0); have hfz49_0 := blk_frozen BK724.out 0))
    refine bodyPost_ret (results_ct rfl _ _ gb724 26 #[.slice none 0 0] (0, 0) _ rfl (by (with_reducible repeat (first | refine blk_drewN ?_ _ | refine blk_drew ?_ | refine blk_alloc ?_ _)); refine blk_put (cs := #[.slice none 0 0]) ?_ 0 _ rfl; (with_reducible repeat (first | refine blk_drewN ?_ _ | refine blk_drew ?_ | refine blk_alloc ?_ _)); exact BK724.out) Try.underlying26 rfl (by kernel_rfl)) rfl ?_
    exact ⟨_, re, by first | exact Kd.R_nil _ _ _ _ _ | exact Kd.N_nil _ _ _ _ _ | exact Kd.V_nil _ _ _ _ _ | exact Kd.Q_nil _ _ _ _ _ | exact Kd.S_nil _ _ _ _ _, bw⟩
 simp only [Option.some.injEq, Prod.mk.injEq] at H
 obtain ⟨rfl, rfl⟩ := H
 go_enter Try.func92, Try.ntmps92
 go_wp2_with (first | ((with_reducible refine gate_dst (N := 2) rfl ?_); refine bx 2 #[.slice none 0 0] 26 ?_; intro gb724 hg w50 hbox hb; have BK724 := am (hbox); have GW724 := am (gs hg : w.heap.size ≤ gb724); have GE724 := GW724; replace HB := am (below_step bw hb); clear hb hbox hg) | ((with_reducible refine gate_callee (f := 200) rfl ?_); refine gl (some 8) Try.func200 #[.slice A0 l0.length c0] ?_; (with_reducible refine (impl_usable.calls k _ _ l0 false _ ?side1 ?side2 A2.out).mono ?_); (case side1 => exact co (Kd.C_below HR0.out HB.out)); (case side2 => exact HC0.out); rintro e w' ⟨rfl, ⟨nd, rfl⟩⟩; refine ⟨_, rfl, ?_⟩; (try (rw [drewN_self w50]; generalize hq_ : World.drewN w50 _ = w50; have n0_ : Aside0 (w50.heap[gb724]? = some (.cells #[.slice none 0 0] 26 (0, 0))) := ⟨by rw [← hq_]; exact (bo BK724.out)⟩; have n1_ : Aside0 (Below w.heap.size w w50) := ⟨by rw [← hq_]; exact bw⟩; clear BK724 HB hq_; have BK724 := n0_; have HB := n1_; clear n0_ n1_)); have hcz51_0 := bc BK724 0 (.slice none 0 0); have hfz51_0 := blk_frozen BK724.out 0))
 refine bodyPost_ret (results_ct rfl _ _ gb724 26 #[.slice none 0 0] (0, 0) _ rfl (by (with_reducible repeat (first | refine blk_drewN ?_ _ | refine blk_drew ?_ | refine blk_alloc ?_ _)); refine blk_put (cs := #[.slice none 0 0]) ?_ 0 _ rfl; (with_reducible repeat (first | refine blk_drewN ?_ _ | refine blk_drew ?_ | refine blk_alloc ?_ _)); exact BK724.out) Try.underlying26 rfl (by kernel_rfl)) rfl ?_
 exact ⟨_, re, by first | exact Kd.R_nil _ _ _ _ _ | exact Kd.N_nil _ _ _ _ _ | exact Kd.V_nil _ _ _ _ _ | exact Kd.Q_nil _ _ _ _ _ | exact Kd.S_nil _ _ _ _ _, bw⟩

end Go.Proofs.Ytkfplkdchkmgbaa.C
