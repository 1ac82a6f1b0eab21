/- Contracts of functions of the program: impl_SortList, impl_FromGens, impl_AddOf. -/
import Derived.Test.YtlfdipnhlmjiaaaC0
import Derived.Test.YtlfdipnhlmjiaaaC5
import Derived.Test.YtlfdipnhlmjiaaaC7
namespace Go.Proofs.Ytlfdipnhlmjiaaa.C
open Go.RowKit Go.Proofs.YtlfdipnhlmjiaaaW.PrintWords Go.Proofs.YtlfdipnhlmjiaaaW.PrintLast Go.Proofs.YtlfdipnhlmjiaaaW.PrintMore
attribute [local go_sem] max2_int min2_int max_two min_two max_three min_three max_four min_four
set_option linter.unusedVariables false
set_option linter.unusedSimpArgs false

/-! ### impl_SortList: function 141 -/
def impl_SortList.f (l0 : List Int) : Option (List Int) := (some (([] : List Int) : List Int)).bind fun y423 => (if y423.length + l0.length < 17592186044416 then ((slices_Sort_int_int.f (y423 ++ l0)).bind fun t429 => ((slices_Compact_int_int.f t429).bind fun t430 => (some t430))) else (none))
set_option maxHeartbeats 8000000 in
set_option maxRecDepth 100000 in
theorem impl_SortList.calls (A0 : Option Addr) (c0 : Nat) (l0 : List Int) (r : List Int) (w : World) (hr0 : Kd.C (Kd.int .i64) w A0 l0.length l0) (hc0 : l0.length ≤ c0) (h : impl_SortList.f l0 = some r) :
  Calls Try.prog 141 #[.slice A0 l0.length c0] w fun e w' => ∃ v0_ : Value, e = .returned (v0_) ∧ Kd.R (Kd.int .i64) 3 w' w.heap.size (fun _ => True) v0_ r ∧ Below w.heap.size w w' := by
 have HR0 := Aside0.mk hr0
 have HC0 := Aside0.mk hc0
 clear hr0 hc0
 have HB := Aside0.mk (Below.refl w.heap.size w)
 have H : ((some (([] : List Int) : List Int)).bind fun y423 => (if y423.length + l0.length < 17592186044416 then ((slices_Sort_int_int.f (y423 ++ l0)).bind fun t429 => ((slices_Compact_int_int.f t429).bind fun t430 => (some t430))) else (none))) = some r := h
 clear h
 obtain ⟨y423, hy423⟩ : ∃ y_ : List Int, y_ = (([] : List Int)) := ⟨_, rfl⟩
 replace H : (if y423.length + l0.length < 17592186044416 then ((slices_Sort_int_int.f (y423 ++ l0)).bind fun t429 => ((slices_Compact_int_int.f t429).bind fun t430 => (some t430))) else (none)) = some r := by first | (rw [hy423]; with_reducible exact H) | (have H2_ := (Option.bind_some _ _).symm.trans H; rw [hy423]; with_reducible exact H2_) | (have H2_ := (Option.bind_some _ _).symm.trans H; with_reducible exact H2_) | with_reducible exact H | (rw [hy423]; exact H) | exact H
 have Ny423 := Aside0.mk hy423
 clear hy423
 by_cases c2 : y423.length + l0.length < 17592186044416
 rotate_left
 ·rw [if_neg c2] at H
  exact absurd H (by simp)
 rw [if_pos c2] at H
 have LMc2 := Aside0.mk c2
 clear c2
 obtain ⟨y426, hy426⟩ : ∃ y_ : List Int, y_ = (y423 ++ l0) := ⟨_, rfl⟩
 replace H : ((slices_Sort_int_int.f y426).bind fun t429 => ((slices_Compact_int_int.f t429).bind fun t430 => (some t430))) = some r := by first | (rw [hy426]; with_reducible exact H) | (have H2_ := (Option.bind_some _ _).symm.trans H; rw [hy426]; with_reducible exact H2_) | (have H2_ := (Option.bind_some _ _).symm.trans H; with_reducible exact H2_) | with_reducible exact H | (rw [hy426]; exact H) | exact H
 have Ny426 := Aside0.mk hy426
 clear hy426
 replace H := ga H; obtain ⟨t429, A3, H⟩ := H
 replace H := ga H; obtain ⟨t430, A4, H⟩ := H
 obtain rfl := Option.some.inj H
 go_enter Try.func141, Try.ntmps141
 go_wp2_with (first | ((with_reducible refine gate_dst (N := 4) rfl ?_); refine Kd.R_lit (Kd.int .i64) _ 3 ?hg (N := 4) ?hd (xs := ([] : List Int)) (inner := []) (ok := fun _ => True) (okp := fun _ => True) ?hr ?hp (fun _ hk => hk) trivial (Below.refl _ _) (Nat.le_refl _) (by simp) ?_; (case hd => rfl); (case hg => rfl); (case hr => first | (go_simp; done) | (go_simp; rfl)); (case hp => exact (Reps.none _ _)); intro v424 w5 ho6 hb hg_ hnew_; clear hg_ hnew_; (first | rw [← Ny423.out] at ho6 | (simp only [Int.reduceToNat] at ho6; rw [← Ny423.out] at ho6)); have HO425 := Aside0.mk (Kd.R_lower ho6 (below_size bw)); replace HB := Aside0.mk (below_step bw hb); clear hb ho6) | ((with_reducible refine gate_builtin (b := .append) (xs := #[.tmp 4, .tmp 5]) rfl ?_); at_builtin; refine Kd.R_append_rows (Kd.int .i64) (w0 := w) w.heap.size rfl (.tmp 4) (.tmp 5) 22 3 (.int .i64 0) 8 rfl Try.underlying22 info3 rfl (by decide) (by omega) v424 y423 l0 _ _ _ (fun _ => True) (fun _ => False) rfl rfl ?aO ?aR (fun _ _ h => h) (fun _ h => h.elim) ?aF ?aB ?aS ?aL ?_; (case aR => exact co (Kd.C_below HR0.out HB.out)); (case aB => exact bw); (case aF => exact (fun _ _ => trivial)); (case aO => exact (ro HO425.out)); (case aS => exact (below_size bw)); (case aL => have := LMc2.out; omega); intro v427 w7 ho hb hg hat; rw [← Ny426.out] at ho; replace HB := Aside0.mk (hb); have HO428 := Aside0.mk (ho); clear HO425 ho hb hg hat; obtain ⟨Ao8, co8, eo8⟩ := Kd.R_slice HO428.out; subst eo8) | ((with_reducible refine gate_callee (f := 146) rfl ?_); refine gl (some 8) Try.func146 #[.slice Ao8 y426.length co8] ?_; (with_reducible refine (slices_Sort_int_int.calls (fun k_ => some k_ = (.slice Ao8 y426.length co8 : Value).ownBlock) (.slice Ao8 y426.length co8) y426 t429 w _ ?side1 ?side2 A3.out).mono ?_); (case side1 => repeat (first | (with_reducible first | exact HB.out | apply below_alloc | apply pw_below_drewN | apply below_drew1) | exact HB.out)); (case side2 => exact Kd.R_tight rfl HO428.out); rintro e w9 ⟨rfl, hy0, hb, hkp⟩; refine ⟨_, rfl, ?_⟩; replace HO428 := Aside0.mk (Kd.R_reok rfl hy0 (fun k_ e_ => HO428.out.1 k_ e_)); replace HB := Aside0.mk (hb); clear hb hkp hy0) | ((with_reducible refine gate_callee (f := 147) rfl ?_); refine gl (some 10) Try.func147 #[.slice Ao8 y426.length co8] ?_; (with_reducible refine (slices_Compact_int_int.calls (fun k_ => some k_ = (.slice Ao8 y426.length co8 : Value).ownBlock) (.slice Ao8 y426.length co8) t429 t430 w _ ?side1 ?side2 A4.out).mono ?_); (case side1 => repeat (first | (with_reducible first | exact HB.out | apply below_alloc | apply pw_below_drewN | apply below_drew1) | exact HB.out)); (case side2 => exact Kd.R_tight rfl HO428.out); rintro e w10 ⟨v431, rfl, ho0, hb, hkp⟩; refine ⟨_, rfl, ?_⟩; have HO432 := Aside0.mk (Kd.R_mono (ok' := fun k_ => True) ho0 (fun k_ hk_ => trivial)); replace HB := Aside0.mk (hb); clear HO428 hb hkp ho0))
 go_ret
 exact ⟨_, re, ro HO432.out, bw⟩


/-! ### impl_FromGens: function 105 -/
def impl_FromGens.l0 : Nat → List Int → Int → Int → List Int → Option (List Int × Bool)
 | 0, _, _, _, _ => none
 | k + 1, x13, x14, x15, x436000 => if x15 < x14 then (if 0 ≤ x15 then (if x15 < (x13.length : Int) then (if (x436000.length : Int) = 0 then (if x436000.length < 17592186044416 then (impl_FromGens.l0 k x13 x14 (wrap64 (x15 + 1)) (x436000 ++ [rd x13 x15])) else (none)) else ((impl_Generates.f k x436000 (rd x13 x15)).bind fun t443 => (if t443 = true then (impl_FromGens.l0 k x13 x14 (wrap64 (x15 + 1)) x436000) else (if x436000.length < 17592186044416 then (impl_FromGens.l0 k x13 x14 (wrap64 (x15 + 1)) (x436000 ++ [rd x13 x15])) else (none))))) else (none)) else (none)) else ((impl_IsSemigroup.f k x436000).bind fun t447 => (if t447 = true then (some (x436000, true)) else (some (([] : List Int), false))))
def impl_FromGens.f (k : Nat) (l0 : List Int) : Option (List Int × Bool) := (impl_usable.f k l0).bind fun t434 => (if t434 = true then ((impl_SortList.f l0).bind fun t436 => (impl_FromGens.l0 k t436 (t436.length : Int) 0 ([] : List Int))) else (some (([] : List Int), false)))
set_option maxHeartbeats 8000000 in
set_option maxRecDepth 100000 in
theorem impl_FromGens.calls (k : Nat) (A0 : Option Addr) (c0 : Nat) (l0 : List Int) (r1 : List Int) (r2 : Bool) (w : World) (hr0 : Kd.C (Kd.int .i64) w A0 l0.length l0) (hc0 : l0.length ≤ c0) (h : impl_FromGens.f k l0 = some (r1, r2)) :
  Calls Try.prog 105 #[.slice A0 l0.length c0] w fun e w' => ∃ v0_ : Value, e = .returned (.tuple #[.agg #[v0_], .bool r2]) ∧ Kd.R (Kd.int .i64) 3 w' w.heap.size (fun _ => True) v0_ r1 ∧ Below w.heap.size w w' := by
 have hu27 := Try.underlying27
 have HR0 := Aside0.mk hr0
 have HC0 := Aside0.mk hc0
 clear hr0 hc0
 have HB := Aside0.mk (Below.refl w.heap.size w)
 have H : ((impl_usable.f k l0).bind fun t434 => (if t434 = true then ((impl_SortList.f l0).bind fun t436 => (impl_FromGens.l0 k t436 (t436.length : Int) 0 ([] : List Int))) else (some (([] : List Int), false)))) = some (r1, r2) := h
 clear h
 replace H := ga H; obtain ⟨t434, A2, H⟩ := H
 replace H := gb H; obtain ⟨rfl, H⟩ | ⟨rfl, H⟩ := H
 ·replace H := ga H; obtain ⟨t436, A4, H⟩ := H
  have H' := Aside0.mk H
  clear H
  go_enter Try.func105, Try.ntmps105
  go_wp2_with (first | ((with_reducible refine gate_dst (N := 2) rfl ?_); refine bx 2 #[.slice none 0 0] 27 ?_; intro gb433 hg w5 hbox hb; have BK433 := Aside0.mk (hbox); have GW433 := Aside0.mk (gs hg : w.heap.size ≤ gb433); have GE433 := Aside0.mk (gs hg : w.heap.size ≤ gb433); replace HB := Aside0.mk (below_step bw hb); clear hb hbox hg) | ((with_reducible refine gate_callee (f := 140) rfl ?_); refine gl (some 8) Try.func140 #[.slice A0 l0.length c0] ?_; (with_reducible refine (impl_usable.calls k _ _ l0 true _ ?side1 ?side2 A2.out).mono ?_); (case side1 => exact co (Kd.C_below HR0.out HB.out)); (case side2 => exact HC0.out); rintro e w' ⟨rfl, ⟨nd, rfl⟩⟩; refine ⟨_, rfl, ?_⟩; (try (rw [drewN_self w5]; generalize hq_ : World.drewN w5 _ = w5; have n0_ : Aside0 (w5.heap[gb433]? = some (.cells #[.slice none 0 0] 27 (0, 0))) := ⟨by rw [← hq_]; exact (bo BK433.out)⟩; have n1_ : Aside0 (Below w.heap.size w w5) := ⟨by rw [← hq_]; exact bw⟩; clear BK433 HB hq_; have BK433 := n0_; have HB := n1_; clear n0_ n1_))) | ((with_reducible refine gate_dst (N := 4) rfl ?_); refine bx 4 #[.slice none 0 0] 27 ?_; intro gb435 hg w6 hbox hb; have BK435 := Aside0.mk (hbox); have GW435 := Aside0.mk (gs hg : w.heap.size ≤ gb435); have GE435 := Aside0.mk (gs hg : w.heap.size ≤ gb435); replace HB := Aside0.mk (below_step bw hb); have NB433_435 := Aside0.mk ((by rw [hg]; exact Nat.ne_of_lt (blk_lt (g := gb433) (o := .cells #[.slice none 0 0] 27 (0, 0)) (bo BK433.out)) : gb433 ≠ gb435)); have NB435_433 := Aside0.mk ((by rw [hg]; exact Nat.ne_of_gt (blk_lt (g := gb433) (o := .cells #[.slice none 0 0] 27 (0, 0)) (bo BK433.out)) : gb435 ≠ gb433)); replace BK433 := Aside0.mk (blk_below (g := gb433) (o := .cells #[.slice none 0 0] 27 (0, 0)) (bo BK433.out) hb); clear hb hbox hg; have hnb7 := NB435_433.out; have hnc7 := NB433_435.out; have hcz8_0 := bc BK435 0 (.slice none 0 0); have hfz8_0 := blk_frozen BK435.out 0) | ((with_reducible refine gate_callee (f := 141) rfl ?_); refine gl (some 13) Try.func141 #[.slice A0 l0.length c0] ?_; (with_reducible refine (impl_SortList.calls _ _ l0 t436 _ ?side1 ?side2 A4.out).mono ?_); (case side1 => exact Kd.C_below HR0.out bw); (case side2 => exact HC0.out); rintro e w9 ⟨v437, rfl, ho0, hb⟩; refine ⟨_, rfl, ?_⟩; have HO438 := Aside0.mk (Kd.R_lower ho0 (below_size bw)); replace BK433 := Aside0.mk (blk_below (g := gb433) (o := .cells #[.slice none 0 0] 27 (0, 0)) (by (with_reducible repeat (first | refine blk_drewN ?_ _ | refine blk_drew ?_ | refine blk_alloc ?_ _)); refine blk_far ?_ NB433_435.out _; (with_reducible repeat (first | refine blk_drewN ?_ _ | refine blk_drew ?_ | refine blk_alloc ?_ _)); exact BK433.out) hb); replace BK435 := Aside0.mk (blk_below (g := gb435) (o := .cells #[.slice none 0 0] 27 (0, 0)) (by (with_reducible repeat (first | refine blk_drewN ?_ _ | refine blk_drew ?_ | refine blk_alloc ?_ _)); refine blk_put (cs := #[.slice none 0 0]) ?_ 0 _ rfl; (with_reducible repeat (first | refine blk_drewN ?_ _ | refine blk_drew ?_ | refine blk_alloc ?_ _)); exact BK435.out) hb); replace HB := Aside0.mk (below_step bw hb); clear hb ho0; obtain ⟨Ao10, co10, eo10⟩ := Kd.R_slice HO438.out; subst eo10))
  go_loopg [15] k (fun kq v15 w' => ∃ (x15_1 : Int) (x436000_1 : List Int) (u436000 : Value), v15 = .int .i64 x15_1 ∧ Aside0 (impl_FromGens.l0 kq t436 (t436.length : Int) x15_1 x436000_1 = some (r1, r2)) ∧ Aside0 (kq ≤ k) ∧ Aside0 (Kd.R (Kd.int .i64) 3 w' w.heap.size (fun k_ => some k_ ≠ (u436000 : Value).ownBlock) (.slice Ao10 t436.length co10) t436) ∧ Aside0 (Kd.R (Kd.int .i64) 3 w' w.heap.size (fun k_ => some k_ ≠ ((.slice Ao10 t436.length co10) : Value).ownBlock) u436000 x436000_1) ∧ Aside0 (w'.heap[gb433]? = some (.cells #[(.slice none 0 0)] 27 (0, 0))) ∧ Aside0 (w'.heap[gb435]? = some (.cells #[u436000] 27 (0, 0))) ∧ Aside0 (Below w.heap.size w w'))
  case atStart => exact ⟨(0), (([] : List Int)), (.slice none 0 0), rr, H', ⟨Nat.le_refl _⟩, ⟨by (with_reducible repeat (first | apply Kd.R_alloc | apply Kd.R_drewN | apply Kd.R_drew)); exact Kd.R_mono HO438.out (fun _ hk => (by simp [Value.ownBlock]))⟩, ⟨by first | exact Kd.R_nil _ _ _ _ _ | exact Kd.N_nil _ _ _ _ _ | exact Kd.V_nil _ _ _ _ _ | exact Kd.Q_nil _ _ _ _ _ | exact Kd.S_nil _ _ _ _ _⟩, ⟨bo BK433.out⟩, ⟨bo BK435.out⟩, ⟨bw⟩⟩
  case round =>
   clear H'
   try clear hcz8_0; try clear hfz8_0
   obtain ⟨x15_1, x436000_1, u436000, rfl, HA, HK1, HO_13, HO_436000, BK433, BK435, HB⟩ := hrel
   cases gk with
   | zero => exact absurd HA.out (by simp [impl_FromGens.l0])
   | succ k1 =>
    have H := HA.out
    clear HA
    simp only [impl_FromGens.l0] at H
    replace H := gi H; obtain ⟨c11b0, H⟩ | ⟨c11b0, H⟩ := H
    ·replace H := gd H; obtain ⟨c12b0, H⟩ := H
     replace H := gd H; obtain ⟨c13b0, H⟩ := H
     by_cases c14 : (x436000_1.length : Int) = 0
     ·rw [if_pos c14] at H
      have c14b0 : ((x436000_1.length : Int) == 0) = true := beq_iff_eq.mpr c14
      have c14b1 : ((x436000_1.length : Int) != 0) = false := bne_eq_false_iff_eq.mpr c14
      clear c14
      by_cases c15 : x436000_1.length < 17592186044416
      rotate_left
      ·rw [if_neg c15] at H
       exact absurd H (by simp)
      rw [if_pos c15] at H
      have LMc15 := Aside0.mk c15
      clear c15
      obtain ⟨y440, hy440⟩ : ∃ y_ : List Int, y_ = (x436000_1 ++ [rd t436 x15_1]) := ⟨_, rfl⟩
      replace H : (impl_FromGens.l0 k1 t436 (t436.length : Int) (wrap64 (x15_1 + 1)) y440) = some (r1, r2) := by first | (rw [hy440]; with_reducible exact H) | (have H2_ := (Option.bind_some _ _).symm.trans H; rw [hy440]; with_reducible exact H2_) | (have H2_ := (Option.bind_some _ _).symm.trans H; with_reducible exact H2_) | with_reducible exact H | (rw [hy440]; exact H) | exact H
      have Ny440 := Aside0.mk hy440
      clear hy440
      have H' := Aside0.mk H
      clear H
      obtain ⟨⟨ad439, e439, hx439_0⟩, p439, q439⟩ := pq (Kd.at_int (Kd.R_reads' HO_13.out).2.2 x15_1)
      cases e439
      have hnb16 := NB435_433.out
      have hnc16 := NB433_435.out
      have hcz17_0 := bc BK435 0 (u436000)
      have hfz17_0 := blk_frozen BK435.out 0
      obtain ⟨Ao18, co18, eo18⟩ := Kd.R_slice HO_436000.out
      subst eo18
      go_wp2_with (first | ((with_reducible refine gate_builtin (b := .append) (xs := #[.tmp 31, .tmp 33]) rfl ?_); at_builtin; refine Kd.R_append (Kd.int .i64) (w0 := w) w.heap.size rfl (.tmp 31) (.tmp 33) 22 3 (.int .i64 0) 8 rfl Try.underlying22 info3 rfl (by decide) (by omega) (.slice Ao18 x436000_1.length co18) x436000_1 (rd t436 x15_1) [.int .i64 (rd t436 x15_1)] (fun k_ => some k_ ≠ (.slice (some ad439) t436.length co10 : Value).ownBlock) (fun _ => False) rfl rfl ?aP (fun _ hk => hk.elim) ?aF ?aO ?aB ?aS ?aL ?_; (case aP => exact rfl); (case aB => exact bw); (case aF => exact (fun k_ hk => Kd.fresh' (Kd.R_lt (ro HO_13.out)) k_ hk)); (case aO => exact (ro HO_436000.out)); (case aS => exact (below_size bw)); (case aL => have := LMc15.out; omega); intro v441 w19 ho hb hg hat; rw [← Ny440.out] at ho; replace HO_13 := Aside0.mk (Kd.R_after (ok := (fun _ => True)) (by (with_reducible repeat (first | apply Kd.R_alloc | apply Kd.R_drewN | apply Kd.R_drew)); exact Kd.R_mono HO_13.out (fun _ hk => ⟨trivial, by first | exact hk | exact (by intro a n m c x h; cases a <;> exact h : ∀ (a : Option Addr) (n m c x : Nat), some x ≠ (Value.slice a n c).ownBlock → some x ≠ (Value.slice a m c).ownBlock) _ _ _ _ _ hk⟩)) hg hat); replace BK433 := Aside0.mk (blk_grown (g := gb433) (o := .cells #[.slice none 0 0] 27 (0, 0)) (bo BK433.out) hg (Kd.R_ne HO_436000.out BK433.out (by decide))); replace BK435 := Aside0.mk (blk_grown (g := gb435) (o := .cells #[.slice Ao18 x436000_1.length co18] 27 (0, 0)) (bo BK435.out) hg (Kd.R_ne HO_436000.out BK435.out (by decide))); replace HB := Aside0.mk (hb); have HO442 := Aside0.mk (ho); clear HO_436000 ho hb hg hat; obtain ⟨Ao20, co20, eo20⟩ := Kd.R_slice HO442.out; subst eo20; have hcz21_0 := bc BK435 0 (.slice Ao18 x436000_1.length co18); have hfz21_0 := blk_frozen BK435.out 0))
      go_roundg k1
      case measure => have := HK1.out; omega
      case rel => exact ⟨(wrap64 (x15_1 + 1)), (y440), (.slice Ao20 y440.length co20), rr, H', ⟨by have := HK1.out; omega⟩, ⟨by (with_reducible repeat (first | apply Kd.R_alloc | apply Kd.R_drewN | apply Kd.R_drew)); exact Kd.R_mono (Kd.R_far (p := ⟨gb435, 0, none⟩) (Kd.R_types HO_13.out BK435.out (by decide)) (fun _ hk => hk.2) (.slice Ao20 y440.length co20)) (fun _ hk => by first | exact hk.1.2 | simp_all)⟩, ⟨by (with_reducible repeat (first | apply Kd.R_alloc | apply Kd.R_drewN | apply Kd.R_drew)); exact Kd.R_mono (Kd.R_far (p := ⟨gb435, 0, none⟩) (Kd.R_types HO442.out BK435.out (by decide)) (fun _ hk => hk.2) (.slice Ao20 y440.length co20)) (fun _ hk => hk.1)⟩, ⟨by (with_reducible repeat (first | refine blk_drewN ?_ _ | refine blk_drew ?_ | refine blk_alloc ?_ _)); refine blk_far ?_ NB433_435.out _; (with_reducible repeat (first | refine blk_drewN ?_ _ | refine blk_drew ?_ | refine blk_alloc ?_ _)); exact BK433.out⟩, ⟨by (with_reducible repeat (first | refine blk_drewN ?_ _ | refine blk_drew ?_ | refine blk_alloc ?_ _)); refine blk_put (cs := #[.slice Ao18 x436000_1.length co18]) ?_ 0 _ rfl; (with_reducible repeat (first | refine blk_drewN ?_ _ | refine blk_drew ?_ | refine blk_alloc ?_ _)); exact BK435.out⟩, ⟨bw⟩⟩
     ·rw [if_neg c14] at H
      have c14b0 : ((x436000_1.length : Int) == 0) = false := beq_eq_false_iff_ne.mpr c14
      have c14b1 : ((x436000_1.length : Int) != 0) = true := bne_iff_ne.mpr c14
      have c14b2 : ¬ (x436000_1 = []) := fun h_ => c14 (by rw [h_]; rfl)
      replace H := ga H; obtain ⟨t443, A22, H⟩ := H
      replace H := gb H; obtain ⟨rfl, H⟩ | ⟨rfl, H⟩ := H
      ·have H' := Aside0.mk H
       clear H
       obtain ⟨⟨ad439, e439, hx439_0⟩, p439, q439⟩ := pq (Kd.at_int (Kd.R_reads' HO_13.out).2.2 x15_1)
       cases e439
       have hnb24 := NB435_433.out
       have hnc24 := NB433_435.out
       have hcz25_0 := bc BK435 0 (u436000)
       have hfz25_0 := blk_frozen BK435.out 0
       obtain ⟨Ao26, co26, eo26⟩ := Kd.R_slice HO_436000.out
       subst eo26
       go_wp2_with (first | (go_at_call 115; (with_reducible refine (impl_Generates.calls k1 _ _ x436000_1 (rd t436 x15_1) true _ ?side1 ?side2 A22.out).mono ?_); (case side1 => exact co (Kd.R_reads' HO_436000.out).2.2); (case side2 => exact (Kd.R_reads' HO_436000.out).2.1); rintro e w27 ⟨rfl, hb⟩; replace HO_13 := Aside0.mk (Kd.R_below (ro HO_13.out) hb); replace HO_436000 := Aside0.mk (Kd.R_below (ro HO_436000.out) hb); replace BK433 := Aside0.mk (blk_below (g := gb433) (o := .cells #[.slice none 0 0] 27 (0, 0)) (bo BK433.out) hb); replace BK435 := Aside0.mk (blk_below (g := gb435) (o := .cells #[.slice Ao26 x436000_1.length co26] 27 (0, 0)) (bo BK435.out) hb); replace HB := Aside0.mk (below_step bw hb); clear hb))
       go_roundg k1
       case measure => have := HK1.out; omega
       case rel => exact ⟨(wrap64 (x15_1 + 1)), (x436000_1), (.slice Ao26 x436000_1.length co26), rr, H', ⟨by have := HK1.out; omega⟩, ⟨ro HO_13.out⟩, ⟨ro HO_436000.out⟩, ⟨bo BK433.out⟩, ⟨bo BK435.out⟩, ⟨bw⟩⟩
      ·by_cases c28 : x436000_1.length < 17592186044416
       rotate_left
       ·rw [if_neg c28] at H
        exact absurd H (by simp)
       rw [if_pos c28] at H
       have LMc28 := Aside0.mk c28
       clear c28
       obtain ⟨y444, hy444⟩ : ∃ y_ : List Int, y_ = (x436000_1 ++ [rd t436 x15_1]) := ⟨_, rfl⟩
       replace H : (impl_FromGens.l0 k1 t436 (t436.length : Int) (wrap64 (x15_1 + 1)) y444) = some (r1, r2) := by first | (rw [hy444]; with_reducible exact H) | (have H2_ := (Option.bind_some _ _).symm.trans H; rw [hy444]; with_reducible exact H2_) | (have H2_ := (Option.bind_some _ _).symm.trans H; with_reducible exact H2_) | with_reducible exact H | (rw [hy444]; exact H) | exact H
       have Ny444 := Aside0.mk hy444
       clear hy444
       have H' := Aside0.mk H
       clear H
       obtain ⟨⟨ad439, e439, hx439_0⟩, p439, q439⟩ := pq (Kd.at_int (Kd.R_reads' HO_13.out).2.2 x15_1)
       cases e439
       have hnb29 := NB435_433.out
       have hnc29 := NB433_435.out
       have hcz30_0 := bc BK435 0 (u436000)
       have hfz30_0 := blk_frozen BK435.out 0
       obtain ⟨Ao31, co31, eo31⟩ := Kd.R_slice HO_436000.out
       subst eo31
       go_wp2_with (first | (go_at_call 115; (with_reducible refine (impl_Generates.calls k1 _ _ x436000_1 (rd t436 x15_1) false _ ?side1 ?side2 A22.out).mono ?_); (case side1 => exact co (Kd.R_reads' HO_436000.out).2.2); (case side2 => exact (Kd.R_reads' HO_436000.out).2.1); rintro e w32 ⟨rfl, hb⟩; replace HO_13 := Aside0.mk (Kd.R_below (ro HO_13.out) hb); replace HO_436000 := Aside0.mk (Kd.R_below (ro HO_436000.out) hb); replace BK433 := Aside0.mk (blk_below (g := gb433) (o := .cells #[.slice none 0 0] 27 (0, 0)) (bo BK433.out) hb); replace BK435 := Aside0.mk (blk_below (g := gb435) (o := .cells #[.slice Ao31 x436000_1.length co31] 27 (0, 0)) (bo BK435.out) hb); replace HB := Aside0.mk (below_step bw hb); clear hb; have hcz33_0 := bc BK435 0 (.slice Ao31 x436000_1.length co31); have hfz33_0 := blk_frozen BK435.out 0) | ((with_reducible refine gate_builtin (b := .append) (xs := #[.tmp 31, .tmp 33]) rfl ?_); at_builtin; refine Kd.R_append (Kd.int .i64) (w0 := w) w.heap.size rfl (.tmp 31) (.tmp 33) 22 3 (.int .i64 0) 8 rfl Try.underlying22 info3 rfl (by decide) (by omega) (.slice Ao31 x436000_1.length co31) x436000_1 (rd t436 x15_1) [.int .i64 (rd t436 x15_1)] (fun k_ => some k_ ≠ (.slice (some ad439) t436.length co10 : Value).ownBlock) (fun _ => False) rfl rfl ?aP (fun _ hk => hk.elim) ?aF ?aO ?aB ?aS ?aL ?_; (case aP => exact rfl); (case aB => exact bw); (case aF => exact (fun k_ hk => Kd.fresh' (Kd.R_lt (ro HO_13.out)) k_ hk)); (case aO => exact (ro HO_436000.out)); (case aS => exact (below_size bw)); (case aL => have := LMc28.out; omega); intro v445 w34 ho hb hg hat; rw [← Ny444.out] at ho; replace HO_13 := Aside0.mk (Kd.R_after (ok := (fun _ => True)) (by (with_reducible repeat (first | apply Kd.R_alloc | apply Kd.R_drewN | apply Kd.R_drew)); exact Kd.R_mono HO_13.out (fun _ hk => ⟨trivial, by first | exact hk | exact (by intro a n m c x h; cases a <;> exact h : ∀ (a : Option Addr) (n m c x : Nat), some x ≠ (Value.slice a n c).ownBlock → some x ≠ (Value.slice a m c).ownBlock) _ _ _ _ _ hk⟩)) hg hat); replace BK433 := Aside0.mk (blk_grown (g := gb433) (o := .cells #[.slice none 0 0] 27 (0, 0)) (bo BK433.out) hg (Kd.R_ne HO_436000.out BK433.out (by decide))); replace BK435 := Aside0.mk (blk_grown (g := gb435) (o := .cells #[.slice Ao31 x436000_1.length co31] 27 (0, 0)) (bo BK435.out) hg (Kd.R_ne HO_436000.out BK435.out (by decide))); replace HB := Aside0.mk (hb); have HO446 := Aside0.mk (ho); clear HO_436000 ho hb hg hat; obtain ⟨Ao35, co35, eo35⟩ := Kd.R_slice HO446.out; subst eo35; have hcz36_0 := bc BK435 0 (.slice Ao31 x436000_1.length co31); have hfz36_0 := blk_frozen BK435.out 0))
       go_roundg k1
       case measure => have := HK1.out; omega
       case rel => exact ⟨(wrap64 (x15_1 + 1)), (y444), (.slice Ao35 y444.length co35), rr, H', ⟨by have := HK1.out; omega⟩, ⟨by (with_reducible repeat (first | apply Kd.R_alloc | apply Kd.R_drewN | apply Kd.R_drew)); exact Kd.R_mono (Kd.R_far (p := ⟨gb435, 0, none⟩) (Kd.R_types HO_13.out BK435.out (by decide)) (fun _ hk => hk.2) (.slice Ao35 y444.length co35)) (fun _ hk => by first | exact hk.1.2 | simp_all)⟩, ⟨by (with_reducible repeat (first | apply Kd.R_alloc | apply Kd.R_drewN | apply Kd.R_drew)); exact Kd.R_mono (Kd.R_far (p := ⟨gb435, 0, none⟩) (Kd.R_types HO446.out BK435.out (by decide)) (fun _ hk => hk.2) (.slice Ao35 y444.length co35)) (fun _ hk => hk.1)⟩, ⟨by (with_reducible repeat (first | refine blk_drewN ?_ _ | refine blk_drew ?_ | refine blk_alloc ?_ _)); refine blk_far ?_ NB433_435.out _; (with_reducible repeat (first | refine blk_drewN ?_ _ | refine blk_drew ?_ | refine blk_alloc ?_ _)); exact BK433.out⟩, ⟨by (with_reducible repeat (first | refine blk_drewN ?_ _ | refine blk_drew ?_ | refine blk_alloc ?_ _)); refine blk_put (cs := #[.slice Ao31 x436000_1.length co31]) ?_ 0 _ rfl; (with_reducible repeat (first | refine blk_drewN ?_ _ | refine blk_drew ?_ | refine blk_alloc ?_ _)); exact BK435.out⟩, ⟨bw⟩⟩
    ·replace H := ga H; obtain ⟨t447, A37, H⟩ := H
     replace H := gb H; obtain ⟨rfl, H⟩ | ⟨rfl, H⟩ := H
     ·simp only [Option.some.injEq, Prod.mk.injEq] at H
      obtain ⟨rfl, rfl⟩ := H
      have hnb39 := NB435_433.out
      have hnc39 := NB433_435.out
      have hcz40_0 := bc BK435 0 (u436000)
      have hfz40_0 := blk_frozen BK435.out 0
      obtain ⟨Ao41, co41, eo41⟩ := Kd.R_slice HO_436000.out
      subst eo41
      go_wp2_with (first | ((with_reducible refine gate_callee (f := 62) rfl ?_); refine gl (some 38) Try.func62 #[.agg #[.slice Ao41 x436000_1.length co41]] ?_; (with_reducible refine (impl_IsSemigroup.calls k1 _ _ x436000_1 true _ ?side1 ?side2 A37.out).mono ?_); (case side1 => exact co (Kd.R_reads' HO_436000.out).2.2); (case side2 => exact (Kd.R_reads' HO_436000.out).2.1); rintro e w42 ⟨rfl, hb⟩; refine ⟨_, rfl, ?_⟩; replace HO_13 := Aside0.mk (Kd.R_below (ro HO_13.out) hb); replace HO_436000 := Aside0.mk (Kd.R_below (ro HO_436000.out) hb); replace BK433 := Aside0.mk (blk_below (g := gb433) (o := .cells #[.slice none 0 0] 27 (0, 0)) (bo BK433.out) hb); replace BK435 := Aside0.mk (blk_below (g := gb435) (o := .cells #[.slice Ao41 x436000_1.length co41] 27 (0, 0)) (bo BK435.out) hb); replace HB := Aside0.mk (below_step bw hb); clear hb; have hcz43_0 := bc BK435 0 (.slice Ao41 x436000_1.length co41); have hfz43_0 := blk_frozen BK435.out 0; have hcz44_0 := bc BK433 0 (.slice none 0 0); have hfz44_0 := blk_frozen BK433.out 0))
      refine bodyPost_ret (results_ct rfl _ _ gb433 27 #[.slice Ao41 x436000_1.length co41] (0, 0) _ rfl (by (with_reducible repeat (first | refine blk_drewN ?_ _ | refine blk_drew ?_ | refine blk_alloc ?_ _)); refine blk_put (cs := #[.slice none 0 0]) ?_ 0 _ rfl; (with_reducible repeat (first | refine blk_drewN ?_ _ | refine blk_drew ?_ | refine blk_alloc ?_ _)); exact BK433.out) Try.underlying27 rfl (by kernel_rfl)) rfl ?_
      exact ⟨_, re, by (with_reducible repeat (first | apply Kd.R_alloc | apply Kd.R_drewN | apply Kd.R_drew)); exact Kd.R_mono (Kd.R_far (p := ⟨gb433, 0, none⟩) (Kd.R_types HO_436000.out BK433.out (by decide)) (fun _ hk => hk.2) (.slice Ao41 x436000_1.length co41)) (fun _ hk => trivial), bw⟩
     ·simp only [Option.some.injEq, Prod.mk.injEq] at H
      obtain ⟨rfl, rfl⟩ := H
      have hnb45 := NB435_433.out
      have hnc45 := NB433_435.out
      have hcz46_0 := bc BK435 0 (u436000)
      have hfz46_0 := blk_frozen BK435.out 0
      obtain ⟨Ao47, co47, eo47⟩ := Kd.R_slice HO_436000.out
      subst eo47
      go_wp2_with (first | ((with_reducible refine gate_callee (f := 62) rfl ?_); refine gl (some 38) Try.func62 #[.agg #[.slice Ao47 x436000_1.length co47]] ?_; (with_reducible refine (impl_IsSemigroup.calls k1 _ _ x436000_1 false _ ?side1 ?side2 A37.out).mono ?_); (case side1 => exact co (Kd.R_reads' HO_436000.out).2.2); (case side2 => exact (Kd.R_reads' HO_436000.out).2.1); rintro e w48 ⟨rfl, hb⟩; refine ⟨_, rfl, ?_⟩; replace HO_13 := Aside0.mk (Kd.R_below (ro HO_13.out) hb); replace HO_436000 := Aside0.mk (Kd.R_below (ro HO_436000.out) hb); replace BK433 := Aside0.mk (blk_below (g := gb433) (o := .cells #[.slice none 0 0] 27 (0, 0)) (bo BK433.out) hb); replace BK435 := Aside0.mk (blk_below (g := gb435) (o := .cells #[.slice Ao47 x436000_1.length co47] 27 (0, 0)) (bo BK435.out) hb); replace HB := Aside0.mk (below_step bw hb); clear hb; have hcz49_0 := bc BK433 0 (.slice none 0 0); have hfz49_0 := blk_frozen BK433.out 0))
      refine bodyPost_ret (results_ct rfl _ _ gb433 27 #[.slice none 0 0] (0, 0) _ rfl (by (with_reducible repeat (first | refine blk_drewN ?_ _ | refine blk_drew ?_ | refine blk_alloc ?_ _)); refine blk_put (cs := #[.slice none 0 0]) ?_ 0 _ rfl; (with_reducible repeat (first | refine blk_drewN ?_ _ | refine blk_drew ?_ | refine blk_alloc ?_ _)); exact BK433.out) Try.underlying27 rfl (by kernel_rfl)) rfl ?_
      exact ⟨_, re, by first | exact Kd.R_nil _ _ _ _ _ | exact Kd.N_nil _ _ _ _ _ | exact Kd.V_nil _ _ _ _ _ | exact Kd.Q_nil _ _ _ _ _ | exact Kd.S_nil _ _ _ _ _, bw⟩
 ·simp only [Option.some.injEq, Prod.mk.injEq] at H
  obtain ⟨rfl, rfl⟩ := H
  go_enter Try.func105, Try.ntmps105
  go_wp2_with (first | ((with_reducible refine gate_dst (N := 2) rfl ?_); refine bx 2 #[.slice none 0 0] 27 ?_; intro gb433 hg w50 hbox hb; have BK433 := Aside0.mk (hbox); have GW433 := Aside0.mk (gs hg : w.heap.size ≤ gb433); have GE433 := Aside0.mk (gs hg : w.heap.size ≤ gb433); replace HB := Aside0.mk (below_step bw hb); clear hb hbox hg) | ((with_reducible refine gate_callee (f := 140) rfl ?_); refine gl (some 8) Try.func140 #[.slice A0 l0.length c0] ?_; (with_reducible refine (impl_usable.calls k _ _ l0 false _ ?side1 ?side2 A2.out).mono ?_); (case side1 => exact co (Kd.C_below HR0.out HB.out)); (case side2 => exact HC0.out); rintro e w' ⟨rfl, ⟨nd, rfl⟩⟩; refine ⟨_, rfl, ?_⟩; (try (rw [drewN_self w50]; generalize hq_ : World.drewN w50 _ = w50; have n0_ : Aside0 (w50.heap[gb433]? = some (.cells #[.slice none 0 0] 27 (0, 0))) := ⟨by rw [← hq_]; exact (bo BK433.out)⟩; have n1_ : Aside0 (Below w.heap.size w w50) := ⟨by rw [← hq_]; exact bw⟩; clear BK433 HB hq_; have BK433 := n0_; have HB := n1_; clear n0_ n1_)); have hcz51_0 := bc BK433 0 (.slice none 0 0); have hfz51_0 := blk_frozen BK433.out 0))
  refine bodyPost_ret (results_ct rfl _ _ gb433 27 #[.slice none 0 0] (0, 0) _ rfl (by (with_reducible repeat (first | refine blk_drewN ?_ _ | refine blk_drew ?_ | refine blk_alloc ?_ _)); refine blk_put (cs := #[.slice none 0 0]) ?_ 0 _ rfl; (with_reducible repeat (first | refine blk_drewN ?_ _ | refine blk_drew ?_ | refine blk_alloc ?_ _)); exact BK433.out) Try.underlying27 rfl (by kernel_rfl)) rfl ?_
  exact ⟨_, re, by first | exact Kd.R_nil _ _ _ _ _ | exact Kd.N_nil _ _ _ _ _ | exact Kd.V_nil _ _ _ _ _ | exact Kd.Q_nil _ _ _ _ _ | exact Kd.S_nil _ _ _ _ _, bw⟩


/-! ### impl_AddOf: function 56 -/
def impl_AddOf.f (k : Nat) (l0_0 : List Int) (l1_0 : List Int) : Option (List Int × Bool) := (impl_IsSemigroup.f k l0_0).bind fun t451 => (if t451 = true then ((impl_IsSemigroup.f k l1_0).bind fun t452 => (if t452 = true then ((some (([] : List Int) : List Int)).bind fun y453 => (if y453.length + l0_0.length < 17592186044416 then ((some (y453 ++ l0_0 : List Int)).bind fun y456 => (if y456.length + l1_0.length < 17592186044416 then ((impl_FromGens.f k (y456 ++ l1_0)).bind fun bt462 => (some (bt462.1, bt462.2))) else (none))) else (none))) else (some (([] : List Int), false)))) else (some (([] : List Int), false)))
def impl_AddOf.T3 : Bool × List (List Nat × List Nat) := (true, [([], []), ([], []), ([1], [1]), ([0, 2], [0, 2]), ([], []), ([4], [4]), ([3, 5, 3], [3, 5]), ([6, 6], [6]), ([7], [7]), ([7], [7]), ([8, 7, 0, 1, 2, 3, 4, 5, 6, 7, 8, 9], [8]), ([9, 10, 0, 1, 2, 3, 4, 5, 6, 7, 8, 9, 10], [9])])
def impl_AddOf.B3 : List Nat := [0, 0, 2, 7, 0, 16, 63, 127, 255, 255, 1023, 2047]
theorem impl_AddOf.tab3 : rtab .any (opsOf Try.f56 3) = impl_AddOf.T3 := by kernel_rfl
theorem impl_AddOf.bits3 : waitsOk impl_AddOf.T3.2 impl_AddOf.B3 = true := by kernel_rfl
set_option maxHeartbeats 8000000 in
set_option maxRecDepth 100000 in
theorem impl_AddOf.calls (k : Nat) (A0_0 : Option Addr) (c0_0 : Nat) (l0_0 : List Int) (A1_0 : Option Addr) (c1_0 : Nat) (l1_0 : List Int) (r1 : List Int) (r2 : Bool) (w : World) (hr0_0 : Kd.C (Kd.int .i64) w A0_0 l0_0.length l0_0) (hc0_0 : l0_0.length ≤ c0_0) (hr1_0 : Kd.C (Kd.int .i64) w A1_0 l1_0.length l1_0) (hc1_0 : l1_0.length ≤ c1_0) (h : impl_AddOf.f k l0_0 l1_0 = some (r1, r2)) :
  Calls Try.prog 56 #[.agg #[.slice A0_0 l0_0.length c0_0], .agg #[.slice A1_0 l1_0.length c1_0]] w fun e w' => ∃ v0_ : Value, e = .returned (.tuple #[.agg #[v0_], .bool r2]) ∧ Kd.R (Kd.int .i64) 3 w' w.heap.size (fun _ => True) v0_ r1 ∧ Below w.heap.size w w' := by
 have hu27 := Try.underlying27
 have HR0_0 := Aside0.mk hr0_0
 have HC0_0 := Aside0.mk hc0_0
 clear hr0_0 hc0_0
 have HR1_0 := Aside0.mk hr1_0
 have HC1_0 := Aside0.mk hc1_0
 clear hr1_0 hc1_0
 have HB := Aside0.mk (Below.refl w.heap.size w)
 have H : ((impl_IsSemigroup.f k l0_0).bind fun t451 => (if t451 = true then ((impl_IsSemigroup.f k l1_0).bind fun t452 => (if t452 = true then ((some (([] : List Int) : List Int)).bind fun y453 => (if y453.length + l0_0.length < 17592186044416 then ((some (y453 ++ l0_0 : List Int)).bind fun y456 => (if y456.length + l1_0.length < 17592186044416 then ((impl_FromGens.f k (y456 ++ l1_0)).bind fun bt462 => (some (bt462.1, bt462.2))) else (none))) else (none))) else (some (([] : List Int), false)))) else (some (([] : List Int), false)))) = some (r1, r2) := h
 clear h
 replace H := ga H; obtain ⟨t451, A3, H⟩ := H
 replace H := gb H; obtain ⟨rfl, H⟩ | ⟨rfl, H⟩ := H
 ·replace H := ga H; obtain ⟨t452, A5, H⟩ := H
  replace H := gb H; obtain ⟨rfl, H⟩ | ⟨rfl, H⟩ := H
  ·obtain ⟨y453, hy453⟩ : ∃ y_ : List Int, y_ = (([] : List Int)) := ⟨_, rfl⟩
   replace H : (if y453.length + l0_0.length < 17592186044416 then ((some (y453 ++ l0_0 : List Int)).bind fun y456 => (if y456.length + l1_0.length < 17592186044416 then ((impl_FromGens.f k (y456 ++ l1_0)).bind fun bt462 => (some (bt462.1, bt462.2))) else (none))) else (none)) = some (r1, r2) := by first | (rw [hy453]; with_reducible exact H) | (have H2_ := (Option.bind_some _ _).symm.trans H; rw [hy453]; with_reducible exact H2_) | (have H2_ := (Option.bind_some _ _).symm.trans H; with_reducible exact H2_) | with_reducible exact H | (rw [hy453]; exact H) | exact H
   have Ny453 := Aside0.mk hy453
   clear hy453
   by_cases c7 : y453.length + l0_0.length < 17592186044416
   rotate_left
   ·rw [if_neg c7] at H
    exact absurd H (by simp)
   rw [if_pos c7] at H
   have LMc7 := Aside0.mk c7
   clear c7
   obtain ⟨y456, hy456⟩ : ∃ y_ : List Int, y_ = (y453 ++ l0_0) := ⟨_, rfl⟩
   replace H : (if y456.length + l1_0.length < 17592186044416 then ((impl_FromGens.f k (y456 ++ l1_0)).bind fun bt462 => (some (bt462.1, bt462.2))) else (none)) = some (r1, r2) := by first | (rw [hy456]; with_reducible exact H) | (have H2_ := (Option.bind_some _ _).symm.trans H; rw [hy456]; with_reducible exact H2_) | (have H2_ := (Option.bind_some _ _).symm.trans H; with_reducible exact H2_) | with_reducible exact H | (rw [hy456]; exact H) | exact H
   have Ny456 := Aside0.mk hy456
   clear hy456
   by_cases c8 : y456.length + l1_0.length < 17592186044416
   rotate_left
   ·rw [if_neg c8] at H
    exact absurd H (by simp)
   rw [if_pos c8] at H
   have LMc8 := Aside0.mk c8
   clear c8
   obtain ⟨y459, hy459⟩ : ∃ y_ : List Int, y_ = (y456 ++ l1_0) := ⟨_, rfl⟩
   replace H : ((impl_FromGens.f k y459).bind fun bt462 => (some (bt462.1, bt462.2))) = some (r1, r2) := by first | (rw [hy459]; with_reducible exact H) | (have H2_ := (Option.bind_some _ _).symm.trans H; rw [hy459]; with_reducible exact H2_) | (have H2_ := (Option.bind_some _ _).symm.trans H; with_reducible exact H2_) | with_reducible exact H | (rw [hy459]; exact H) | exact H
   have Ny459 := Aside0.mk hy459
   clear hy459
   replace H := ga H; obtain ⟨⟨t462, t465⟩, A9, H⟩ := H
   replace H : (some (t462, t465)) = some (r1, r2) := H
   simp only [Option.some.injEq, Prod.mk.injEq] at H
   obtain ⟨rfl, rfl⟩ := H
   go_enter Try.func56, Try.ntmps56
   try go_wp2_with (first | ((with_reducible refine gate_dst (N := 2) rfl ?_); refine bx 2 #[.slice A0_0 l0_0.length c0_0] 27 ?_; intro gb448 hg w10 hbox hb; have BK448 := Aside0.mk (hbox); have GW448 := Aside0.mk (gs hg : w.heap.size ≤ gb448); have GE448 := Aside0.mk (gs hg : w.heap.size ≤ gb448); replace HB := Aside0.mk (below_step bw hb); clear hb hbox hg) | ((with_reducible refine gate_dst (N := 3) rfl ?_); refine bx 3 #[.slice A1_0 l1_0.length c1_0] 27 ?_; intro gb449 hg w11 hbox hb; have BK449 := Aside0.mk (hbox); have GW449 := Aside0.mk (gs hg : w.heap.size ≤ gb449); have GE449 := Aside0.mk (gs hg : w.heap.size ≤ gb449); replace HB := Aside0.mk (below_step bw hb); have NB448_449 := Aside0.mk ((by rw [hg]; exact Nat.ne_of_lt (blk_lt (g := gb448) (o := .cells #[.slice A0_0 l0_0.length c0_0] 27 (0, 0)) (bo BK448.out)) : gb448 ≠ gb449)); have NB449_448 := Aside0.mk ((by rw [hg]; exact Nat.ne_of_gt (blk_lt (g := gb448) (o := .cells #[.slice A0_0 l0_0.length c0_0] 27 (0, 0)) (bo BK448.out)) : gb449 ≠ gb448)); replace BK448 := Aside0.mk (blk_below (g := gb448) (o := .cells #[.slice A0_0 l0_0.length c0_0] 27 (0, 0)) (bo BK448.out) hb); clear hb hbox hg) | ((with_reducible refine gate_dst (N := 4) rfl ?_); refine bx 4 #[.slice none 0 0] 27 ?_; intro gb450 hg w12 hbox hb; have BK450 := Aside0.mk (hbox); have GW450 := Aside0.mk (gs hg : w.heap.size ≤ gb450); have GE450 := Aside0.mk (gs hg : w.heap.size ≤ gb450); replace HB := Aside0.mk (below_step bw hb); have NB448_450 := Aside0.mk ((by rw [hg]; exact Nat.ne_of_lt (blk_lt (g := gb448) (o := .cells #[.slice A0_0 l0_0.length c0_0] 27 (0, 0)) (bo BK448.out)) : gb448 ≠ gb450)); have NB450_448 := Aside0.mk ((by rw [hg]; exact Nat.ne_of_gt (blk_lt (g := gb448) (o := .cells #[.slice A0_0 l0_0.length c0_0] 27 (0, 0)) (bo BK448.out)) : gb450 ≠ gb448)); replace BK448 := Aside0.mk (blk_below (g := gb448) (o := .cells #[.slice A0_0 l0_0.length c0_0] 27 (0, 0)) (bo BK448.out) hb); have NB449_450 := Aside0.mk ((by rw [hg]; exact Nat.ne_of_lt (blk_lt (g := gb449) (o := .cells #[.slice A1_0 l1_0.length c1_0] 27 (0, 0)) (bo BK449.out)) : gb449 ≠ gb450)); have NB450_449 := Aside0.mk ((by rw [hg]; exact Nat.ne_of_gt (blk_lt (g := gb449) (o := .cells #[.slice A1_0 l1_0.length c1_0] 27 (0, 0)) (bo BK449.out)) : gb450 ≠ gb449)); replace BK449 := Aside0.mk (blk_below (g := gb449) (o := .cells #[.slice A1_0 l1_0.length c1_0] 27 (0, 0)) (bo BK449.out) hb); clear hb hbox hg; have hnb13 := NB448_449.out; have hnc13 := NB449_448.out; have hnb14 := NB448_450.out; have hnc14 := NB450_448.out; have hcz15_0 := bc BK448 0 (.slice A0_0 l0_0.length c0_0); have hfz15_0 := blk_frozen BK448.out 0) | ((with_reducible refine gate_callee (f := 62) rfl ?_); refine gl (some 7) Try.func62 #[.agg #[.slice A0_0 l0_0.length c0_0]] ?_; (with_reducible refine (impl_IsSemigroup.calls k _ _ l0_0 true _ ?side1 ?side2 A3.out).mono ?_); (case side1 => exact co (Kd.C_below HR0_0.out HB.out)); (case side2 => exact HC0_0.out); rintro e w16 ⟨rfl, hb⟩; refine ⟨_, rfl, ?_⟩; replace BK448 := Aside0.mk (blk_below (g := gb448) (o := .cells #[.slice A0_0 l0_0.length c0_0] 27 (0, 0)) (bo BK448.out) hb); replace BK449 := Aside0.mk (blk_below (g := gb449) (o := .cells #[.slice A1_0 l1_0.length c1_0] 27 (0, 0)) (bo BK449.out) hb); replace BK450 := Aside0.mk (blk_below (g := gb450) (o := .cells #[.slice none 0 0] 27 (0, 0)) (bo BK450.out) hb); replace HB := Aside0.mk (below_step bw hb); clear hb; have hnb17 := NB449_450.out; have hnc17 := NB450_449.out; have hcz18_0 := bc BK449 0 (.slice A1_0 l1_0.length c1_0); have hfz18_0 := blk_frozen BK449.out 0) | (go_at_call 62; (with_reducible refine (impl_IsSemigroup.calls k _ _ l1_0 true _ ?side1 ?side2 A5.out).mono ?_); (case side1 => exact co (Kd.C_below HR1_0.out HB.out)); (case side2 => exact HC1_0.out); rintro e w19 ⟨rfl, hb⟩; replace BK448 := Aside0.mk (blk_below (g := gb448) (o := .cells #[.slice A0_0 l0_0.length c0_0] 27 (0, 0)) (bo BK448.out) hb); replace BK449 := Aside0.mk (blk_below (g := gb449) (o := .cells #[.slice A1_0 l1_0.length c1_0] 27 (0, 0)) (bo BK449.out) hb); replace BK450 := Aside0.mk (blk_below (g := gb450) (o := .cells #[.slice none 0 0] 27 (0, 0)) (bo BK450.out) hb); replace HB := Aside0.mk (below_step bw hb); clear hb))
   replace BK448 := Aside0.mk (blk_drew BK448.out)
   replace BK449 := Aside0.mk (blk_drew BK449.out)
   replace BK450 := Aside0.mk (blk_drew BK450.out)
   replace HB := Aside0.mk (below_drew1 HB.out)
   refine start_ (n := 12) (S := fun w' => w'.cell? ⟨gb448, 0, none⟩ = some (.slice A0_0 l0_0.length c0_0) ∧ w'.cell? ⟨gb449, 0, none⟩ = some (.slice A1_0 l1_0.length c1_0)) (ds := []) #[Z,Z,Z,Z,Z,Z,Z,Z,Z,Z,Z,Z] (by kernel_rfl) rfl rfl ⟨(blk_cell BK448.out 0).trans rfl, (blk_cell BK449.out 0).trans rfl⟩ (fun hHeld => ?_); refine with_tabW impl_AddOf.tab3 impl_AddOf.bits3 (fun HT_ HW_ => ?_)
   generalize w19.drew = w20 at BK448 BK449 BK450 HB hHeld ⊢
   refine pa 1 (some 16) #[Z,Y,Z,Z,Z,Z,Z,Z,Z,Z,Z,Z] HT_ ?_
   refine pa 4 (some 19) #[Z,Y,Z,Z,Y,Z,Z,Z,Z,Z,Z,Z] HT_ ?_
   refine take_ (i := 2) (N := some 17) (v := ?_) (a' := ?_) #[Z,Y,Y,Z,Y,Z,Z,Z,Z,Z,Z,Z] rfl rfl (take_ofW HT_.out HW_.out (by kernel_rfl)) (fun _ _ _ h => h) (Or.inl ⟨by rfl, ?_⟩) hHeld ?_ ?_
   rotate_left
   ·rintro w' ⟨s0, s1⟩
    go_simp
    with_reducible rfl
   rotate_left
   ·simp only [Act.put, qa, qb, qc, i64_w, i32_w]
    rfl
   refine take_ (i := 5) (N := some 20) (v := ?_) (a' := ?_) #[Z,Y,Y,Z,Y,Y,Z,Z,Z,Z,Z,Z] rfl rfl (take_ofW HT_.out HW_.out (by kernel_rfl)) (fun _ _ _ h => h) (Or.inl ⟨by rfl, ?_⟩) hHeld ?_ ?_
   rotate_left
   ·rintro w' ⟨s0, s1⟩
    go_simp
    with_reducible rfl
   rotate_left
   ·simp only [Act.put, qa, qb, qc, i64_w, i32_w]
    rfl
   refine oa 0 (some 15) #[Y,Y,Y,Z,Y,Y,Z,Z,Z,Z,Z,Z] HT_ (fun K hK => ?_)
   refine Kd.R_lit_step (Kd.int .i64) _ 3 ?hg (N := 15) ?hd (xs := ([] : List Int)) (inner := []) (ok := fun _ => True) (okp := fun _ => True) ?hr ?hp (fun _ hk => hk) trivial (Below.refl _ _) (Nat.le_refl _) (by simp) ?_; (case hd => rfl); (case hg => rfl); (case hr => first | (go_simp; done) | (go_simp; rfl)); (case hp => exact (Reps.none _ _))
   intro v454 w21 ho22 hb hg_ hnew_
   clear hg_ hnew_
   (first | rw [← Ny453.out] at ho22 | (simp only [Int.reduceToNat] at ho22; rw [← Ny453.out] at ho22))
   have HO455 := Aside0.mk (Kd.R_lower ho22 (below_size bw))
   replace BK448 := Aside0.mk (blk_below (g := gb448) (o := .cells #[.slice A0_0 l0_0.length c0_0] 27 (0, 0)) (bo BK448.out) hb)
   replace BK449 := Aside0.mk (blk_below (g := gb449) (o := .cells #[.slice A1_0 l1_0.length c1_0] 27 (0, 0)) (bo BK449.out) hb)
   replace BK450 := Aside0.mk (blk_below (g := gb450) (o := .cells #[.slice none 0 0] 27 (0, 0)) (bo BK450.out) hb)
   replace HB := Aside0.mk (below_step bw hb)
   clear hb ho22
   refine hK.out _ _ ⟨(blk_cell BK448.out 0).trans rfl, (blk_cell BK449.out 0).trans rfl⟩ (fun hHeld => ?_)
   clear hK K
   refine norm_ (a' := ?_) ?_ ?_
   rotate_left
   ·show Act.put _ (some 15) _ = _
    simp only [Act.put, qa, qb, qc, i64_w, i32_w]
    rfl
   refine oa 3 (some 18) #[Y,Y,Y,Y,Y,Y,Z,Z,Z,Z,Z,Z] HT_ (fun K hK => ?_)
   refine Kd.R_append_rows_step (Kd.int .i64) (w0 := w) w.heap.size (by rfl) (.tmp 15) (.tmp 17) 22 3 (.int .i64 0) 8 rfl Try.underlying22 info3 rfl (by decide) (by omega) v454 y453 l0_0 _ _ _ (fun _ => True) (fun _ => False) rfl rfl ?aO ?aR (fun _ _ h => h) (fun _ h => h.elim) ?aF ?aB ?aS ?aL ?_
   (case aR => exact co (Kd.C_below HR0_0.out HB.out))
   (case aB => exact bw)
   (case aF => exact (fun _ _ => trivial))
   (case aO => exact (ro HO455.out))
   (case aS => exact (below_size bw))
   (case aL => have := LMc7.out; omega)
   intro v457 w23 ho hb hg hat
   rw [← Ny456.out] at ho
   replace BK448 := Aside0.mk (blk_grown (g := gb448) (o := .cells #[.slice A0_0 l0_0.length c0_0] 27 (0, 0)) (bo BK448.out) hg (Kd.R_ne HO455.out BK448.out (by decide)))
   replace BK449 := Aside0.mk (blk_grown (g := gb449) (o := .cells #[.slice A1_0 l1_0.length c1_0] 27 (0, 0)) (bo BK449.out) hg (Kd.R_ne HO455.out BK449.out (by decide)))
   replace BK450 := Aside0.mk (blk_grown (g := gb450) (o := .cells #[.slice none 0 0] 27 (0, 0)) (bo BK450.out) hg (Kd.R_ne HO455.out BK450.out (by decide)))
   replace HB := Aside0.mk (hb)
   have HO458 := Aside0.mk (ho)
   clear HO455 ho hb hg hat
   refine hK.out _ _ ⟨(blk_cell BK448.out 0).trans rfl, (blk_cell BK449.out 0).trans rfl⟩ (fun hHeld => ?_)
   clear hK K
   refine norm_ (a' := ?_) ?_ ?_
   rotate_left
   ·show Act.put _ (some 18) _ = _
    simp only [Act.put, qa, qb, qc, i64_w, i32_w]
    rfl
   refine oa 6 (some 21) #[Y,Y,Y,Y,Y,Y,Y,Z,Z,Z,Z,Z] HT_ (fun K hK => ?_)
   refine Kd.R_append_rows_step (Kd.int .i64) (w0 := w) w.heap.size (by rfl) (.tmp 18) (.tmp 20) 22 3 (.int .i64 0) 8 rfl Try.underlying22 info3 rfl (by decide) (by omega) v457 y456 l1_0 _ _ _ (fun _ => True) (fun _ => False) rfl rfl ?aO ?aR (fun _ _ h => h) (fun _ h => h.elim) ?aF ?aB ?aS ?aL ?_
   (case aR => exact co (Kd.C_below HR1_0.out HB.out))
   (case aB => exact bw)
   (case aF => exact (fun _ _ => trivial))
   (case aO => exact (ro HO458.out))
   (case aS => exact (below_size bw))
   (case aL => have := LMc8.out; omega)
   intro v460 w24 ho hb hg hat
   rw [← Ny459.out] at ho
   replace BK448 := Aside0.mk (blk_grown (g := gb448) (o := .cells #[.slice A0_0 l0_0.length c0_0] 27 (0, 0)) (bo BK448.out) hg (Kd.R_ne HO458.out BK448.out (by decide)))
   replace BK449 := Aside0.mk (blk_grown (g := gb449) (o := .cells #[.slice A1_0 l1_0.length c1_0] 27 (0, 0)) (bo BK449.out) hg (Kd.R_ne HO458.out BK449.out (by decide)))
   replace BK450 := Aside0.mk (blk_grown (g := gb450) (o := .cells #[.slice none 0 0] 27 (0, 0)) (bo BK450.out) hg (Kd.R_ne HO458.out BK450.out (by decide)))
   replace HB := Aside0.mk (hb)
   have HO461 := Aside0.mk (ho)
   clear HO458 ho hb hg hat
   obtain ⟨Ao25, co25, eo25⟩ := Kd.R_slice HO461.out
   (first | subst eo25 | (injection eo25 with f1_ f2_ f3_; have f4_ := f1_.symm; have f5_ := f3_.symm; clear f1_ f2_ f3_; subst f4_; subst f5_))
   refine hK.out _ _ ⟨(blk_cell BK448.out 0).trans rfl, (blk_cell BK449.out 0).trans rfl⟩ (fun hHeld => ?_)
   clear hK K
   refine norm_ (a' := ?_) ?_ ?_
   rotate_left
   ·show Act.put _ (some 21) _ = _
    simp only [Act.put, qa, qb, qc, i64_w, i32_w]
    rfl
   refine oa 7 (some 22) #[Y,Y,Y,Y,Y,Y,Y,Y,Z,Z,Z,Z] HT_ (fun K hK => ?_)
   refine gm Try.func105 #[.slice Ao25 y459.length co25] ?_
   with_reducible refine (impl_FromGens.calls k _ _ y459 t462 t465 _ ?side1 ?side2 A9.out).mono ?_
   (case side1 => exact co (Kd.R_reads' HO461.out).2.2)
   (case side2 => exact (Kd.R_reads' HO461.out).2.1)
   rintro e w26 ⟨v463, rfl, ho0, hb⟩
   refine ⟨_, rfl, ?_⟩
   have HO464 := Aside0.mk (Kd.R_lower (Kd.R_new' ho0 (Kd.R_lt (ro HO461.out))) (below_size bw))
   replace HO461 := Aside0.mk (Kd.R_elder' (ro HO461.out) (Kd.R_base ho0) hb)
   replace BK448 := Aside0.mk (blk_below (g := gb448) (o := .cells #[.slice A0_0 l0_0.length c0_0] 27 (0, 0)) (bo BK448.out) hb)
   replace BK449 := Aside0.mk (blk_below (g := gb449) (o := .cells #[.slice A1_0 l1_0.length c1_0] 27 (0, 0)) (bo BK449.out) hb)
   replace BK450 := Aside0.mk (blk_below (g := gb450) (o := .cells #[.slice none 0 0] 27 (0, 0)) (bo BK450.out) hb)
   replace HB := Aside0.mk (below_step bw hb)
   clear hb ho0
   obtain ⟨Ao27, co27, eo27⟩ := Kd.R_slice HO464.out
   (first | subst eo27 | (injection eo27 with f1_ f2_ f3_; have f4_ := f1_.symm; have f5_ := f3_.symm; clear f1_ f2_ f3_; subst f4_; subst f5_))
   refine hK.out _ _ ⟨(blk_cell BK448.out 0).trans rfl, (blk_cell BK449.out 0).trans rfl⟩ (fun hHeld => ?_)
   clear hK K
   refine norm_ (a' := ?_) ?_ ?_
   rotate_left
   ·show Act.put _ (some 22) _ = _
    simp only [Act.put, qa, qb, qc, i64_w, i32_w]
    rfl
   refine pa 8 (some 23) #[Y,Y,Y,Y,Y,Y,Y,Y,Y,Z,Z,Z] HT_ ?_
   refine pa 9 (some 24) #[Y,Y,Y,Y,Y,Y,Y,Y,Y,Y,Z,Z] HT_ ?_
   refine oa 10 none #[Y,Y,Y,Y,Y,Y,Y,Y,Y,Y,Y,Z] HT_ (fun K hK => ?_)
   have hs28 := bc BK450 0 (.slice none 0 0)
   have hfs28 := blk_frozen BK450.out 0
   have hns28_0 := NB448_450.out
   have hns28_1 := NB449_450.out
   have hms28_0 := NB450_448.out
   have hms28_1 := NB450_449.out
   refine skip_ (w1 := ?_) (by rfl) rfl ?_ ?_
   rotate_left
   ·go_simp
    rfl
   refine hK.out _ _ ⟨((cell_far (p := ⟨gb450, _, none⟩) NB448_450.out _).trans (hHeld.1)), ((cell_far (p := ⟨gb450, _, none⟩) NB449_450.out _).trans (hHeld.2))⟩ (fun hHeld => ?_)
   clear hK K
   refine pa 11 (some 5) #[Y,Y,Y,Y,Y,Y,Y,Y,Y,Y,Y,Y] HT_ ?_
   refine done_ (done_of HT_.out (by kernel_rfl)) ?_
   try go_wp2
   refine bodyPost_ret (results_ct rfl _ _ gb450 27 #[.slice Ao27 t462.length co27] (0, 0) _ rfl (by (with_reducible repeat (first | refine blk_drewN ?_ _ | refine blk_drew ?_ | refine blk_alloc ?_ _)); refine blk_put (cs := #[.slice none 0 0]) ?_ 0 _ rfl; (with_reducible repeat (first | refine blk_drewN ?_ _ | refine blk_drew ?_ | refine blk_alloc ?_ _)); exact BK450.out) Try.underlying27 rfl (by kernel_rfl)) rfl ?_
   exact ⟨_, re, by (with_reducible repeat (first | apply Kd.R_alloc | apply Kd.R_drewN | apply Kd.R_drew)); exact Kd.R_mono (Kd.R_far (p := ⟨gb450, 0, none⟩) (Kd.R_types HO464.out BK450.out (by decide)) (fun _ hk => hk.2) (.slice Ao27 t462.length co27)) (fun _ hk => trivial), bw⟩
  ·simp only [Option.some.injEq, Prod.mk.injEq] at H
   obtain ⟨rfl, rfl⟩ := H
   go_enter Try.func56, Try.ntmps56
   go_wp2_with (first | ((with_reducible refine gate_dst (N := 2) rfl ?_); refine bx 2 #[.slice A0_0 l0_0.length c0_0] 27 ?_; intro gb448 hg w29 hbox hb; have BK448 := Aside0.mk (hbox); have GW448 := Aside0.mk (gs hg : w.heap.size ≤ gb448); have GE448 := Aside0.mk (gs hg : w.heap.size ≤ gb448); replace HB := Aside0.mk (below_step bw hb); clear hb hbox hg) | ((with_reducible refine gate_dst (N := 3) rfl ?_); refine bx 3 #[.slice A1_0 l1_0.length c1_0] 27 ?_; intro gb449 hg w30 hbox hb; have BK449 := Aside0.mk (hbox); have GW449 := Aside0.mk (gs hg : w.heap.size ≤ gb449); have GE449 := Aside0.mk (gs hg : w.heap.size ≤ gb449); replace HB := Aside0.mk (below_step bw hb); have NB448_449 := Aside0.mk ((by rw [hg]; exact Nat.ne_of_lt (blk_lt (g := gb448) (o := .cells #[.slice A0_0 l0_0.length c0_0] 27 (0, 0)) (bo BK448.out)) : gb448 ≠ gb449)); have NB449_448 := Aside0.mk ((by rw [hg]; exact Nat.ne_of_gt (blk_lt (g := gb448) (o := .cells #[.slice A0_0 l0_0.length c0_0] 27 (0, 0)) (bo BK448.out)) : gb449 ≠ gb448)); replace BK448 := Aside0.mk (blk_below (g := gb448) (o := .cells #[.slice A0_0 l0_0.length c0_0] 27 (0, 0)) (bo BK448.out) hb); clear hb hbox hg) | ((with_reducible refine gate_dst (N := 4) rfl ?_); refine bx 4 #[.slice none 0 0] 27 ?_; intro gb450 hg w31 hbox hb; have BK450 := Aside0.mk (hbox); have GW450 := Aside0.mk (gs hg : w.heap.size ≤ gb450); have GE450 := Aside0.mk (gs hg : w.heap.size ≤ gb450); replace HB := Aside0.mk (below_step bw hb); have NB448_450 := Aside0.mk ((by rw [hg]; exact Nat.ne_of_lt (blk_lt (g := gb448) (o := .cells #[.slice A0_0 l0_0.length c0_0] 27 (0, 0)) (bo BK448.out)) : gb448 ≠ gb450)); have NB450_448 := Aside0.mk ((by rw [hg]; exact Nat.ne_of_gt (blk_lt (g := gb448) (o := .cells #[.slice A0_0 l0_0.length c0_0] 27 (0, 0)) (bo BK448.out)) : gb450 ≠ gb448)); replace BK448 := Aside0.mk (blk_below (g := gb448) (o := .cells #[.slice A0_0 l0_0.length c0_0] 27 (0, 0)) (bo BK448.out) hb); have NB449_450 := Aside0.mk ((by rw [hg]; exact Nat.ne_of_lt (blk_lt (g := gb449) (o := .cells #[.slice A1_0 l1_0.length c1_0] 27 (0, 0)) (bo BK449.out)) : gb449 ≠ gb450)); have NB450_449 := Aside0.mk ((by rw [hg]; exact Nat.ne_of_gt (blk_lt (g := gb449) (o := .cells #[.slice A1_0 l1_0.length c1_0] 27 (0, 0)) (bo BK449.out)) : gb450 ≠ gb449)); replace BK449 := Aside0.mk (blk_below (g := gb449) (o := .cells #[.slice A1_0 l1_0.length c1_0] 27 (0, 0)) (bo BK449.out) hb); clear hb hbox hg; have hnb32 := NB448_449.out; have hnc32 := NB449_448.out; have hnb33 := NB448_450.out; have hnc33 := NB450_448.out; have hcz34_0 := bc BK448 0 (.slice A0_0 l0_0.length c0_0); have hfz34_0 := blk_frozen BK448.out 0) | ((with_reducible refine gate_callee (f := 62) rfl ?_); refine gl (some 7) Try.func62 #[.agg #[.slice A0_0 l0_0.length c0_0]] ?_; (with_reducible refine (impl_IsSemigroup.calls k _ _ l0_0 true _ ?side1 ?side2 A3.out).mono ?_); (case side1 => exact co (Kd.C_below HR0_0.out HB.out)); (case side2 => exact HC0_0.out); rintro e w35 ⟨rfl, hb⟩; refine ⟨_, rfl, ?_⟩; replace BK448 := Aside0.mk (blk_below (g := gb448) (o := .cells #[.slice A0_0 l0_0.length c0_0] 27 (0, 0)) (bo BK448.out) hb); replace BK449 := Aside0.mk (blk_below (g := gb449) (o := .cells #[.slice A1_0 l1_0.length c1_0] 27 (0, 0)) (bo BK449.out) hb); replace BK450 := Aside0.mk (blk_below (g := gb450) (o := .cells #[.slice none 0 0] 27 (0, 0)) (bo BK450.out) hb); replace HB := Aside0.mk (below_step bw hb); clear hb; have hnb36 := NB449_450.out; have hnc36 := NB450_449.out; have hcz37_0 := bc BK449 0 (.slice A1_0 l1_0.length c1_0); have hfz37_0 := blk_frozen BK449.out 0) | (go_at_call 62; (with_reducible refine (impl_IsSemigroup.calls k _ _ l1_0 false _ ?side1 ?side2 A5.out).mono ?_); (case side1 => exact co (Kd.C_below HR1_0.out HB.out)); (case side2 => exact HC1_0.out); rintro e w38 ⟨rfl, hb⟩; replace BK448 := Aside0.mk (blk_below (g := gb448) (o := .cells #[.slice A0_0 l0_0.length c0_0] 27 (0, 0)) (bo BK448.out) hb); replace BK449 := Aside0.mk (blk_below (g := gb449) (o := .cells #[.slice A1_0 l1_0.length c1_0] 27 (0, 0)) (bo BK449.out) hb); replace BK450 := Aside0.mk (blk_below (g := gb450) (o := .cells #[.slice none 0 0] 27 (0, 0)) (bo BK450.out) hb); replace HB := Aside0.mk (below_step bw hb); clear hb; have hcz39_0 := bc BK450 0 (.slice none 0 0); have hfz39_0 := blk_frozen BK450.out 0))
   refine bodyPost_ret (results_ct rfl _ _ gb450 27 #[.slice none 0 0] (0, 0) _ rfl (by (with_reducible repeat (first | refine blk_drewN ?_ _ | refine blk_drew ?_ | refine blk_alloc ?_ _)); refine blk_put (cs := #[.slice none 0 0]) ?_ 0 _ rfl; (with_reducible repeat (first | refine blk_drewN ?_ _ | refine blk_drew ?_ | refine blk_alloc ?_ _)); exact BK450.out) Try.underlying27 rfl (by kernel_rfl)) rfl ?_
   exact ⟨_, re, by first | exact Kd.R_nil _ _ _ _ _ | exact Kd.N_nil _ _ _ _ _ | exact Kd.V_nil _ _ _ _ _ | exact Kd.Q_nil _ _ _ _ _ | exact Kd.S_nil _ _ _ _ _, bw⟩
 ·simp only [Option.some.injEq, Prod.mk.injEq] at H
  obtain ⟨rfl, rfl⟩ := H
  go_enter Try.func56, Try.ntmps56
  go_wp2_with (first | ((with_reducible refine gate_dst (N := 2) rfl ?_); refine bx 2 #[.slice A0_0 l0_0.length c0_0] 27 ?_; intro gb448 hg w40 hbox hb; have BK448 := Aside0.mk (hbox); have GW448 := Aside0.mk (gs hg : w.heap.size ≤ gb448); have GE448 := Aside0.mk (gs hg : w.heap.size ≤ gb448); replace HB := Aside0.mk (below_step bw hb); clear hb hbox hg) | ((with_reducible refine gate_dst (N := 3) rfl ?_); refine bx 3 #[.slice A1_0 l1_0.length c1_0] 27 ?_; intro gb449 hg w41 hbox hb; have BK449 := Aside0.mk (hbox); have GW449 := Aside0.mk (gs hg : w.heap.size ≤ gb449); have GE449 := Aside0.mk (gs hg : w.heap.size ≤ gb449); replace HB := Aside0.mk (below_step bw hb); have NB448_449 := Aside0.mk ((by rw [hg]; exact Nat.ne_of_lt (blk_lt (g := gb448) (o := .cells #[.slice A0_0 l0_0.length c0_0] 27 (0, 0)) (bo BK448.out)) : gb448 ≠ gb449)); have NB449_448 := Aside0.mk ((by rw [hg]; exact Nat.ne_of_gt (blk_lt (g := gb448) (o := .cells #[.slice A0_0 l0_0.length c0_0] 27 (0, 0)) (bo BK448.out)) : gb449 ≠ gb448)); replace BK448 := Aside0.mk (blk_below (g := gb448) (o := .cells #[.slice A0_0 l0_0.length c0_0] 27 (0, 0)) (bo BK448.out) hb); clear hb hbox hg) | ((with_reducible refine gate_dst (N := 4) rfl ?_); refine bx 4 #[.slice none 0 0] 27 ?_; intro gb450 hg w42 hbox hb; have BK450 := Aside0.mk (hbox); have GW450 := Aside0.mk (gs hg : w.heap.size ≤ gb450); have GE450 := Aside0.mk (gs hg : w.heap.size ≤ gb450); replace HB := Aside0.mk (below_step bw hb); have NB448_450 := Aside0.mk ((by rw [hg]; exact Nat.ne_of_lt (blk_lt (g := gb448) (o := .cells #[.slice A0_0 l0_0.length c0_0] 27 (0, 0)) (bo BK448.out)) : gb448 ≠ gb450)); have NB450_448 := Aside0.mk ((by rw [hg]; exact Nat.ne_of_gt (blk_lt (g := gb448) (o := .cells #[.slice A0_0 l0_0.length c0_0] 27 (0, 0)) (bo BK448.out)) : gb450 ≠ gb448)); replace BK448 := Aside0.mk (blk_below (g := gb448) (o := .cells #[.slice A0_0 l0_0.length c0_0] 27 (0, 0)) (bo BK448.out) hb); have NB449_450 := Aside0.mk ((by rw [hg]; exact Nat.ne_of_lt (blk_lt (g := gb449) (o := .cells #[.slice A1_0 l1_0.length c1_0] 27 (0, 0)) (bo BK449.out)) : gb449 ≠ gb450)); have NB450_449 := Aside0.mk ((by rw [hg]; exact Nat.ne_of_gt (blk_lt (g := gb449) (o := .cells #[.slice A1_0 l1_0.length c1_0] 27 (0, 0)) (bo BK449.out)) : gb450 ≠ gb449)); replace BK449 := Aside0.mk (blk_below (g := gb449) (o := .cells #[.slice A1_0 l1_0.length c1_0] 27 (0, 0)) (bo BK449.out) hb); clear hb hbox hg; have hnb43 := NB448_449.out; have hnc43 := NB449_448.out; have hnb44 := NB448_450.out; have hnc44 := NB450_448.out; have hcz45_0 := bc BK448 0 (.slice A0_0 l0_0.length c0_0); have hfz45_0 := blk_frozen BK448.out 0) | ((with_reducible refine gate_callee (f := 62) rfl ?_); refine gl (some 7) Try.func62 #[.agg #[.slice A0_0 l0_0.length c0_0]] ?_; (with_reducible refine (impl_IsSemigroup.calls k _ _ l0_0 false _ ?side1 ?side2 A3.out).mono ?_); (case side1 => exact co (Kd.C_below HR0_0.out HB.out)); (case side2 => exact HC0_0.out); rintro e w46 ⟨rfl, hb⟩; refine ⟨_, rfl, ?_⟩; replace BK448 := Aside0.mk (blk_below (g := gb448) (o := .cells #[.slice A0_0 l0_0.length c0_0] 27 (0, 0)) (bo BK448.out) hb); replace BK449 := Aside0.mk (blk_below (g := gb449) (o := .cells #[.slice A1_0 l1_0.length c1_0] 27 (0, 0)) (bo BK449.out) hb); replace BK450 := Aside0.mk (blk_below (g := gb450) (o := .cells #[.slice none 0 0] 27 (0, 0)) (bo BK450.out) hb); replace HB := Aside0.mk (below_step bw hb); clear hb; have hnb47 := NB450_449.out; have hnc47 := NB449_450.out; have hcz48_0 := bc BK450 0 (.slice none 0 0); have hfz48_0 := blk_frozen BK450.out 0))
  refine bodyPost_ret (results_ct rfl _ _ gb450 27 #[.slice none 0 0] (0, 0) _ rfl (by (with_reducible repeat (first | refine blk_drewN ?_ _ | refine blk_drew ?_ | refine blk_alloc ?_ _)); refine blk_put (cs := #[.slice none 0 0]) ?_ 0 _ rfl; (with_reducible repeat (first | refine blk_drewN ?_ _ | refine blk_drew ?_ | refine blk_alloc ?_ _)); exact BK450.out) Try.underlying27 rfl (by kernel_rfl)) rfl ?_
  exact ⟨_, re, by first | exact Kd.R_nil _ _ _ _ _ | exact Kd.N_nil _ _ _ _ _ | exact Kd.V_nil _ _ _ _ _ | exact Kd.Q_nil _ _ _ _ _ | exact Kd.S_nil _ _ _ _ _, bw⟩

end Go.Proofs.Ytlfdipnhlmjiaaa.C
