/- Contracts of functions of the program: impl_FromGaps, slices_Index_int_int, slices_Contains_int_int, impl_PseudoFrobenius, impl_Contains. -/
import Derived.Test.YtlfdipnhlmjiaaaC0
import Derived.Test.YtlfdipnhlmjiaaaC5
import Derived.Test.YtlfdipnhlmjiaaaC11
import Derived.Test.YtlfdipnhlmjiaaaC12
namespace Go.Proofs.Ytlfdipnhlmjiaaa.C
open Go.RowKit Go.Proofs.YtlfdipnhlmjiaaaW.PrintWords Go.Proofs.YtlfdipnhlmjiaaaW.PrintLast Go.Proofs.YtlfdipnhlmjiaaaW.PrintMore
attribute [local go_sem] max2_int min2_int max_two min_two max_three min_three max_four min_four
set_option linter.unusedVariables false
set_option linter.unusedSimpArgs false

/-! ### impl_FromGaps: function 76 -/
mutual
def impl_FromGaps.j0 : Nat → List Int → Bool → Option (List Int × Bool)
 | 0, _, _ => none
 | k + 1, x0, x23 => if x23 = true then (some (([] : List Int), false)) else (if 401 ≤ 281474976710656 then (impl_FromGaps.l0 k x0 (List.replicate 401 false) x0 (x0.length : Int) 0) else (none))
def impl_FromGaps.l0 : Nat → List Int → List Bool → List Int → Int → Int → Option (List Int × Bool)
 | 0, _, _, _, _, _ => none
 | k + 1, x0, x6, x26, x27, x28 => if x28 < x27 then (if 0 ≤ x28 then (if x28 < (x26.length : Int) then (if 0 ≤ (rd x26 x28) then (if (rd x26 x28) < (x6.length : Int) then (impl_FromGaps.l0 k x0 (x6.set ((rd x26 x28) : Int).toNat true) x26 x27 (wrap64 (x28 + 1))) else (none)) else (none)) else (none)) else (none)) else (impl_FromGaps.l1 k x0 x6 1 ([] : List Int))
def impl_FromGaps.l1 : Nat → List Int → List Bool → Int → List Int → Option (List Int × Bool)
 | 0, _, _, _, _ => none
 | k + 1, x0, x6, x10, x688000 => if x10 < (x6.length : Int) then (if 0 ≤ x10 then (impl_FromGaps.l2 k x0 x6 x10 (rdOf false x6 x10) 1 x688000) else (none)) else ((impl_IsSemigroup.f k x688000).bind fun t694 => (if t694 = true then ((impl_Gaps.f k x688000).bind fun t695 => ((slices_Equal_int_int.f k t695 x0).bind fun t698 => (if t698 = true then (some (x688000, true)) else (some (([] : List Int), false))))) else (some (([] : List Int), false))))
def impl_FromGaps.l2 : Nat → List Int → List Bool → Int → Bool → Int → List Int → Option (List Int × Bool)
 | 0, _, _, _, _, _, _ => none
 | k + 1, x0, x6, x10, x11, x12, x688000 => if (wrap64 (2 * x12)) ≤ x10 then (if x11 = true then (impl_FromGaps.l1 k x0 x6 (wrap64 (x10 + 1)) x688000) else (if 0 ≤ x12 then (if x12 < (x6.length : Int) then (if rdOf false x6 x12 = true then (impl_FromGaps.l2 k x0 x6 x10 false (wrap64 (x12 + 1)) x688000) else (if 0 ≤ (wrap64 (x10 - x12)) then (if (wrap64 (x10 - x12)) < (x6.length : Int) then (impl_FromGaps.l2 k x0 x6 x10 (!(rdOf false x6 (wrap64 (x10 - x12)))) (wrap64 (x12 + 1)) x688000) else (none)) else (none))) else (none)) else (none))) else (if x11 = true then (impl_FromGaps.l1 k x0 x6 (wrap64 (x10 + 1)) x688000) else (if x688000.length < 17592186044416 then (impl_FromGaps.l1 k x0 x6 (wrap64 (x10 + 1)) (x688000 ++ [x10])) else (none)))
end
def impl_FromGaps.f (k : Nat) (l0 : List Int) : Option (List Int × Bool) := (impl_GapClash.f k l0).bind fun bt677 => (if bt677.2.2 = true then (impl_FromGaps.j0 k l0 true) else ((impl_gapList.f k l0).bind fun t681 => (impl_FromGaps.j0 k l0 (!t681))))
set_option maxHeartbeats 8000000 in
set_option maxRecDepth 100000 in
theorem impl_FromGaps.calls (k : Nat) (A0 : Option Addr) (c0 : Nat) (l0 : List Int) (r1 : List Int) (r2 : Bool) (w : World) (hr0 : Kd.C (Kd.int .i64) w A0 l0.length l0) (hc0 : l0.length ≤ c0) (h : impl_FromGaps.f k l0 = some (r1, r2)) :
  Calls Try.prog 76 #[.slice A0 l0.length c0] w fun e w' => ∃ v0_ : Value, e = .returned (.tuple #[.agg #[v0_], .bool r2]) ∧ Kd.R (Kd.int .i64) 3 w' w.heap.size (fun _ => True) v0_ r1 ∧ Below w.heap.size w w' := by
 have hu27 := Try.underlying27
 have hu94 := Try.underlying94
 have HR0 := Aside0.mk hr0
 have HC0 := Aside0.mk hc0
 clear hr0 hc0
 have HB := Aside0.mk (Below.refl w.heap.size w)
 have H : ((impl_GapClash.f k l0).bind fun bt677 => (if bt677.2.2 = true then (impl_FromGaps.j0 k l0 true) else ((impl_gapList.f k l0).bind fun t681 => (impl_FromGaps.j0 k l0 (!t681))))) = some (r1, r2) := h
 clear h
 replace H := ga H; obtain ⟨⟨t677, t678, t679⟩, A2, H⟩ := H
 replace H : (if t679 = true then (impl_FromGaps.j0 k l0 true) else ((impl_gapList.f k l0).bind fun t681 => (impl_FromGaps.j0 k l0 (!t681)))) = some (r1, r2) := H
 have HC3 := Aside0.mk H
 clear H
 go_enter Try.func76, Try.ntmps76
 go_upto_region 2 with (first | ((with_reducible refine gate_dst (N := 2) rfl ?_); refine bx 2 #[.slice none 0 0] 27 ?_; intro gb676 hg w4 hbox hb; have BK676 := Aside0.mk (hbox); have GW676 := Aside0.mk (gs hg : w.heap.size ≤ gb676); have GE676 := Aside0.mk (gs hg : w.heap.size ≤ gb676); replace HB := Aside0.mk (below_step bw hb); clear hb hbox hg) | ((with_reducible refine gate_callee (f := 128) rfl ?_); refine gl (some 15) Try.func128 #[.slice A0 l0.length c0] ?_; (with_reducible refine (impl_GapClash.calls k _ _ l0 t677 t678 t679 _ ?side1 ?side2 A2.out).mono ?_); (case side1 => exact co (Kd.C_below HR0.out HB.out)); (case side2 => exact HC0.out); rintro e w5 ⟨rfl, hb⟩; refine ⟨_, rfl, ?_⟩; replace BK676 := Aside0.mk (blk_below (g := gb676) (o := .cells #[.slice none 0 0] 27 (0, 0)) (bo BK676.out) hb); replace HB := Aside0.mk (below_step bw hb); clear hb) | ((with_reducible refine gate_dst (N := 4) rfl ?_); refine bx 4 #[.int .i64 0, .int .i64 0] 94 ?_; intro gb680 hg w6 hbox hb; have BK680 := Aside0.mk (hbox); have GW680 := Aside0.mk (gs hg : w.heap.size ≤ gb680); have GE680 := Aside0.mk (gs hg : w.heap.size ≤ gb680); replace HB := Aside0.mk (below_step bw hb); have NB676_680 := Aside0.mk ((by rw [hg]; exact Nat.ne_of_lt (blk_lt (g := gb676) (o := .cells #[.slice none 0 0] 27 (0, 0)) (bo BK676.out)) : gb676 ≠ gb680)); have NB680_676 := Aside0.mk ((by rw [hg]; exact Nat.ne_of_gt (blk_lt (g := gb676) (o := .cells #[.slice none 0 0] 27 (0, 0)) (bo BK676.out)) : gb680 ≠ gb676)); replace BK676 := Aside0.mk (blk_below (g := gb676) (o := .cells #[.slice none 0 0] 27 (0, 0)) (bo BK676.out) hb); clear hb hbox hg; have hnb7 := NB680_676.out; have hnc7 := NB676_680.out; have hcz8_0 := bc BK680 0 (.int .i64 0); have hcz8_1 := bc BK680 1 (.int .i64 0); have hfz8_0 := blk_frozen BK680.out 0; have hfz8_1 := blk_frozen BK680.out 1))
 (try simp only [Act.put, List.setIfInBounds_toArray, List.set_cons_zero, List.set_cons_succ])
 go_cut [23] (fun v23 wc => ∃ (kq : Nat) (x23_2 : Bool), v23 = .bool x23_2 ∧ Aside0 (impl_FromGaps.j0 kq l0 x23_2 = some (r1, r2)) ∧ Aside0 (kq ≤ k) ∧ Aside0 (wc.heap[gb676]? = some (.cells #[(.slice none 0 0)] 27 (0, 0))) ∧ Aside0 (wc.heap[gb680]? = some (.cells #[.int .i64 t677, .int .i64 t678] 94 (0, 0))) ∧ Aside0 (Below w.heap.size w wc))
 case first =>
  have H := HC3.out
  clear HC3
  replace H := gb H; obtain ⟨rfl, H⟩ | ⟨rfl, H⟩ := H
  ·have H' := Aside0.mk H
   clear H
   go_wp2
   go_meet
   case rel => exact ⟨_, (true), rr, H', ⟨om⟩, ⟨by (with_reducible repeat (first | refine blk_drewN ?_ _ | refine blk_drew ?_ | refine blk_alloc ?_ _)); refine blk_far ?_ NB676_680.out _; (with_reducible repeat (first | refine blk_drewN ?_ _ | refine blk_drew ?_ | refine blk_alloc ?_ _)); refine blk_far ?_ NB676_680.out _; (with_reducible repeat (first | refine blk_drewN ?_ _ | refine blk_drew ?_ | refine blk_alloc ?_ _)); exact BK676.out⟩, ⟨by (with_reducible repeat (first | refine blk_drewN ?_ _ | refine blk_drew ?_ | refine blk_alloc ?_ _)); refine blk_put (cs := #[.int .i64 t677, .int .i64 0]) ?_ 1 _ rfl; (with_reducible repeat (first | refine blk_drewN ?_ _ | refine blk_drew ?_ | refine blk_alloc ?_ _)); refine blk_put (cs := #[.int .i64 0, .int .i64 0]) ?_ 0 _ rfl; (with_reducible repeat (first | refine blk_drewN ?_ _ | refine blk_drew ?_ | refine blk_alloc ?_ _)); exact BK680.out⟩, ⟨bw⟩⟩
  ·replace H := ga H; obtain ⟨t681, A10, H⟩ := H
   have H' := Aside0.mk H
   clear H
   go_wp2_with (first | (go_at_call 129; (with_reducible refine (impl_gapList.calls k _ _ l0 t681 _ ?side1 ?side2 A10.out).mono ?_); (case side1 => exact Kd.C_below HR0.out bw); (case side2 => exact HC0.out); rintro e w' ⟨rfl, ⟨nd, rfl⟩⟩))
   go_meet
   case rel => exact ⟨_, (!t681), rr, H', ⟨om⟩, ⟨by (with_reducible repeat (first | refine blk_drewN ?_ _ | refine blk_drew ?_ | refine blk_alloc ?_ _)); refine blk_far ?_ NB676_680.out _; (with_reducible repeat (first | refine blk_drewN ?_ _ | refine blk_drew ?_ | refine blk_alloc ?_ _)); refine blk_far ?_ NB676_680.out _; (with_reducible repeat (first | refine blk_drewN ?_ _ | refine blk_drew ?_ | refine blk_alloc ?_ _)); exact BK676.out⟩, ⟨by (with_reducible repeat (first | refine blk_drewN ?_ _ | refine blk_drew ?_ | refine blk_alloc ?_ _)); refine blk_put (cs := #[.int .i64 t677, .int .i64 0]) ?_ 1 _ rfl; (with_reducible repeat (first | refine blk_drewN ?_ _ | refine blk_drew ?_ | refine blk_alloc ?_ _)); refine blk_put (cs := #[.int .i64 0, .int .i64 0]) ?_ 0 _ rfl; (with_reducible repeat (first | refine blk_drewN ?_ _ | refine blk_drew ?_ | refine blk_alloc ?_ _)); exact BK680.out⟩, ⟨bw⟩⟩
 case rest =>
  clear HC3
  try clear hcz8_0; try clear hcz8_1; try clear hfz8_0; try clear hfz8_1
  obtain ⟨kq, x23_2, rfl, HA, HJ2, BK676, BK680, HB⟩ := hcut
  cases kq with
  | zero => exact absurd HA.out (by simp [impl_FromGaps.j0])
  | succ kj2 =>
   have H := HA.out
   clear HA
   simp only [impl_FromGaps.j0] at H
   replace H := gb H; obtain ⟨rfl, H⟩ | ⟨rfl, H⟩ := H
   ·simp only [Option.some.injEq, Prod.mk.injEq] at H
    obtain ⟨rfl, rfl⟩ := H
    have hnb12 := NB676_680.out
    have hnc12 := NB680_676.out
    have hcz13_0 := bc BK676 0 (.slice none 0 0)
    have hfz13_0 := blk_frozen BK676.out 0
    go_wp2
    refine bodyPost_ret (results_ct rfl _ _ gb676 27 #[.slice none 0 0] (0, 0) _ rfl (by (with_reducible repeat (first | refine blk_drewN ?_ _ | refine blk_drew ?_ | refine blk_alloc ?_ _)); refine blk_put (cs := #[.slice none 0 0]) ?_ 0 _ rfl; (with_reducible repeat (first | refine blk_drewN ?_ _ | refine blk_drew ?_ | refine blk_alloc ?_ _)); exact BK676.out) Try.underlying27 rfl (by kernel_rfl)) rfl ?_
    exact ⟨_, re, by first | exact Kd.R_nil _ _ _ _ _ | exact Kd.N_nil _ _ _ _ _ | exact Kd.V_nil _ _ _ _ _ | exact Kd.Q_nil _ _ _ _ _ | exact Kd.S_nil _ _ _ _ _, bw⟩
   ·replace H := gp H; obtain ⟨c14, H⟩ := H
    have c14b0 := eq_true c14
    have c14b1 : decide (401 ≤ 281474976710656) = true := decide_eq_true c14
    clear c14
    obtain ⟨y682, hy682⟩ : ∃ y_ : List Bool, y_ = (List.replicate 401 false) := ⟨_, rfl⟩
    replace H : (impl_FromGaps.l0 kj2 l0 y682 l0 (l0.length : Int) 0) = some (r1, r2) := by first | (rw [hy682]; with_reducible exact H) | (have H2_ := (Option.bind_some _ _).symm.trans H; rw [hy682]; with_reducible exact H2_) | (have H2_ := (Option.bind_some _ _).symm.trans H; with_reducible exact H2_) | with_reducible exact H | (rw [hy682]; exact H) | exact H
    have Ny682 := Aside0.mk hy682
    clear hy682
    have H' := Aside0.mk H
    clear H
    go_wp2_with (first | ((with_reducible refine gate_dst (N := 25) rfl ?_); refine Kd.R_make Kd.bool _ 4 rfl (N := 25) rfl 90 _ _ rfl 401 rfl rfl Try.underlying90 (.bool false) 1 info4 rfl (by decide) (by omega) false (ok := fun _ => True) (okp := fun _ => True) rfl (fun _ hk => hk) trivial (by omega) (by omega) (Below.refl _ _) (Nat.le_refl _) ?_; intro v683 w15 ho16 hb hg_ hnew_; clear hg_ hnew_; (first | rw [← Ny682.out] at ho16 | (simp only [Int.reduceToNat] at ho16; rw [← Ny682.out] at ho16)); have HO684 := Aside0.mk (Kd.R_lower ho16 (below_size bw)); replace BK676 := Aside0.mk (blk_below (g := gb676) (o := .cells #[.slice none 0 0] 27 (0, 0)) (bo BK676.out) hb); replace BK680 := Aside0.mk (blk_below (g := gb680) (o := .cells #[.int .i64 t677, .int .i64 t678] 94 (0, 0)) (bo BK680.out) hb); replace HB := Aside0.mk (below_step bw hb); clear hb ho16))
    go_loopg [28] kj2 (fun kq v28 w' => ∃ (x6_2 : List Bool) (x28_2 : Int), v28 = .int .i64 x28_2 ∧ Aside0 (impl_FromGaps.l0 kq l0 x6_2 l0 (l0.length : Int) x28_2 = some (r1, r2)) ∧ Aside0 (kq ≤ kj2) ∧ Aside0 (Kd.R Kd.bool 4 w' w.heap.size (fun _ => True) v683 x6_2) ∧ Aside0 (w'.heap[gb676]? = some (.cells #[(.slice none 0 0)] 27 (0, 0))) ∧ Aside0 (w'.heap[gb680]? = some (.cells #[.int .i64 t677, .int .i64 t678] 94 (0, 0))) ∧ Aside0 (Below w.heap.size w w'))
    case atStart => exact ⟨(y682), (0), rr, H', ⟨Nat.le_refl _⟩, ⟨ro HO684.out⟩, ⟨bo BK676.out⟩, ⟨bo BK680.out⟩, ⟨bw⟩⟩
    case round =>
     clear H'
     try clear c14; try clear c14b0; try clear c14b1; try clear hcz13_0; try clear hcz8_0; try clear hcz8_1; try clear hfz13_0; try clear hfz8_0; try clear hfz8_1
     obtain ⟨x6_2, x28_2, rfl, HA, HK2, HO_6, BK676, BK680, HB⟩ := hrel
     cases gk with
     | zero => exact absurd HA.out (by simp [impl_FromGaps.l0])
     | succ k2 =>
      have H := HA.out
      clear HA
      simp only [impl_FromGaps.l0] at H
      replace H := gi H; obtain ⟨c17b0, H⟩ | ⟨c17b0, H⟩ := H
      ·replace H := gd H; obtain ⟨c18b0, H⟩ := H
       replace H := gd H; obtain ⟨c19b0, H⟩ := H
       replace H := gd H; obtain ⟨c20b0, H⟩ := H
       replace H := gd H; obtain ⟨c21b0, H⟩ := H
       obtain ⟨y686, hy686⟩ : ∃ y_ : List Bool, y_ = (x6_2.set ((rd l0 x28_2) : Int).toNat true) := ⟨_, rfl⟩
       replace H : (impl_FromGaps.l0 k2 l0 y686 l0 (l0.length : Int) (wrap64 (x28_2 + 1))) = some (r1, r2) := by first | (rw [hy686]; with_reducible exact H) | (have H2_ := (Option.bind_some _ _).symm.trans H; rw [hy686]; with_reducible exact H2_) | (have H2_ := (Option.bind_some _ _).symm.trans H; with_reducible exact H2_) | with_reducible exact H | (rw [hy686]; exact H) | exact H
       have Ny686 := Aside0.mk hy686
       clear hy686
       have H' := Aside0.mk H
       clear H
       obtain ⟨⟨ad685, e685, hx685_0⟩, p685, q685⟩ := pq (Kd.at_int HR0.out x28_2)
       cases e685
       replace hx685_0 := (HB.out.cell (World.block_lt_of_cell? w _ hx685_0)).trans hx685_0
       have p22 : 0 ≤ ((rd l0 x28_2) : Int) := of_decide_eq_true (by first | (with_reducible assumption) | assumption)
       have q22 : ((rd l0 x28_2) : Int) < ((x6_2.length : Int) : Int) := of_decide_eq_true (by first | (with_reducible assumption) | assumption)
       obtain ⟨go22, co22, eo22, gb22, gl22, cl22, HG22⟩ := Kd.R_form HO_6.out (by omega)
       (first | cases eo22 | (injection eo22 with ea_ en_ ec_; (first | subst ea_ | (injection ea_ with ea_; subst ea_)); subst ec_; clear en_))
       have GB22 := Aside0.mk gb22
       have GG22 := Aside0.mk HG22
       clear gb22 gl22 HG22
       obtain ⟨hx22_0, hf22_0⟩ := Kd.R_celln false HO_6.out ((rd l0 x28_2) : Int) p22 q22
       replace p22 := eq_true p22
       replace q22 := eq_true q22
       have HP23 := Kd.R_putg HO_6.out ((rd l0 x28_2) : Int) true
       go_wp2_with (first | ((with_reducible refine gate_store (t := 4) (p := 34) rfl ?_); refine store_event (t := 4) (p := 34) (v := ?vo_w24) (w1 := (wr.setCell ⟨go22, ((rd l0 x28_2) : Int).toNat, none⟩ (.bool true))) ?hg ?ho ?hn ?hr ?_; (case ho => rfl); (case hg => rfl); (case hn => rfl); (case hr => first | (go_simp; done) | (go_simp; rfl)); intro w24 hw; have hg : wr.grownBy w24 (some go22) := (by rw [hw]; exact HP23.2); have hp_ : Kd.R Kd.bool 4 w24 w.heap.size (fun _ => True) (.slice (some ⟨go22, 0, none⟩) x6_2.length co22) y686 := (by rw [hw, Ny686.out]; exact HP23.1); clear HP23; replace BK676 := Aside0.mk (blk_grown (g := gb676) (o := .cells #[.slice none 0 0] 27 (0, 0)) (bo BK676.out) hg (Kd.R_ne HO_6.out BK676.out (by decide))); replace BK680 := Aside0.mk (blk_grown (g := gb680) (o := .cells #[.int .i64 t677, .int .i64 t678] 94 (0, 0)) (bo BK680.out) hg (Kd.R_ne HO_6.out BK680.out (by decide))); replace HO_6 := Aside0.mk (hp_); replace HB := Aside0.mk ((by rw [hw]; exact below_set (HB.out) GB22.out : Below w.heap.size w w24)); clear hg hw hp_))
       go_roundg k2
       case measure => have := HJ2.out; have := HK2.out; omega
       case rel => exact ⟨(y686), (wrap64 (x28_2 + 1)), rr, H', ⟨by have := HJ2.out; have := HK2.out; omega⟩, ⟨ro HO_6.out⟩, ⟨bo BK676.out⟩, ⟨bo BK680.out⟩, ⟨bw⟩⟩
      ·have H' := Aside0.mk H
       clear H
       go_wp2_with (first | ((with_reducible refine gate_dst (N := 9) rfl ?_); refine bx 9 #[.slice none 0 0] 27 ?_; intro gb687 hg w25 hbox hb; replace HO_6 := Aside0.mk (Kd.R_below (ro HO_6.out) hb); have BK687 := Aside0.mk (hbox); have GW687 := Aside0.mk (gs hg : w.heap.size ≤ gb687); have GE687 := Aside0.mk (gs hg : w.heap.size ≤ gb687); replace HB := Aside0.mk (below_step bw hb); have NB676_687 := Aside0.mk ((by rw [hg]; exact Nat.ne_of_lt (blk_lt (g := gb676) (o := .cells #[.slice none 0 0] 27 (0, 0)) (bo BK676.out)) : gb676 ≠ gb687)); have NB687_676 := Aside0.mk ((by rw [hg]; exact Nat.ne_of_gt (blk_lt (g := gb676) (o := .cells #[.slice none 0 0] 27 (0, 0)) (bo BK676.out)) : gb687 ≠ gb676)); replace BK676 := Aside0.mk (blk_below (g := gb676) (o := .cells #[.slice none 0 0] 27 (0, 0)) (bo BK676.out) hb); have NB680_687 := Aside0.mk ((by rw [hg]; exact Nat.ne_of_lt (blk_lt (g := gb680) (o := .cells #[.int .i64 t677, .int .i64 t678] 94 (0, 0)) (bo BK680.out)) : gb680 ≠ gb687)); have NB687_680 := Aside0.mk ((by rw [hg]; exact Nat.ne_of_gt (blk_lt (g := gb680) (o := .cells #[.int .i64 t677, .int .i64 t678] 94 (0, 0)) (bo BK680.out)) : gb687 ≠ gb680)); replace BK680 := Aside0.mk (blk_below (g := gb680) (o := .cells #[.int .i64 t677, .int .i64 t678] 94 (0, 0)) (bo BK680.out) hb); clear hb hbox hg; have hnb26 := NB687_676.out; have hnc26 := NB676_687.out; have hnb27 := NB687_680.out; have hnc27 := NB680_687.out; have hcz28_0 := bc BK687 0 (.slice none 0 0); have hfz28_0 := blk_frozen BK687.out 0))
       go_loopg [10] k2 (fun kq v10 w' => ∃ (x10_3 : Int) (x688000_3 : List Int) (u688000 : Value), v10 = .int .i64 x10_3 ∧ Aside0 (impl_FromGaps.l1 kq l0 x6_2 x10_3 x688000_3 = some (r1, r2)) ∧ Aside0 (kq ≤ k2) ∧ Aside0 (Kd.R Kd.bool 4 w' w.heap.size (fun _ => True) v683 x6_2) ∧ Aside0 (Kd.R (Kd.int .i64) 3 w' w.heap.size (fun _ => True) u688000 x688000_3) ∧ Aside0 (w'.heap[gb676]? = some (.cells #[(.slice none 0 0)] 27 (0, 0))) ∧ Aside0 (w'.heap[gb680]? = some (.cells #[.int .i64 t677, .int .i64 t678] 94 (0, 0))) ∧ Aside0 (w'.heap[gb687]? = some (.cells #[u688000] 27 (0, 0))) ∧ Aside0 (Below w.heap.size w w'))
       case atStart => exact ⟨(1), (([] : List Int)), (.slice none 0 0), rr, H', ⟨Nat.le_refl _⟩, ⟨by (with_reducible repeat (first | apply Kd.R_alloc | apply Kd.R_drewN | apply Kd.R_drew)); exact Kd.R_mono (Kd.R_far (p := ⟨gb687, 0, none⟩) (Kd.R_types HO_6.out BK687.out (by decide)) (fun _ hk => hk.2) (.slice none 0 0)) (fun _ hk => trivial)⟩, ⟨by first | exact Kd.R_nil _ _ _ _ _ | exact Kd.N_nil _ _ _ _ _ | exact Kd.V_nil _ _ _ _ _ | exact Kd.Q_nil _ _ _ _ _ | exact Kd.S_nil _ _ _ _ _⟩, ⟨by (with_reducible repeat (first | refine blk_drewN ?_ _ | refine blk_drew ?_ | refine blk_alloc ?_ _)); refine blk_far ?_ NB676_687.out _; (with_reducible repeat (first | refine blk_drewN ?_ _ | refine blk_drew ?_ | refine blk_alloc ?_ _)); exact BK676.out⟩, ⟨by (with_reducible repeat (first | refine blk_drewN ?_ _ | refine blk_drew ?_ | refine blk_alloc ?_ _)); refine blk_far ?_ NB680_687.out _; (with_reducible repeat (first | refine blk_drewN ?_ _ | refine blk_drew ?_ | refine blk_alloc ?_ _)); exact BK680.out⟩, ⟨by (with_reducible repeat (first | refine blk_drewN ?_ _ | refine blk_drew ?_ | refine blk_alloc ?_ _)); refine blk_put (cs := #[.slice none 0 0]) ?_ 0 _ rfl; (with_reducible repeat (first | refine blk_drewN ?_ _ | refine blk_drew ?_ | refine blk_alloc ?_ _)); exact BK687.out⟩, ⟨bw⟩⟩
       case round =>
        clear H'
        try clear c14; try clear c14b0; try clear c14b1; try clear c17b0; try clear c18b0; try clear c19b0; try clear c20b0; try clear c21b0; try clear p22; try clear q22; try clear hcz13_0; try clear hcz28_0; try clear hcz8_0; try clear hcz8_1; try clear hfz13_0; try clear hfz28_0; try clear hfz8_0; try clear hfz8_1; try clear hx22_0; try clear hx685_0; try clear p685; try clear q685
        obtain ⟨x10_3, x688000_3, u688000, rfl, HA, HK3, HO_6, HO_688000, BK676, BK680, BK687, HB⟩ := hrel
        cases gk with
        | zero => exact absurd HA.out (by simp [impl_FromGaps.l1])
        | succ k3 =>
         have H := HA.out
         clear HA
         simp only [impl_FromGaps.l1] at H
         replace H := gi H; obtain ⟨c29b0, H⟩ | ⟨c29b0, H⟩ := H
         ·replace H := gd H; obtain ⟨c30b0, H⟩ := H
          have H' := Aside0.mk H
          clear H
          obtain ⟨Ao31, co31, eo31⟩ := Kd.R_slice HO_6.out
          subst eo31
          obtain ⟨⟨ad688, e688, hx688_0⟩, p688, q688⟩ := pq (Kd.at_bool (Kd.R_reads' HO_6.out).2.2 x10_3)
          cases e688
          go_wp2
          go_loopg [11, 12] k3 (fun kq v11 v12 w' => ∃ (x11_4 : Bool) (x12_4 : Int), v11 = .bool x11_4 ∧ v12 = .int .i64 x12_4 ∧ Aside0 (impl_FromGaps.l2 kq l0 x6_2 x10_3 x11_4 x12_4 x688000_3 = some (r1, r2)) ∧ Aside0 (kq ≤ k3) ∧ Aside0 (Kd.R Kd.bool 4 w' w.heap.size (fun _ => True) (.slice (some ad688) x6_2.length co31) x6_2) ∧ Aside0 (Kd.R (Kd.int .i64) 3 w' w.heap.size (fun _ => True) u688000 x688000_3) ∧ Aside0 (w'.heap[gb676]? = some (.cells #[(.slice none 0 0)] 27 (0, 0))) ∧ Aside0 (w'.heap[gb680]? = some (.cells #[.int .i64 t677, .int .i64 t678] 94 (0, 0))) ∧ Aside0 (w'.heap[gb687]? = some (.cells #[u688000] 27 (0, 0))) ∧ Aside0 (Below w.heap.size w w'))
          case atStart => exact ⟨(rdOf false x6_2 x10_3), (1), rr, rr, H', ⟨Nat.le_refl _⟩, ⟨ro HO_6.out⟩, ⟨ro HO_688000.out⟩, ⟨bo BK676.out⟩, ⟨bo BK680.out⟩, ⟨bo BK687.out⟩, ⟨bw⟩⟩
          case round =>
           clear H'
           try clear c14; try clear c14b0; try clear c14b1; try clear c17b0; try clear c18b0; try clear c19b0; try clear c20b0; try clear c21b0; try clear p22; try clear q22; try clear c29b0; try clear c30b0; try clear hcz13_0; try clear hcz28_0; try clear hcz8_0; try clear hcz8_1; try clear hfz13_0; try clear hfz28_0; try clear hfz8_0; try clear hfz8_1; try clear hx22_0; try clear hx685_0; try clear hx688_0; try clear p685; try clear p688; try clear q685; try clear q688
           obtain ⟨x11_4, x12_4, rfl, rfl, HA, HK4, HO_6, HO_688000, BK676, BK680, BK687, HB⟩ := hrel
           cases gk with
           | zero => exact absurd HA.out (by simp [impl_FromGaps.l2])
           | succ k4 =>
            have H := HA.out
            clear HA
            simp only [impl_FromGaps.l2] at H
            replace H := gi H; obtain ⟨c32b0, H⟩ | ⟨c32b0, H⟩ := H
            ·replace H := gb H; obtain ⟨rfl, H⟩ | ⟨rfl, H⟩ := H
             ·have H' := Aside0.mk H
              clear H
              go_wp2
              go_roundg k4
              case measure => have := HJ2.out; have := HK2.out; have := HK3.out; have := HK4.out; omega
              case rel => exact ⟨(wrap64 (x10_3 + 1)), (x688000_3), (u688000), rr, H', ⟨by have := HJ2.out; have := HK2.out; have := HK3.out; have := HK4.out; omega⟩, ⟨ro HO_6.out⟩, ⟨ro HO_688000.out⟩, ⟨bo BK676.out⟩, ⟨bo BK680.out⟩, ⟨bo BK687.out⟩, ⟨bw⟩⟩
             ·replace H := gd H; obtain ⟨c34b0, H⟩ := H
              replace H := gd H; obtain ⟨c35b0, H⟩ := H
              obtain ⟨bq36, hbq36⟩ : ∃ b_ : Bool, b_ = (rdOf false x6_2 x12_4) := ⟨_, rfl⟩
              replace H : (if bq36 = true then (impl_FromGaps.l2 k4 l0 x6_2 x10_3 false (wrap64 (x12_4 + 1)) x688000_3) else (if 0 ≤ (wrap64 (x10_3 - x12_4)) then (if (wrap64 (x10_3 - x12_4)) < (x6_2.length : Int) then (impl_FromGaps.l2 k4 l0 x6_2 x10_3 (!(rdOf false x6_2 (wrap64 (x10_3 - x12_4)))) (wrap64 (x12_4 + 1)) x688000_3) else (none)) else (none))) = some (r1, r2) := by rw [← hbq36] at H; exact H
              have Nbq36 := Aside0.mk hbq36
              clear hbq36
              replace H := gb H; obtain ⟨rfl, H⟩ | ⟨rfl, H⟩ := H
              ·have H' := Aside0.mk H
               clear H
               obtain ⟨⟨ad689, e689, hx689_0⟩, p689, q689⟩ := pq (Kd.at_bool (Kd.R_reads' HO_6.out).2.2 x12_4)
               (try rw [← Nbq36.out] at hx689_0)
               obtain rfl : ad688 = ad689 := (by injection e689)
               go_wp2
               go_roundg k4
               case measure => have := HJ2.out; have := HK2.out; have := HK3.out; have := HK4.out; omega
               case rel => exact ⟨(false), (wrap64 (x12_4 + 1)), rr, rr, H', ⟨by have := HJ2.out; have := HK2.out; have := HK3.out; have := HK4.out; omega⟩, ⟨ro HO_6.out⟩, ⟨ro HO_688000.out⟩, ⟨bo BK676.out⟩, ⟨bo BK680.out⟩, ⟨bo BK687.out⟩, ⟨bw⟩⟩
              ·obtain ⟨ji38, hji38⟩ : ∃ j_ : Int, (wrap64 (x10_3 - x12_4)) = j_ := ⟨_, rfl⟩
               replace H : (if 0 ≤ (ji38) then (if (ji38) < (x6_2.length : Int) then (impl_FromGaps.l2 k4 l0 x6_2 x10_3 (!(rdOf false x6_2 (ji38))) (wrap64 (x12_4 + 1)) x688000_3) else (none)) else (none)) = some (r1, r2) := by first | (rw [hji38] at H; exact H) | (simp only [hji38] at H ⊢; exact H)
               have hji38w : (IntKind.i64.wrap (x10_3 - x12_4)) = ji38 := (i64_w _).trans hji38
               replace H := gd H; obtain ⟨c39b0, H⟩ := H
               replace H := gd H; obtain ⟨c40b0, H⟩ := H
               have H' := Aside0.mk H
               clear H
               obtain ⟨⟨ad689, e689, hx689_0⟩, p689, q689⟩ := pq (Kd.at_bool (Kd.R_reads' HO_6.out).2.2 x12_4)
               (try rw [← Nbq36.out] at hx689_0)
               obtain rfl : ad688 = ad689 := (by injection e689)
               obtain ⟨⟨ad690, e690, hx690_0⟩, p690, q690⟩ := pq (Kd.at_bool (Kd.R_reads' HO_6.out).2.2 (ji38))
               (try rw [← Nbq36.out] at hx690_0)
               obtain rfl : ad688 = ad690 := (by injection e690)
               go_wp2
               go_roundg k4
               case measure => have := HJ2.out; have := HK2.out; have := HK3.out; have := HK4.out; omega
               case rel => exact ⟨(!(rdOf false x6_2 (ji38))), (wrap64 (x12_4 + 1)), (by first | rfl | (simp; done) | (simp only [← hji38] <;> (first | rfl | simp)) | (simp [*]; done)), rr, H', ⟨by have := HJ2.out; have := HK2.out; have := HK3.out; have := HK4.out; omega⟩, ⟨ro HO_6.out⟩, ⟨ro HO_688000.out⟩, ⟨bo BK676.out⟩, ⟨bo BK680.out⟩, ⟨bo BK687.out⟩, ⟨bw⟩⟩
            ·replace H := gb H; obtain ⟨rfl, H⟩ | ⟨rfl, H⟩ := H
             ·have H' := Aside0.mk H
              clear H
              go_wp2
              go_roundg k4
              case measure => have := HJ2.out; have := HK2.out; have := HK3.out; have := HK4.out; omega
              case rel => exact ⟨(wrap64 (x10_3 + 1)), (x688000_3), (u688000), rr, H', ⟨by have := HJ2.out; have := HK2.out; have := HK3.out; have := HK4.out; omega⟩, ⟨ro HO_6.out⟩, ⟨ro HO_688000.out⟩, ⟨bo BK676.out⟩, ⟨bo BK680.out⟩, ⟨bo BK687.out⟩, ⟨bw⟩⟩
             ·by_cases c42 : x688000_3.length < 17592186044416
              rotate_left
              ·rw [if_neg c42] at H
               exact absurd H (by simp)
              rw [if_pos c42] at H
              have LMc42 := Aside0.mk c42
              clear c42
              obtain ⟨y691, hy691⟩ : ∃ y_ : List Int, y_ = (x688000_3 ++ [x10_3]) := ⟨_, rfl⟩
              replace H : (impl_FromGaps.l1 k4 l0 x6_2 (wrap64 (x10_3 + 1)) y691) = some (r1, r2) := by first | (rw [hy691]; with_reducible exact H) | (have H2_ := (Option.bind_some _ _).symm.trans H; rw [hy691]; with_reducible exact H2_) | (have H2_ := (Option.bind_some _ _).symm.trans H; with_reducible exact H2_) | with_reducible exact H | (rw [hy691]; exact H) | exact H
              have Ny691 := Aside0.mk hy691
              clear hy691
              have H' := Aside0.mk H
              clear H
              have hnb43 := NB687_676.out
              have hnc43 := NB676_687.out
              have hnb44 := NB687_680.out
              have hnc44 := NB680_687.out
              have hcz45_0 := bc BK687 0 (u688000)
              have hfz45_0 := blk_frozen BK687.out 0
              go_wp2_with (first | ((with_reducible refine gate_builtin (b := .append) (xs := #[.tmp 74, .tmp 76]) rfl ?_); at_builtin; refine Kd.R_append (Kd.int .i64) (w0 := w) w.heap.size rfl (.tmp 74) (.tmp 76) 22 3 (.int .i64 0) 8 rfl Try.underlying22 info3 rfl (by decide) (by omega) u688000 x688000_3 x10_3 [.int .i64 x10_3] (fun _ => True) (fun _ => False) rfl rfl ?aP (fun _ hk => hk.elim) ?aF ?aO ?aB ?aS ?aL ?_; (case aP => exact rfl); (case aB => exact bw); (case aF => exact (fun _ _ => trivial)); (case aO => exact (ro HO_688000.out)); (case aS => exact (below_size bw)); (case aL => have := LMc42.out; omega); intro v692 w46 ho hb hg hat; rw [← Ny691.out] at ho; replace HO_6 := Aside0.mk (Kd.R_over' (ro HO_6.out) (Kd.R_typed (ro HO_688000.out)) (by decide) hg); replace BK676 := Aside0.mk (blk_grown (g := gb676) (o := .cells #[.slice none 0 0] 27 (0, 0)) (bo BK676.out) hg (Kd.R_ne HO_688000.out BK676.out (by decide))); replace BK680 := Aside0.mk (blk_grown (g := gb680) (o := .cells #[.int .i64 t677, .int .i64 t678] 94 (0, 0)) (bo BK680.out) hg (Kd.R_ne HO_688000.out BK680.out (by decide))); replace BK687 := Aside0.mk (blk_grown (g := gb687) (o := .cells #[u688000] 27 (0, 0)) (bo BK687.out) hg (Kd.R_ne HO_688000.out BK687.out (by decide))); replace HB := Aside0.mk (hb); have HO693 := Aside0.mk (ho); clear HO_688000 ho hb hg hat; obtain ⟨Ao47, co47, eo47⟩ := Kd.R_slice HO693.out; subst eo47; have hcz48_0 := bc BK687 0 (u688000); have hfz48_0 := blk_frozen BK687.out 0))
              go_roundg k4
              case measure => have := HJ2.out; have := HK2.out; have := HK3.out; have := HK4.out; omega
              case rel => exact ⟨(wrap64 (x10_3 + 1)), (y691), (.slice Ao47 y691.length co47), rr, H', ⟨by have := HJ2.out; have := HK2.out; have := HK3.out; have := HK4.out; omega⟩, ⟨by (with_reducible repeat (first | apply Kd.R_alloc | apply Kd.R_drewN | apply Kd.R_drew)); exact Kd.R_mono (Kd.R_far (p := ⟨gb687, 0, none⟩) (Kd.R_types HO_6.out BK687.out (by decide)) (fun _ hk => hk.2) (.slice Ao47 y691.length co47)) (fun _ hk => trivial)⟩, ⟨by (with_reducible repeat (first | apply Kd.R_alloc | apply Kd.R_drewN | apply Kd.R_drew)); exact Kd.R_mono (Kd.R_far (p := ⟨gb687, 0, none⟩) (Kd.R_types HO693.out BK687.out (by decide)) (fun _ hk => hk.2) (.slice Ao47 y691.length co47)) (fun _ hk => trivial)⟩, ⟨by (with_reducible repeat (first | refine blk_drewN ?_ _ | refine blk_drew ?_ | refine blk_alloc ?_ _)); refine blk_far ?_ NB676_687.out _; (with_reducible repeat (first | refine blk_drewN ?_ _ | refine blk_drew ?_ | refine blk_alloc ?_ _)); exact BK676.out⟩, ⟨by (with_reducible repeat (first | refine blk_drewN ?_ _ | refine blk_drew ?_ | refine blk_alloc ?_ _)); refine blk_far ?_ NB680_687.out _; (with_reducible repeat (first | refine blk_drewN ?_ _ | refine blk_drew ?_ | refine blk_alloc ?_ _)); exact BK680.out⟩, ⟨by (with_reducible repeat (first | refine blk_drewN ?_ _ | refine blk_drew ?_ | refine blk_alloc ?_ _)); refine blk_put (cs := #[u688000]) ?_ 0 _ rfl; (with_reducible repeat (first | refine blk_drewN ?_ _ | refine blk_drew ?_ | refine blk_alloc ?_ _)); exact BK687.out⟩, ⟨bw⟩⟩
         ·replace H := ga H; obtain ⟨t694, A49, H⟩ := H
          replace H := gb H; obtain ⟨rfl, H⟩ | ⟨rfl, H⟩ := H
          ·replace H := ga H; obtain ⟨t695, A51, H⟩ := H
           replace H := ga H; obtain ⟨t698, A52, H⟩ := H
           replace H := gb H; obtain ⟨rfl, H⟩ | ⟨rfl, H⟩ := H
           ·simp only [Option.some.injEq, Prod.mk.injEq] at H
            obtain ⟨rfl, rfl⟩ := H
            obtain ⟨Ao54, co54, eo54⟩ := Kd.R_slice HO_6.out
            subst eo54
            have hnb55 := NB687_676.out
            have hnc55 := NB676_687.out
            have hnb56 := NB687_680.out
            have hnc56 := NB680_687.out
            have hcz57_0 := bc BK687 0 (u688000)
            have hfz57_0 := blk_frozen BK687.out 0
            obtain ⟨Ao58, co58, eo58⟩ := Kd.R_slice HO_688000.out
            subst eo58
            go_wp2_with (first | ((with_reducible refine gate_callee (f := 62) rfl ?_); refine gl (some 80) Try.func62 #[.agg #[.slice Ao58 x688000_3.length co58]] ?_; (with_reducible refine (impl_IsSemigroup.calls k3 _ _ x688000_3 true _ ?side1 ?side2 A49.out).mono ?_); (case side1 => exact co (Kd.R_reads' HO_688000.out).2.2); (case side2 => exact (Kd.R_reads' HO_688000.out).2.1); rintro e w59 ⟨rfl, hb⟩; refine ⟨_, rfl, ?_⟩; replace HO_6 := Aside0.mk (Kd.R_below (ro HO_6.out) hb); replace HO_688000 := Aside0.mk (Kd.R_below (ro HO_688000.out) hb); replace BK676 := Aside0.mk (blk_below (g := gb676) (o := .cells #[.slice none 0 0] 27 (0, 0)) (bo BK676.out) hb); replace BK680 := Aside0.mk (blk_below (g := gb680) (o := .cells #[.int .i64 t677, .int .i64 t678] 94 (0, 0)) (bo BK680.out) hb); replace BK687 := Aside0.mk (blk_below (g := gb687) (o := .cells #[.slice Ao58 x688000_3.length co58] 27 (0, 0)) (bo BK687.out) hb); replace HB := Aside0.mk (below_step bw hb); clear hb; have hcz60_0 := bc BK687 0 (.slice Ao58 x688000_3.length co58); have hfz60_0 := blk_frozen BK687.out 0) | (go_at_call 79; (with_reducible refine (impl_Gaps.calls k3 _ _ x688000_3 t695 _ ?side1 ?side2 A51.out).mono ?_); (case side1 => exact co (Kd.R_reads' HO_688000.out).2.2); (case side2 => exact (Kd.R_reads' HO_688000.out).2.1); rintro e w61 ⟨v696, rfl, ho0, hb⟩; replace HO_6 := Aside0.mk (Kd.R_below (ro HO_6.out) hb); have HO697 := Aside0.mk (Kd.R_lower (Kd.R_new' ho0 (Kd.R_lt (ro HO_688000.out))) (below_size bw)); replace HO_688000 := Aside0.mk (Kd.R_elder' (ro HO_688000.out) (Kd.R_base ho0) hb); replace BK676 := Aside0.mk (blk_below (g := gb676) (o := .cells #[.slice none 0 0] 27 (0, 0)) (bo BK676.out) hb); replace BK680 := Aside0.mk (blk_below (g := gb680) (o := .cells #[.int .i64 t677, .int .i64 t678] 94 (0, 0)) (bo BK680.out) hb); replace BK687 := Aside0.mk (blk_below (g := gb687) (o := .cells #[.slice Ao58 x688000_3.length co58] 27 (0, 0)) (bo BK687.out) hb); replace HB := Aside0.mk (below_step bw hb); clear hb ho0; obtain ⟨Ao62, co62, eo62⟩ := Kd.R_slice HO697.out; subst eo62) | (go_at_call 95; (with_reducible refine (slices_Equal_int_int.calls k3 _ _ t695 _ _ l0 true _ ?side1 ?side2 ?side3 ?side4 A52.out).mono ?_); (case side1 => exact co (Kd.R_reads' HO697.out).2.2); (case side2 => exact (Kd.R_reads' HO697.out).2.1); (case side3 => exact co (Kd.C_below HR0.out HB.out)); (case side4 => exact HC0.out); rintro e w' ⟨rfl, ⟨nd, rfl⟩⟩; (try (rw [drewN_self w61]; generalize hq_ : World.drewN w61 _ = w61; have n0_ : Aside0 (Kd.R (Kd.int .i64) 3 w61 w.heap.size (fun k_ => some k_ ≠ (.slice Ao58 x688000_3.length co58 : Value).ownBlock) (.slice Ao62 t695.length co62) t695) := ⟨by rw [← hq_]; exact (by (with_reducible repeat (first | apply Kd.R_alloc | apply Kd.R_drewN | apply Kd.R_drew)); exact Kd.R_mono HO697.out (fun _ hk => hk.2))⟩; have n1_ : Aside0 (Kd.R Kd.bool 4 w61 w.heap.size (fun _ => True) (.slice Ao54 x6_2.length co54) x6_2) := ⟨by rw [← hq_]; exact (ro HO_6.out)⟩; have n2_ : Aside0 (Kd.R (Kd.int .i64) 3 w61 w.heap.size (fun k_ => some k_ ≠ (.slice Ao62 t695.length co62 : Value).ownBlock) (.slice Ao58 x688000_3.length co58) x688000_3) := ⟨by rw [← hq_]; exact (by (with_reducible repeat (first | apply Kd.R_alloc | apply Kd.R_drewN | apply Kd.R_drew)); exact Kd.R_mono HO_688000.out (fun _ hk => hk.2))⟩; have n3_ : Aside0 (w61.heap[gb676]? = some (.cells #[.slice none 0 0] 27 (0, 0))) := ⟨by rw [← hq_]; exact (bo BK676.out)⟩; have n4_ : Aside0 (w61.heap[gb680]? = some (.cells #[.int .i64 t677, .int .i64 t678] 94 (0, 0))) := ⟨by rw [← hq_]; exact (bo BK680.out)⟩; have n5_ : Aside0 (w61.heap[gb687]? = some (.cells #[.slice Ao58 x688000_3.length co58] 27 (0, 0))) := ⟨by rw [← hq_]; exact (bo BK687.out)⟩; have n6_ : Aside0 (Below w.heap.size w w61) := ⟨by rw [← hq_]; exact bw⟩; clear HO697 HO_6 HO_688000 BK676 BK680 BK687 HB hq_; have HO697 := n0_; have HO_6 := n1_; have HO_688000 := n2_; have BK676 := n3_; have BK680 := n4_; have BK687 := n5_; have HB := n6_; clear n0_ n1_ n2_ n3_ n4_ n5_ n6_)); have hcz63_0 := bc BK687 0 (.slice Ao58 x688000_3.length co58); have hfz63_0 := blk_frozen BK687.out 0; have hnb64 := NB676_680.out; have hnc64 := NB680_676.out; have hcz65_0 := bc BK676 0 (.slice none 0 0); have hfz65_0 := blk_frozen BK676.out 0))
            refine bodyPost_ret (results_ct rfl _ _ gb676 27 #[.slice Ao58 x688000_3.length co58] (0, 0) _ rfl (by (with_reducible repeat (first | refine blk_drewN ?_ _ | refine blk_drew ?_ | refine blk_alloc ?_ _)); refine blk_put (cs := #[.slice none 0 0]) ?_ 0 _ rfl; (with_reducible repeat (first | refine blk_drewN ?_ _ | refine blk_drew ?_ | refine blk_alloc ?_ _)); exact BK676.out) Try.underlying27 rfl (by kernel_rfl)) rfl ?_
            exact ⟨_, re, by (with_reducible repeat (first | apply Kd.R_alloc | apply Kd.R_drewN | apply Kd.R_drew)); exact Kd.R_mono (Kd.R_far (p := ⟨gb676, 0, none⟩) (Kd.R_types HO_688000.out BK676.out (by decide)) (fun _ hk => hk.2) (.slice Ao58 x688000_3.length co58)) (fun _ hk => trivial), bw⟩
           ·simp only [Option.some.injEq, Prod.mk.injEq] at H
            obtain ⟨rfl, rfl⟩ := H
            obtain ⟨Ao66, co66, eo66⟩ := Kd.R_slice HO_6.out
            subst eo66
            have hnb67 := NB687_676.out
            have hnc67 := NB676_687.out
            have hnb68 := NB687_680.out
            have hnc68 := NB680_687.out
            have hcz69_0 := bc BK687 0 (u688000)
            have hfz69_0 := blk_frozen BK687.out 0
            obtain ⟨Ao70, co70, eo70⟩ := Kd.R_slice HO_688000.out
            subst eo70
            go_wp2_with (first | ((with_reducible refine gate_callee (f := 62) rfl ?_); refine gl (some 80) Try.func62 #[.agg #[.slice Ao70 x688000_3.length co70]] ?_; (with_reducible refine (impl_IsSemigroup.calls k3 _ _ x688000_3 true _ ?side1 ?side2 A49.out).mono ?_); (case side1 => exact co (Kd.R_reads' HO_688000.out).2.2); (case side2 => exact (Kd.R_reads' HO_688000.out).2.1); rintro e w71 ⟨rfl, hb⟩; refine ⟨_, rfl, ?_⟩; replace HO_6 := Aside0.mk (Kd.R_below (ro HO_6.out) hb); replace HO_688000 := Aside0.mk (Kd.R_below (ro HO_688000.out) hb); replace BK676 := Aside0.mk (blk_below (g := gb676) (o := .cells #[.slice none 0 0] 27 (0, 0)) (bo BK676.out) hb); replace BK680 := Aside0.mk (blk_below (g := gb680) (o := .cells #[.int .i64 t677, .int .i64 t678] 94 (0, 0)) (bo BK680.out) hb); replace BK687 := Aside0.mk (blk_below (g := gb687) (o := .cells #[.slice Ao70 x688000_3.length co70] 27 (0, 0)) (bo BK687.out) hb); replace HB := Aside0.mk (below_step bw hb); clear hb; have hcz72_0 := bc BK687 0 (.slice Ao70 x688000_3.length co70); have hfz72_0 := blk_frozen BK687.out 0) | (go_at_call 79; (with_reducible refine (impl_Gaps.calls k3 _ _ x688000_3 t695 _ ?side1 ?side2 A51.out).mono ?_); (case side1 => exact co (Kd.R_reads' HO_688000.out).2.2); (case side2 => exact (Kd.R_reads' HO_688000.out).2.1); rintro e w73 ⟨v696, rfl, ho0, hb⟩; replace HO_6 := Aside0.mk (Kd.R_below (ro HO_6.out) hb); have HO697 := Aside0.mk (Kd.R_lower (Kd.R_new' ho0 (Kd.R_lt (ro HO_688000.out))) (below_size bw)); replace HO_688000 := Aside0.mk (Kd.R_elder' (ro HO_688000.out) (Kd.R_base ho0) hb); replace BK676 := Aside0.mk (blk_below (g := gb676) (o := .cells #[.slice none 0 0] 27 (0, 0)) (bo BK676.out) hb); replace BK680 := Aside0.mk (blk_below (g := gb680) (o := .cells #[.int .i64 t677, .int .i64 t678] 94 (0, 0)) (bo BK680.out) hb); replace BK687 := Aside0.mk (blk_below (g := gb687) (o := .cells #[.slice Ao70 x688000_3.length co70] 27 (0, 0)) (bo BK687.out) hb); replace HB := Aside0.mk (below_step bw hb); clear hb ho0; obtain ⟨Ao74, co74, eo74⟩ := Kd.R_slice HO697.out; subst eo74) | (go_at_call 95; (with_reducible refine (slices_Equal_int_int.calls k3 _ _ t695 _ _ l0 false _ ?side1 ?side2 ?side3 ?side4 A52.out).mono ?_); (case side1 => exact co (Kd.R_reads' HO697.out).2.2); (case side2 => exact (Kd.R_reads' HO697.out).2.1); (case side3 => exact co (Kd.C_below HR0.out HB.out)); (case side4 => exact HC0.out); rintro e w' ⟨rfl, ⟨nd, rfl⟩⟩; (try (rw [drewN_self w73]; generalize hq_ : World.drewN w73 _ = w73; have n0_ : Aside0 (Kd.R (Kd.int .i64) 3 w73 w.heap.size (fun k_ => some k_ ≠ (.slice Ao70 x688000_3.length co70 : Value).ownBlock) (.slice Ao74 t695.length co74) t695) := ⟨by rw [← hq_]; exact (by (with_reducible repeat (first | apply Kd.R_alloc | apply Kd.R_drewN | apply Kd.R_drew)); exact Kd.R_mono HO697.out (fun _ hk => hk.2))⟩; have n1_ : Aside0 (Kd.R Kd.bool 4 w73 w.heap.size (fun _ => True) (.slice Ao66 x6_2.length co66) x6_2) := ⟨by rw [← hq_]; exact (ro HO_6.out)⟩; have n2_ : Aside0 (Kd.R (Kd.int .i64) 3 w73 w.heap.size (fun k_ => some k_ ≠ (.slice Ao74 t695.length co74 : Value).ownBlock) (.slice Ao70 x688000_3.length co70) x688000_3) := ⟨by rw [← hq_]; exact (by (with_reducible repeat (first | apply Kd.R_alloc | apply Kd.R_drewN | apply Kd.R_drew)); exact Kd.R_mono HO_688000.out (fun _ hk => hk.2))⟩; have n3_ : Aside0 (w73.heap[gb676]? = some (.cells #[.slice none 0 0] 27 (0, 0))) := ⟨by rw [← hq_]; exact (bo BK676.out)⟩; have n4_ : Aside0 (w73.heap[gb680]? = some (.cells #[.int .i64 t677, .int .i64 t678] 94 (0, 0))) := ⟨by rw [← hq_]; exact (bo BK680.out)⟩; have n5_ : Aside0 (w73.heap[gb687]? = some (.cells #[.slice Ao70 x688000_3.length co70] 27 (0, 0))) := ⟨by rw [← hq_]; exact (bo BK687.out)⟩; have n6_ : Aside0 (Below w.heap.size w w73) := ⟨by rw [← hq_]; exact bw⟩; clear HO697 HO_6 HO_688000 BK676 BK680 BK687 HB hq_; have HO697 := n0_; have HO_6 := n1_; have HO_688000 := n2_; have BK676 := n3_; have BK680 := n4_; have BK687 := n5_; have HB := n6_; clear n0_ n1_ n2_ n3_ n4_ n5_ n6_)); have hnb75 := NB676_680.out; have hnc75 := NB680_676.out; have hcz76_0 := bc BK676 0 (.slice none 0 0); have hfz76_0 := blk_frozen BK676.out 0))
            refine bodyPost_ret (results_ct rfl _ _ gb676 27 #[.slice none 0 0] (0, 0) _ rfl (by (with_reducible repeat (first | refine blk_drewN ?_ _ | refine blk_drew ?_ | refine blk_alloc ?_ _)); refine blk_put (cs := #[.slice none 0 0]) ?_ 0 _ rfl; (with_reducible repeat (first | refine blk_drewN ?_ _ | refine blk_drew ?_ | refine blk_alloc ?_ _)); exact BK676.out) Try.underlying27 rfl (by kernel_rfl)) rfl ?_
            exact ⟨_, re, by first | exact Kd.R_nil _ _ _ _ _ | exact Kd.N_nil _ _ _ _ _ | exact Kd.V_nil _ _ _ _ _ | exact Kd.Q_nil _ _ _ _ _ | exact Kd.S_nil _ _ _ _ _, bw⟩
          ·simp only [Option.some.injEq, Prod.mk.injEq] at H
           obtain ⟨rfl, rfl⟩ := H
           obtain ⟨Ao77, co77, eo77⟩ := Kd.R_slice HO_6.out
           subst eo77
           have hnb78 := NB687_676.out
           have hnc78 := NB676_687.out
           have hnb79 := NB687_680.out
           have hnc79 := NB680_687.out
           have hcz80_0 := bc BK687 0 (u688000)
           have hfz80_0 := blk_frozen BK687.out 0
           obtain ⟨Ao81, co81, eo81⟩ := Kd.R_slice HO_688000.out
           subst eo81
           go_wp2_with (first | ((with_reducible refine gate_callee (f := 62) rfl ?_); refine gl (some 80) Try.func62 #[.agg #[.slice Ao81 x688000_3.length co81]] ?_; (with_reducible refine (impl_IsSemigroup.calls k3 _ _ x688000_3 false _ ?side1 ?side2 A49.out).mono ?_); (case side1 => exact co (Kd.R_reads' HO_688000.out).2.2); (case side2 => exact (Kd.R_reads' HO_688000.out).2.1); rintro e w82 ⟨rfl, hb⟩; refine ⟨_, rfl, ?_⟩; replace HO_6 := Aside0.mk (Kd.R_below (ro HO_6.out) hb); replace HO_688000 := Aside0.mk (Kd.R_below (ro HO_688000.out) hb); replace BK676 := Aside0.mk (blk_below (g := gb676) (o := .cells #[.slice none 0 0] 27 (0, 0)) (bo BK676.out) hb); replace BK680 := Aside0.mk (blk_below (g := gb680) (o := .cells #[.int .i64 t677, .int .i64 t678] 94 (0, 0)) (bo BK680.out) hb); replace BK687 := Aside0.mk (blk_below (g := gb687) (o := .cells #[.slice Ao81 x688000_3.length co81] 27 (0, 0)) (bo BK687.out) hb); replace HB := Aside0.mk (below_step bw hb); clear hb; have hnb83 := NB676_680.out; have hnc83 := NB680_676.out; have hcz84_0 := bc BK676 0 (.slice none 0 0); have hfz84_0 := blk_frozen BK676.out 0))
           refine bodyPost_ret (results_ct rfl _ _ gb676 27 #[.slice none 0 0] (0, 0) _ rfl (by (with_reducible repeat (first | refine blk_drewN ?_ _ | refine blk_drew ?_ | refine blk_alloc ?_ _)); refine blk_put (cs := #[.slice none 0 0]) ?_ 0 _ rfl; (with_reducible repeat (first | refine blk_drewN ?_ _ | refine blk_drew ?_ | refine blk_alloc ?_ _)); exact BK676.out) Try.underlying27 rfl (by kernel_rfl)) rfl ?_
           exact ⟨_, re, by first | exact Kd.R_nil _ _ _ _ _ | exact Kd.N_nil _ _ _ _ _ | exact Kd.V_nil _ _ _ _ _ | exact Kd.Q_nil _ _ _ _ _ | exact Kd.S_nil _ _ _ _ _, bw⟩


/-! ### slices_Index_int_int: function 135 -/
def slices_Index_int_int.l0 : Nat → List Int → Int → Int → Int → Option (Int)
 | 0, _, _, _, _ => none
 | k + 1, x0, x1, x7, x8 => if x8 < x7 then (if 0 ≤ x8 then (if x8 < (x0.length : Int) then (if x1 = (rd x0 x8) then (some x8) else (slices_Index_int_int.l0 k x0 x1 x7 (wrap64 (x8 + 1)))) else (none)) else (none)) else (some (-1))
def slices_Index_int_int.f (k : Nat) (l0 : List Int) (a1 : Int) : Option (Int) := slices_Index_int_int.l0 k l0 a1 (l0.length : Int) 0
set_option maxHeartbeats 8000000 in
set_option maxRecDepth 100000 in
theorem slices_Index_int_int.calls (k : Nat) (A0 : Option Addr) (c0 : Nat) (l0 : List Int) (a1 : Int) (r : Int) (w : World) (hr0 : Kd.C (Kd.int .i64) w A0 l0.length l0) (hc0 : l0.length ≤ c0) (h : slices_Index_int_int.f k l0 a1 = some r) :
  Calls Try.prog 135 #[.slice A0 l0.length c0, .int .i64 a1] w fun e w' => e = .returned (.int .i64 r) ∧ Drawn0 w w' := by
 have HR0 := Aside0.mk hr0
 have HC0 := Aside0.mk hc0
 clear hr0 hc0
 have H : (slices_Index_int_int.l0 k l0 a1 (l0.length : Int) 0) = some r := h
 clear h
 have H' := Aside0.mk H
 clear H
 go_enter Try.func135, Try.ntmps135
 go_wp2
 go_loopg [8] k (fun kq v8 w' => ∃ (x8_1 : Int), v8 = .int .i64 x8_1 ∧ Aside0 (slices_Index_int_int.l0 kq l0 a1 (l0.length : Int) x8_1 = some r) ∧ Aside0 (kq ≤ k) ∧ Drawn0 w w')
 case atStart => exact ⟨(0), rr, H', ⟨Nat.le_refl _⟩, dw⟩
 case round =>
  clear H'
  obtain ⟨x8_1, rfl, HA, HK1, ⟨m1, rfl⟩⟩ := hrel
  cases gk with
  | zero => exact absurd HA.out (by simp [slices_Index_int_int.l0])
  | succ k1 =>
   have H := HA.out
   clear HA
   simp only [slices_Index_int_int.l0] at H
   replace H := gi H; obtain ⟨c3b0, H⟩ | ⟨c3b0, H⟩ := H
   ·replace H := gd H; obtain ⟨c4b0, H⟩ := H
    replace H := gd H; obtain ⟨c5b0, H⟩ := H
    by_cases c6 : a1 = (rd l0 x8_1)
    ·rw [if_pos c6] at H
     have c6b0 : (a1 == (rd l0 x8_1)) = true := beq_iff_eq.mpr c6
     have c6b1 : (a1 != (rd l0 x8_1)) = false := bne_eq_false_iff_eq.mpr c6
     clear c6
     obtain rfl := Option.some.inj H
     obtain ⟨⟨ad699, e699, hx699_0⟩, p699, q699⟩ := pq (Kd.at_int HR0.out x8_1)
     cases e699
     go_wp2
     go_ret
     exact ⟨rr, dw⟩
    ·rw [if_neg c6] at H
     have c6b0 : (a1 == (rd l0 x8_1)) = false := beq_eq_false_iff_ne.mpr c6
     have c6b1 : (a1 != (rd l0 x8_1)) = true := bne_iff_ne.mpr c6
     have H' := Aside0.mk H
     clear H
     obtain ⟨⟨ad699, e699, hx699_0⟩, p699, q699⟩ := pq (Kd.at_int HR0.out x8_1)
     cases e699
     go_wp2
     go_roundg k1
     case measure => have := HK1.out; omega
     case rel => exact ⟨(wrap64 (x8_1 + 1)), rr, H', ⟨by have := HK1.out; omega⟩, dw⟩
   ·obtain rfl := Option.some.inj H
    go_wp2
    go_ret
    exact ⟨rr, dw⟩


/-! ### slices_Contains_int_int: function 100 -/
def slices_Contains_int_int.f (k : Nat) (l0 : List Int) (a1 : Int) : Option (Bool) := (slices_Index_int_int.f k l0 a1).bind fun t700 => (some (decide (t700 ≥ 0)))
set_option maxHeartbeats 8000000 in
set_option maxRecDepth 100000 in
theorem slices_Contains_int_int.calls (k : Nat) (A0 : Option Addr) (c0 : Nat) (l0 : List Int) (a1 : Int) (r : Bool) (w : World) (hr0 : Kd.C (Kd.int .i64) w A0 l0.length l0) (hc0 : l0.length ≤ c0) (h : slices_Contains_int_int.f k l0 a1 = some r) :
  Calls Try.prog 100 #[.slice A0 l0.length c0, .int .i64 a1] w fun e w' => e = .returned (.bool r) ∧ Drawn0 w w' := by
 have HR0 := Aside0.mk hr0
 have HC0 := Aside0.mk hc0
 clear hr0 hc0
 have H : ((slices_Index_int_int.f k l0 a1).bind fun t700 => (some (decide (t700 ≥ 0)))) = some r := h
 clear h
 replace H := ga H; obtain ⟨t700, A3, H⟩ := H
 obtain rfl := Option.some.inj H
 go_enter Try.func100, Try.ntmps100
 go_wp2_with (first | ((with_reducible refine gate_callee (f := 135) rfl ?_); refine gl (some 7) Try.func135 #[.slice A0 l0.length c0, .int .i64 a1] ?_; (with_reducible refine (slices_Index_int_int.calls k _ _ l0 a1 t700 _ ?side1 ?side2 A3.out).mono ?_); (case side1 => exact co HR0.out); (case side2 => exact HC0.out); rintro e w' ⟨rfl, ⟨nd, rfl⟩⟩; refine ⟨_, rfl, ?_⟩))
 go_ret
 exact ⟨rr, dw⟩


/-! ### impl_PseudoFrobenius: function 136 -/
mutual
def impl_PseudoFrobenius.l0 : Nat → List Int → List Bool → List Int → Int → Int → List Int → Option (List Int)
 | 0, _, _, _, _, _, _ => none
 | k + 1, x3, x4, x17, x18, x19, x702000 => if x19 < x18 then (if 0 ≤ x19 then (if x19 < (x17.length : Int) then (impl_PseudoFrobenius.l1 k x3 x4 (rd x17 x19) true x17 x18 x19 x702000 (x702000.length : Int) 0 x702000) else (none)) else (none)) else (some x3)
def impl_PseudoFrobenius.l1 : Nat → List Int → List Bool → Int → Bool → List Int → Int → Int → List Int → Int → Int → List Int → Option (List Int)
 | 0, _, _, _, _, _, _, _, _, _, _, _ => none
 | k + 1, x3, x4, x6, x7, x17, x18, x19, x24, x25, x26, x702000 => if x26 < x25 then (if 0 ≤ x26 then (if x26 < (x24.length : Int) then (if x7 = true then (if 0 ≤ (wrap64 (x6 + (rd x24 x26))) then (if (wrap64 (x6 + (rd x24 x26))) < (x4.length : Int) then (impl_PseudoFrobenius.l1 k x3 x4 x6 (rdOf false x4 (wrap64 (x6 + (rd x24 x26)))) x17 x18 x19 x24 x25 (wrap64 (x26 + 1)) x702000) else (none)) else (none)) else (impl_PseudoFrobenius.l1 k x3 x4 x6 false x17 x18 x19 x24 x25 (wrap64 (x26 + 1)) x702000)) else (none)) else (none)) else (if x7 = true then (if x3.length < 17592186044416 then (impl_PseudoFrobenius.l0 k (x3 ++ [x6]) x4 x17 x18 (wrap64 (x19 + 1)) x702000) else (none)) else (impl_PseudoFrobenius.l0 k x3 x4 x17 x18 (wrap64 (x19 + 1)) x702000))
end
def impl_PseudoFrobenius.f (k : Nat) (l0_0 : List Int) : Option (List Int) := (impl_IsSemigroup.f k l0_0).bind fun t702 => (if t702 = true then ((impl_table.f k l0_0 260).bind fun t706 => ((impl_Gaps.f k l0_0).bind fun t709 => (impl_PseudoFrobenius.l0 k (([] : List Int)) t706 t709 (t709.length : Int) 0 l0_0))) else (some ([] : List Int)))
set_option maxHeartbeats 8000000 in
set_option maxRecDepth 100000 in
theorem impl_PseudoFrobenius.calls (k : Nat) (A0_0 : Option Addr) (c0_0 : Nat) (l0_0 : List Int) (r : List Int) (w : World) (hr0_0 : Kd.C (Kd.int .i64) w A0_0 l0_0.length l0_0) (hc0_0 : l0_0.length ≤ c0_0) (h : impl_PseudoFrobenius.f k l0_0 = some r) :
  Calls Try.prog 136 #[.agg #[.slice A0_0 l0_0.length c0_0]] w fun e w' => ∃ v0_ : Value, e = .returned (v0_) ∧ Kd.R (Kd.int .i64) 3 w' w.heap.size (fun _ => True) v0_ r ∧ Below w.heap.size w w' := by
 have hu27 := Try.underlying27
 have HR0_0 := Aside0.mk hr0_0
 have HC0_0 := Aside0.mk hc0_0
 clear hr0_0 hc0_0
 have HB := Aside0.mk (Below.refl w.heap.size w)
 have H : ((impl_IsSemigroup.f k l0_0).bind fun t702 => (if t702 = true then ((impl_table.f k l0_0 260).bind fun t706 => ((impl_Gaps.f k l0_0).bind fun t709 => (impl_PseudoFrobenius.l0 k (([] : List Int)) t706 t709 (t709.length : Int) 0 l0_0))) else (some ([] : List Int)))) = some r := h
 clear h
 replace H := ga H; obtain ⟨t702, A2, H⟩ := H
 replace H := gb H; obtain ⟨rfl, H⟩ | ⟨rfl, H⟩ := H
 ·obtain ⟨y703, hy703⟩ : ∃ y_ : List Int, y_ = (([] : List Int)) := ⟨_, rfl⟩
  replace H : ((impl_table.f k l0_0 260).bind fun t706 => ((impl_Gaps.f k l0_0).bind fun t709 => (impl_PseudoFrobenius.l0 k y703 t706 t709 (t709.length : Int) 0 l0_0))) = some r := by first | (rw [hy703]; with_reducible exact H) | (have H2_ := (Option.bind_some _ _).symm.trans H; rw [hy703]; with_reducible exact H2_) | (have H2_ := (Option.bind_some _ _).symm.trans H; with_reducible exact H2_) | with_reducible exact H | (rw [hy703]; exact H) | exact H
  have Ny703 := Aside0.mk hy703
  clear hy703
  replace H := ga H; obtain ⟨t706, A4, H⟩ := H
  replace H := ga H; obtain ⟨t709, A5, H⟩ := H
  have H' := Aside0.mk H
  clear H
  go_enter Try.func136, Try.ntmps136
  go_wp2_with (first | ((with_reducible refine gate_dst (N := 1) rfl ?_); refine bx 1 #[.slice A0_0 l0_0.length c0_0] 27 ?_; intro gb701 hg w6 hbox hb; have BK701 := Aside0.mk (hbox); have GW701 := Aside0.mk (gs hg : w.heap.size ≤ gb701); have GE701 := Aside0.mk (gs hg : w.heap.size ≤ gb701); replace HB := Aside0.mk (below_step bw hb); clear hb hbox hg; have hcz7_0 := bc BK701 0 (.slice A0_0 l0_0.length c0_0); have hfz7_0 := blk_frozen BK701.out 0) | ((with_reducible refine gate_callee (f := 62) rfl ?_); refine gl (some 11) Try.func62 #[.agg #[.slice A0_0 l0_0.length c0_0]] ?_; (with_reducible refine (impl_IsSemigroup.calls k _ _ l0_0 true _ ?side1 ?side2 A2.out).mono ?_); (case side1 => exact co (Kd.C_below HR0_0.out HB.out)); (case side2 => exact HC0_0.out); rintro e w8 ⟨rfl, hb⟩; refine ⟨_, rfl, ?_⟩; replace BK701 := Aside0.mk (blk_below (g := gb701) (o := .cells #[.slice A0_0 l0_0.length c0_0] 27 (0, 0)) (bo BK701.out) hb); replace HB := Aside0.mk (below_step bw hb); clear hb) | ((with_reducible refine gate_dst (N := 13) rfl ?_); refine Kd.R_lit (Kd.int .i64) _ 3 ?hg (N := 13) ?hd (xs := ([] : List Int)) (inner := []) (ok := fun _ => True) (okp := fun _ => True) ?hr ?hp (fun _ hk => hk) trivial (Below.refl _ _) (Nat.le_refl _) (by simp) ?_; (case hd => rfl); (case hg => rfl); (case hr => first | (go_simp; done) | (go_simp; rfl)); (case hp => exact (Reps.none _ _)); intro v704 w9 ho10 hb hg_ hnew_; clear hg_ hnew_; (first | rw [← Ny703.out] at ho10 | (simp only [Int.reduceToNat] at ho10; rw [← Ny703.out] at ho10)); have HO705 := Aside0.mk (Kd.R_lower ho10 (below_size bw)); replace BK701 := Aside0.mk (blk_below (g := gb701) (o := .cells #[.slice A0_0 l0_0.length c0_0] 27 (0, 0)) (bo BK701.out) hb); replace HB := Aside0.mk (below_step bw hb); clear hb ho10; have hcz11_0 := bc BK701 0 (.slice A0_0 l0_0.length c0_0); have hfz11_0 := blk_frozen BK701.out 0) | ((with_reducible refine gate_callee (f := 121) rfl ?_); refine gl (some 15) Try.func121 #[.agg #[.slice A0_0 l0_0.length c0_0], .int .i64 260] ?_; (with_reducible refine (impl_table.calls k _ _ l0_0 260 t706 _ ?side1 ?side2 A4.out).mono ?_); (case side1 => exact co (Kd.C_below HR0_0.out HB.out)); (case side2 => exact HC0_0.out); rintro e w12 ⟨v707, rfl, ho0, hb⟩; refine ⟨_, rfl, ?_⟩; replace HO705 := Aside0.mk (Kd.R_below (ro HO705.out) hb); have HO708 := Aside0.mk (Kd.R_lower ho0 (below_size bw)); replace BK701 := Aside0.mk (blk_below (g := gb701) (o := .cells #[.slice A0_0 l0_0.length c0_0] 27 (0, 0)) (bo BK701.out) hb); replace HB := Aside0.mk (below_step bw hb); clear hb ho0; have hcz13_0 := bc BK701 0 (.slice A0_0 l0_0.length c0_0); have hfz13_0 := blk_frozen BK701.out 0) | ((with_reducible refine gate_callee (f := 79) rfl ?_); refine gl (some 17) Try.func79 #[.agg #[.slice A0_0 l0_0.length c0_0]] ?_; (with_reducible refine (impl_Gaps.calls k _ _ l0_0 t709 _ ?side1 ?side2 A5.out).mono ?_); (case side1 => exact co (Kd.C_below HR0_0.out HB.out)); (case side2 => exact HC0_0.out); rintro e w14 ⟨v710, rfl, ho0, hb⟩; refine ⟨_, rfl, ?_⟩; replace HO708 := Aside0.mk (Kd.R_below (ro HO708.out) hb); have HO711 := Aside0.mk (Kd.R_lower (Kd.R_new' ho0 (Kd.R_lt (ro HO705.out))) (below_size bw)); replace HO705 := Aside0.mk (Kd.R_elder' (ro HO705.out) (Kd.R_base ho0) hb); replace BK701 := Aside0.mk (blk_below (g := gb701) (o := .cells #[.slice A0_0 l0_0.length c0_0] 27 (0, 0)) (bo BK701.out) hb); replace HB := Aside0.mk (below_step bw hb); clear hb ho0; obtain ⟨Ao15, co15, eo15⟩ := Kd.R_slice HO711.out; subst eo15))
  go_loopg [3, 19] k (fun kq v3 v19 w' => ∃ (x3_1 : List Int) (x19_1 : Int), v19 = .int .i64 x19_1 ∧ Aside0 (impl_PseudoFrobenius.l0 kq x3_1 t706 t709 (t709.length : Int) x19_1 l0_0 = some r) ∧ Aside0 (kq ≤ k) ∧ Aside0 (Kd.R (Kd.int .i64) 3 w' w.heap.size (fun k_ => some k_ ≠ ((.slice Ao15 t709.length co15) : Value).ownBlock) v3 x3_1) ∧ Aside0 (Kd.R Kd.bool 4 w' w.heap.size (fun _ => True) v707 t706) ∧ Aside0 (Kd.R (Kd.int .i64) 3 w' w.heap.size (fun k_ => some k_ ≠ (v3 : Value).ownBlock) (.slice Ao15 t709.length co15) t709) ∧ Aside0 (w'.heap[gb701]? = some (.cells #[(.slice A0_0 l0_0.length c0_0)] 27 (0, 0))) ∧ Aside0 (Below w.heap.size w w'))
  case atStart => exact ⟨(y703), (0), rr, H', ⟨Nat.le_refl _⟩, ⟨by (with_reducible repeat (first | apply Kd.R_alloc | apply Kd.R_drewN | apply Kd.R_drew)); exact Kd.R_mono HO705.out (fun _ hk => hk.2)⟩, ⟨ro HO708.out⟩, ⟨by (with_reducible repeat (first | apply Kd.R_alloc | apply Kd.R_drewN | apply Kd.R_drew)); exact Kd.R_mono HO711.out (fun _ hk => hk.2)⟩, ⟨bo BK701.out⟩, ⟨bw⟩⟩
  case round =>
   clear H'
   try clear hcz11_0; try clear hcz13_0; try clear hcz7_0; try clear hfz11_0; try clear hfz13_0; try clear hfz7_0
   obtain ⟨x3_1, x19_1, rfl, HA, HK1, HO_3, HO_4, HO_17, BK701, HB⟩ := hrel
   cases gk with
   | zero => exact absurd HA.out (by simp [impl_PseudoFrobenius.l0])
   | succ k1 =>
    have H := HA.out
    clear HA
    simp only [impl_PseudoFrobenius.l0] at H
    replace H := gi H; obtain ⟨c16b0, H⟩ | ⟨c16b0, H⟩ := H
    ·replace H := gd H; obtain ⟨c17b0, H⟩ := H
     replace H := gd H; obtain ⟨c18b0, H⟩ := H
     have H' := Aside0.mk H
     clear H
     obtain ⟨⟨ad712, e712, hx712_0⟩, p712, q712⟩ := pq (Kd.at_int (Kd.R_reads' HO_17.out).2.2 x19_1)
     cases e712
     have hcz19_0 := bc BK701 0 (.slice A0_0 l0_0.length c0_0)
     have hfz19_0 := blk_frozen BK701.out 0
     go_wp2
     go_loopg [7, 26] k1 (fun kq v7 v26 w' => ∃ (x7_2 : Bool) (x26_2 : Int), v7 = .bool x7_2 ∧ v26 = .int .i64 x26_2 ∧ Aside0 (impl_PseudoFrobenius.l1 kq x3_1 t706 (rd t709 x19_1) x7_2 t709 (t709.length : Int) x19_1 l0_0 (l0_0.length : Int) x26_2 l0_0 = some r) ∧ Aside0 (kq ≤ k1) ∧ Aside0 (Kd.R (Kd.int .i64) 3 w' w.heap.size (fun k_ => some k_ ≠ ((.slice (some ad712) t709.length co15) : Value).ownBlock) u3 x3_1) ∧ Aside0 (Kd.R Kd.bool 4 w' w.heap.size (fun _ => True) v707 t706) ∧ Aside0 (Kd.R (Kd.int .i64) 3 w' w.heap.size (fun k_ => some k_ ≠ (u3 : Value).ownBlock) (.slice (some ad712) t709.length co15) t709) ∧ Aside0 (w'.heap[gb701]? = some (.cells #[(.slice A0_0 l0_0.length c0_0)] 27 (0, 0))) ∧ Aside0 (Below w.heap.size w w'))
     case atStart => exact ⟨(true), (0), rr, rr, H', ⟨Nat.le_refl _⟩, ⟨ro HO_3.out⟩, ⟨ro HO_4.out⟩, ⟨ro HO_17.out⟩, ⟨bo BK701.out⟩, ⟨bw⟩⟩
     case round =>
      clear H'
      try clear c16b0; try clear c17b0; try clear c18b0; try clear hcz11_0; try clear hcz13_0; try clear hcz19_0; try clear hcz7_0; try clear hfz11_0; try clear hfz13_0; try clear hfz19_0; try clear hfz7_0; try clear hx712_0; try clear p712; try clear q712
      obtain ⟨x7_2, x26_2, rfl, rfl, HA, HK2, HO_3, HO_4, HO_17, BK701, HB⟩ := hrel
      cases gk with
      | zero => exact absurd HA.out (by simp [impl_PseudoFrobenius.l1])
      | succ k2 =>
       have H := HA.out
       clear HA
       simp only [impl_PseudoFrobenius.l1] at H
       replace H := gi H; obtain ⟨c20b0, H⟩ | ⟨c20b0, H⟩ := H
       ·replace H := gd H; obtain ⟨c21b0, H⟩ := H
        replace H := gd H; obtain ⟨c22b0, H⟩ := H
        replace H := gb H; obtain ⟨rfl, H⟩ | ⟨rfl, H⟩ := H
        ·obtain ⟨ji24, hji24⟩ : ∃ j_ : Int, (wrap64 ((rd t709 x19_1) + (rd l0_0 x26_2))) = j_ := ⟨_, rfl⟩
         replace H : (if 0 ≤ (ji24) then (if (ji24) < (t706.length : Int) then (impl_PseudoFrobenius.l1 k2 x3_1 t706 (rd t709 x19_1) (rdOf false t706 (ji24)) t709 (t709.length : Int) x19_1 l0_0 (l0_0.length : Int) (wrap64 (x26_2 + 1)) l0_0) else (none)) else (none)) = some r := by first | (rw [hji24] at H; exact H) | (simp only [hji24] at H ⊢; exact H)
         have hji24w : (IntKind.i64.wrap ((rd t709 x19_1) + (rd l0_0 x26_2))) = ji24 := (i64_w _).trans hji24
         replace H := gd H; obtain ⟨c25b0, H⟩ := H
         replace H := gd H; obtain ⟨c26b0, H⟩ := H
         have H' := Aside0.mk H
         clear H
         obtain ⟨⟨ad713, e713, hx713_0⟩, p713, q713⟩ := pq (Kd.at_int HR0_0.out x26_2)
         cases e713
         replace hx713_0 := (HB.out.cell (World.block_lt_of_cell? w _ hx713_0)).trans hx713_0
         obtain ⟨Ao27, co27, eo27⟩ := Kd.R_slice HO_4.out
         subst eo27
         obtain ⟨⟨ad714, e714, hx714_0⟩, p714, q714⟩ := pq (Kd.at_bool (Kd.R_reads' HO_4.out).2.2 (ji24))
         cases e714
         go_wp2
         go_roundg k2
         case measure => have := HK1.out; have := HK2.out; omega
         case rel => exact ⟨(rdOf false t706 (ji24)), (wrap64 (x26_2 + 1)), (by first | rfl | (simp; done) | (simp only [← hji24] <;> (first | rfl | simp)) | (simp [*]; done)), rr, H', ⟨by have := HK1.out; have := HK2.out; omega⟩, ⟨ro HO_3.out⟩, ⟨ro HO_4.out⟩, ⟨ro HO_17.out⟩, ⟨bo BK701.out⟩, ⟨bw⟩⟩
        ·have H' := Aside0.mk H
         clear H
         obtain ⟨⟨ad713, e713, hx713_0⟩, p713, q713⟩ := pq (Kd.at_int HR0_0.out x26_2)
         cases e713
         replace hx713_0 := (HB.out.cell (World.block_lt_of_cell? w _ hx713_0)).trans hx713_0
         go_wp2
         go_roundg k2
         case measure => have := HK1.out; have := HK2.out; omega
         case rel => exact ⟨(false), (wrap64 (x26_2 + 1)), rr, rr, H', ⟨by have := HK1.out; have := HK2.out; omega⟩, ⟨ro HO_3.out⟩, ⟨ro HO_4.out⟩, ⟨ro HO_17.out⟩, ⟨bo BK701.out⟩, ⟨bw⟩⟩
       ·replace H := gb H; obtain ⟨rfl, H⟩ | ⟨rfl, H⟩ := H
        ·by_cases c29 : x3_1.length < 17592186044416
         rotate_left
         ·rw [if_neg c29] at H
          exact absurd H (by simp)
         rw [if_pos c29] at H
         have LMc29 := Aside0.mk c29
         clear c29
         obtain ⟨y715, hy715⟩ : ∃ y_ : List Int, y_ = (x3_1 ++ [(rd t709 x19_1)]) := ⟨_, rfl⟩
         replace H : (impl_PseudoFrobenius.l0 k2 y715 t706 t709 (t709.length : Int) (wrap64 (x19_1 + 1)) l0_0) = some r := by first | (rw [hy715]; with_reducible exact H) | (have H2_ := (Option.bind_some _ _).symm.trans H; rw [hy715]; with_reducible exact H2_) | (have H2_ := (Option.bind_some _ _).symm.trans H; with_reducible exact H2_) | with_reducible exact H | (rw [hy715]; exact H) | exact H
         have Ny715 := Aside0.mk hy715
         clear hy715
         have H' := Aside0.mk H
         clear H
         go_wp2_with (first | ((with_reducible refine gate_builtin (b := .append) (xs := #[.tmp 41, .tmp 43]) rfl ?_); at_builtin; refine Kd.R_append (Kd.int .i64) (w0 := w) w.heap.size rfl (.tmp 41) (.tmp 43) 22 3 (.int .i64 0) 8 rfl Try.underlying22 info3 rfl (by decide) (by omega) u3 x3_1 (rd t709 x19_1) [.int .i64 (rd t709 x19_1)] (fun k_ => some k_ ≠ (.slice (some ad712) t709.length co15 : Value).ownBlock) (fun _ => False) rfl rfl ?aP (fun _ hk => hk.elim) ?aF ?aO ?aB ?aS ?aL ?_; (case aP => exact rfl); (case aB => exact bw); (case aF => exact (fun k_ hk => Kd.fresh' (Kd.R_lt (ro HO_17.out)) k_ hk)); (case aO => exact (ro HO_3.out)); (case aS => exact (below_size bw)); (case aL => have := LMc29.out; omega); intro v716 w30 ho hb hg hat; rw [← Ny715.out] at ho; replace HO_4 := Aside0.mk (Kd.R_over' (ro HO_4.out) (Kd.R_typed (ro HO_3.out)) (by decide) hg); replace HO_17 := Aside0.mk (Kd.R_after (ok := (fun _ => True)) (by (with_reducible repeat (first | apply Kd.R_alloc | apply Kd.R_drewN | apply Kd.R_drew)); exact Kd.R_mono HO_17.out (fun _ hk => ⟨trivial, by first | exact hk | exact (by intro a n m c x h; cases a <;> exact h : ∀ (a : Option Addr) (n m c x : Nat), some x ≠ (Value.slice a n c).ownBlock → some x ≠ (Value.slice a m c).ownBlock) _ _ _ _ _ hk⟩)) hg hat); replace BK701 := Aside0.mk (blk_grown (g := gb701) (o := .cells #[.slice A0_0 l0_0.length c0_0] 27 (0, 0)) (bo BK701.out) hg (Kd.R_ne HO_3.out BK701.out (by decide))); replace HB := Aside0.mk (hb); have HO717 := Aside0.mk (ho); clear HO_3 ho hb hg hat))
         go_roundg k2
         case measure => have := HK1.out; have := HK2.out; omega
         case rel => exact ⟨(y715), (wrap64 (x19_1 + 1)), rr, H', ⟨by have := HK1.out; have := HK2.out; omega⟩, ⟨ro HO717.out⟩, ⟨ro HO_4.out⟩, ⟨by (with_reducible repeat (first | apply Kd.R_alloc | apply Kd.R_drewN | apply Kd.R_drew)); exact Kd.R_mono HO_17.out (fun _ hk => hk.2)⟩, ⟨bo BK701.out⟩, ⟨bw⟩⟩
        ·have H' := Aside0.mk H
         clear H
         go_wp2
         go_roundg k2
         case measure => have := HK1.out; have := HK2.out; omega
         case rel => exact ⟨(x3_1), (wrap64 (x19_1 + 1)), rr, H', ⟨by have := HK1.out; have := HK2.out; omega⟩, ⟨ro HO_3.out⟩, ⟨ro HO_4.out⟩, ⟨ro HO_17.out⟩, ⟨bo BK701.out⟩, ⟨bw⟩⟩
    ·obtain rfl := Option.some.inj H
     go_wp2
     go_ret
     exact ⟨_, re, by (with_reducible repeat (first | apply Kd.R_alloc | apply Kd.R_drewN | apply Kd.R_drew)); exact Kd.R_mono HO_3.out (fun _ hk => trivial), bw⟩
 ·obtain rfl := Option.some.inj H
  go_enter Try.func136, Try.ntmps136
  go_wp2_with (first | ((with_reducible refine gate_dst (N := 1) rfl ?_); refine bx 1 #[.slice A0_0 l0_0.length c0_0] 27 ?_; intro gb701 hg w31 hbox hb; have BK701 := Aside0.mk (hbox); have GW701 := Aside0.mk (gs hg : w.heap.size ≤ gb701); have GE701 := Aside0.mk (gs hg : w.heap.size ≤ gb701); replace HB := Aside0.mk (below_step bw hb); clear hb hbox hg; have hcz32_0 := bc BK701 0 (.slice A0_0 l0_0.length c0_0); have hfz32_0 := blk_frozen BK701.out 0) | ((with_reducible refine gate_callee (f := 62) rfl ?_); refine gl (some 11) Try.func62 #[.agg #[.slice A0_0 l0_0.length c0_0]] ?_; (with_reducible refine (impl_IsSemigroup.calls k _ _ l0_0 false _ ?side1 ?side2 A2.out).mono ?_); (case side1 => exact co (Kd.C_below HR0_0.out HB.out)); (case side2 => exact HC0_0.out); rintro e w33 ⟨rfl, hb⟩; refine ⟨_, rfl, ?_⟩; replace BK701 := Aside0.mk (blk_below (g := gb701) (o := .cells #[.slice A0_0 l0_0.length c0_0] 27 (0, 0)) (bo BK701.out) hb); replace HB := Aside0.mk (below_step bw hb); clear hb))
  go_ret
  exact ⟨_, re, by first | exact Kd.R_nil _ _ _ _ _ | exact Kd.N_nil _ _ _ _ _ | exact Kd.V_nil _ _ _ _ _ | exact Kd.Q_nil _ _ _ _ _ | exact Kd.S_nil _ _ _ _ _, bw⟩


/-! ### impl_Contains: function 137 -/
def impl_Contains.f (k : Nat) (l0_0 : List Int) (a1 : Int) : Option (Bool) := if a1 < 0 then (some false) else ((impl_IsSemigroup.f k l0_0).bind fun t719 => (if t719 = true then (if a1 ≥ 200 then (some true) else (if 0 < (l0_0.length : Int) then ((impl_leasts.f k l0_0 (rd l0_0 0)).bind fun t721 => (if (rd l0_0 0) = 0 then (none) else (if 0 ≤ (Int.tmod a1 (rd l0_0 0)) then (if (Int.tmod a1 (rd l0_0 0)) < (t721.length : Int) then (some (decide ((rd t721 (Int.tmod a1 (rd l0_0 0))) ≤ a1))) else (none)) else (none)))) else (none))) else (some false)))
def impl_Contains.T3 : Bool × List (List Nat × List Nat) := (true, [([], []), ([0], [0]), ([1], [1]), ([2], [2]), ([3, 2], [2, 3]), ([2], [2]), ([5, 2], [2, 5]), ([6, 2], [2, 6]), ([7, 2], [2, 7]), ([4, 8, 2, 2], [2, 4, 8]), ([2], [2]), ([2], [2]), ([11, 2], [2, 11]), ([12, 2], [2, 12]), ([13, 2], [2, 13]), ([10, 14, 2], [2, 10, 14]), ([9, 15, 2], [2, 9, 15]), ([16, 2], [2, 16]), ([2], [2]), ([17, 18, 2], [2, 17, 18]), ([2, 19], [2, 19]), ([20, 9, 0, 1, 2, 3, 4, 5, 6, 7, 8, 9, 10, 11, 12, 13, 14, 15, 16, 17, 18, 19, 20], [20])])
def impl_Contains.B3 : List Nat := [0, 1, 3, 7, 15, 7, 39, 103, 231, 511, 7, 7, 2055, 6151, 14343, 31751, 65535, 131071, 7, 524287, 1048575, 2097151]
theorem impl_Contains.tab3 : rtab .any (opsOf Try.f137 3) = impl_Contains.T3 := by kernel_rfl
theorem impl_Contains.bits3 : waitsOk impl_Contains.T3.2 impl_Contains.B3 = true := by kernel_rfl
set_option maxHeartbeats 8000000 in
set_option maxRecDepth 100000 in
theorem impl_Contains.calls (k : Nat) (A0_0 : Option Addr) (c0_0 : Nat) (l0_0 : List Int) (a1 : Int) (r : Bool) (w : World) (hr0_0 : Kd.C (Kd.int .i64) w A0_0 l0_0.length l0_0) (hc0_0 : l0_0.length ≤ c0_0) (h : impl_Contains.f k l0_0 a1 = some r) :
  Calls Try.prog 137 #[.agg #[.slice A0_0 l0_0.length c0_0], .int .i64 a1] w fun e w' => e = .returned (.bool r) ∧ Below w.heap.size w w' := by
 have hu27 := Try.underlying27
 have HR0_0 := Aside0.mk hr0_0
 have HC0_0 := Aside0.mk hc0_0
 clear hr0_0 hc0_0
 have HB := Aside0.mk (Below.refl w.heap.size w)
 have H : (if a1 < 0 then (some false) else ((impl_IsSemigroup.f k l0_0).bind fun t719 => (if t719 = true then (if a1 ≥ 200 then (some true) else (if 0 < (l0_0.length : Int) then ((impl_leasts.f k l0_0 (rd l0_0 0)).bind fun t721 => (if (rd l0_0 0) = 0 then (none) else (if 0 ≤ (Int.tmod a1 (rd l0_0 0)) then (if (Int.tmod a1 (rd l0_0 0)) < (t721.length : Int) then (some (decide ((rd t721 (Int.tmod a1 (rd l0_0 0))) ≤ a1))) else (none)) else (none)))) else (none))) else (some false)))) = some r := h
 clear h
 replace H := gi H; obtain ⟨c3b0, H⟩ | ⟨c3b0, H⟩ := H
 ·obtain rfl := Option.some.inj H
  go_enter Try.func137, Try.ntmps137
  go_wp2_with (first | ((with_reducible refine gate_dst (N := 2) rfl ?_); refine bx 2 #[.slice A0_0 l0_0.length c0_0] 27 ?_; intro gb718 hg w4 hbox hb; have BK718 := Aside0.mk (hbox); have GW718 := Aside0.mk (gs hg : w.heap.size ≤ gb718); have GE718 := Aside0.mk (gs hg : w.heap.size ≤ gb718); replace HB := Aside0.mk (below_step bw hb); clear hb hbox hg))
  go_ret
  exact ⟨re, bw⟩
 ·replace H := ga H; obtain ⟨t719, A5, H⟩ := H
  replace H := gb H; obtain ⟨rfl, H⟩ | ⟨rfl, H⟩ := H
  ·replace H := gj H; obtain ⟨c7, H⟩ | ⟨c7, H⟩ := H
   ·have c7b0 : decide (200 ≤ a1) = true := decide_eq_true c7
    clear c7
    obtain rfl := Option.some.inj H
    go_enter Try.func137, Try.ntmps137
    try go_wp2_with (first | ((with_reducible refine gate_dst (N := 2) rfl ?_); refine bx 2 #[.slice A0_0 l0_0.length c0_0] 27 ?_; intro gb718 hg w8 hbox hb; have BK718 := Aside0.mk (hbox); have GW718 := Aside0.mk (gs hg : w.heap.size ≤ gb718); have GE718 := Aside0.mk (gs hg : w.heap.size ≤ gb718); replace HB := Aside0.mk (below_step bw hb); clear hb hbox hg; have hcz9_0 := bc BK718 0 (.slice A0_0 l0_0.length c0_0); have hfz9_0 := blk_frozen BK718.out 0) | (go_at_call 62; (with_reducible refine (impl_IsSemigroup.calls k _ _ l0_0 true _ ?side1 ?side2 A5.out).mono ?_); (case side1 => exact co (Kd.C_below HR0_0.out HB.out)); (case side2 => exact HC0_0.out); rintro e w10 ⟨rfl, hb⟩; replace BK718 := Aside0.mk (blk_below (g := gb718) (o := .cells #[.slice A0_0 l0_0.length c0_0] 27 (0, 0)) (bo BK718.out) hb); replace HB := Aside0.mk (below_step bw hb); clear hb))
    replace BK718 := Aside0.mk (blk_drew BK718.out)
    replace HB := Aside0.mk (below_drew1 HB.out)
    refine start_ (n := 22) (S := fun w' => True) (ds := []) #[Z,Z,Z,Z,Z,Z,Z,Z,Z,Z,Z,Z,Z,Z,Z,Z,Z,Z,Z,Z,Z,Z] (by kernel_rfl) rfl rfl trivial (fun hHeld => ?_); refine with_tabW impl_Contains.tab3 impl_Contains.bits3 (fun HT_ HW_ => ?_)
    generalize w10.drew = w11 at BK718 HB hHeld ⊢
    refine pa 0 (some 12) #[Y,Z,Z,Z,Z,Z,Z,Z,Z,Z,Z,Z,Z,Z,Z,Z,Z,Z,Z,Z,Z,Z] HT_ ?_
    refine pa 1 (some 13) #[Y,Y,Z,Z,Z,Z,Z,Z,Z,Z,Z,Z,Z,Z,Z,Z,Z,Z,Z,Z,Z,Z] HT_ ?_
    refine pa 2 (some 14) #[Y,Y,Y,Z,Z,Z,Z,Z,Z,Z,Z,Z,Z,Z,Z,Z,Z,Z,Z,Z,Z,Z] HT_ ?_
    refine pu 3 (some 15) #[Y,Y,Y,Y,Z,Z,Z,Z,Z,Z,Z,Z,Z,Z,Z,Z,Z,Z,Z,Z,Z,Z] HT_ ?_
    refine pu 4 (some 16) #[Y,Y,Y,Y,Y,Z,Z,Z,Z,Z,Z,Z,Z,Z,Z,Z,Z,Z,Z,Z,Z,Z] HT_ ?_
    refine pu 5 (some 17) #[Y,Y,Y,Y,Y,Y,Z,Z,Z,Z,Z,Z,Z,Z,Z,Z,Z,Z,Z,Z,Z,Z] HT_ ?_
    refine pu 6 (some 18) #[Y,Y,Y,Y,Y,Y,Y,Z,Z,Z,Z,Z,Z,Z,Z,Z,Z,Z,Z,Z,Z,Z] HT_ ?_
    refine pu 7 (some 19) #[Y,Y,Y,Y,Y,Y,Y,Y,Z,Z,Z,Z,Z,Z,Z,Z,Z,Z,Z,Z,Z,Z] HT_ ?_
    refine pu 8 (some 20) #[Y,Y,Y,Y,Y,Y,Y,Y,Y,Z,Z,Z,Z,Z,Z,Z,Z,Z,Z,Z,Z,Z] HT_ ?_
    refine pu 9 (some 21) #[Y,Y,Y,Y,Y,Y,Y,Y,Y,Y,Z,Z,Z,Z,Z,Z,Z,Z,Z,Z,Z,Z] HT_ ?_
    refine pu 10 (some 22) #[Y,Y,Y,Y,Y,Y,Y,Y,Y,Y,Y,Z,Z,Z,Z,Z,Z,Z,Z,Z,Z,Z] HT_ ?_
    refine pu 11 (some 23) #[Y,Y,Y,Y,Y,Y,Y,Y,Y,Y,Y,Y,Z,Z,Z,Z,Z,Z,Z,Z,Z,Z] HT_ ?_
    refine pu 12 (some 24) #[Y,Y,Y,Y,Y,Y,Y,Y,Y,Y,Y,Y,Y,Z,Z,Z,Z,Z,Z,Z,Z,Z] HT_ ?_
    refine pu 13 (some 25) #[Y,Y,Y,Y,Y,Y,Y,Y,Y,Y,Y,Y,Y,Y,Z,Z,Z,Z,Z,Z,Z,Z] HT_ ?_
    refine pu 14 (some 26) #[Y,Y,Y,Y,Y,Y,Y,Y,Y,Y,Y,Y,Y,Y,Y,Z,Z,Z,Z,Z,Z,Z] HT_ ?_
    refine pu 15 (some 27) #[Y,Y,Y,Y,Y,Y,Y,Y,Y,Y,Y,Y,Y,Y,Y,Y,Z,Z,Z,Z,Z,Z] HT_ ?_
    refine pu 16 (some 28) #[Y,Y,Y,Y,Y,Y,Y,Y,Y,Y,Y,Y,Y,Y,Y,Y,Y,Z,Z,Z,Z,Z] HT_ ?_
    refine pu 17 (some 29) #[Y,Y,Y,Y,Y,Y,Y,Y,Y,Y,Y,Y,Y,Y,Y,Y,Y,Y,Z,Z,Z,Z] HT_ ?_
    refine pu 18 (some 30) #[Y,Y,Y,Y,Y,Y,Y,Y,Y,Y,Y,Y,Y,Y,Y,Y,Y,Y,Y,Z,Z,Z] HT_ ?_
    refine pu 19 (some 31) #[Y,Y,Y,Y,Y,Y,Y,Y,Y,Y,Y,Y,Y,Y,Y,Y,Y,Y,Y,Y,Z,Z] HT_ ?_
    refine pa 20 (some 32) #[Y,Y,Y,Y,Y,Y,Y,Y,Y,Y,Y,Y,Y,Y,Y,Y,Y,Y,Y,Y,Y,Z] HT_ ?_
    refine pa 21 (some 4) #[Y,Y,Y,Y,Y,Y,Y,Y,Y,Y,Y,Y,Y,Y,Y,Y,Y,Y,Y,Y,Y,Y] HT_ ?_
    refine done_ (done_of HT_.out (by kernel_rfl)) ?_
    try go_wp2
    go_ret
    exact ⟨re, bw⟩
   ·have c7b0 : decide (200 ≤ a1) = false := decide_eq_false c7
    clear c7
    replace H := gp H; obtain ⟨c12, H⟩ := H
    have c12b0 : decide (0 < (l0_0.length : Int)) = true := decide_eq_true c12
    have c12b1 : decide (0 < l0_0.length) = true := decide_eq_true (by omega)
    clear c12
    replace H := ga H; obtain ⟨t721, A13, H⟩ := H
    by_cases c14 : (rd l0_0 0) = 0
    ·rw [if_pos c14] at H
     exact absurd H (by simp)
    ·rw [if_neg c14] at H
     have c14b0 : ((rd l0_0 0) == 0) = false := beq_eq_false_iff_ne.mpr c14
     have c14b1 : ((rd l0_0 0) != 0) = true := bne_iff_ne.mpr c14
     obtain ⟨ji15, hji15⟩ : ∃ j_ : Int, (Int.tmod a1 (rd l0_0 0)) = j_ := ⟨_, rfl⟩
     replace H : (if 0 ≤ (ji15) then (if (ji15) < (t721.length : Int) then (some (decide ((rd t721 (ji15)) ≤ a1))) else (none)) else (none)) = some r := by first | (rw [hji15] at H; exact H) | (simp only [hji15] at H ⊢; exact H)
     (try rw [hji15] at A5)
     (try rw [hji15] at A13)
     replace H := gd H; obtain ⟨c16b0, H⟩ := H
     replace H := gd H; obtain ⟨c17b0, H⟩ := H
     obtain rfl := Option.some.inj H
     go_enter Try.func137, Try.ntmps137
     try go_wp2_with (first | ((with_reducible refine gate_dst (N := 2) rfl ?_); refine bx 2 #[.slice A0_0 l0_0.length c0_0] 27 ?_; intro gb718 hg w18 hbox hb; have BK718 := Aside0.mk (hbox); have GW718 := Aside0.mk (gs hg : w.heap.size ≤ gb718); have GE718 := Aside0.mk (gs hg : w.heap.size ≤ gb718); replace HB := Aside0.mk (below_step bw hb); clear hb hbox hg; have hcz19_0 := bc BK718 0 (.slice A0_0 l0_0.length c0_0); have hfz19_0 := blk_frozen BK718.out 0) | (go_at_call 62; (with_reducible refine (impl_IsSemigroup.calls k _ _ l0_0 true _ ?side1 ?side2 A5.out).mono ?_); (case side1 => exact co (Kd.C_below HR0_0.out HB.out)); (case side2 => exact HC0_0.out); rintro e w20 ⟨rfl, hb⟩; replace BK718 := Aside0.mk (blk_below (g := gb718) (o := .cells #[.slice A0_0 l0_0.length c0_0] 27 (0, 0)) (bo BK718.out) hb); replace HB := Aside0.mk (below_step bw hb); clear hb))
     replace BK718 := Aside0.mk (blk_drew BK718.out)
     replace HB := Aside0.mk (below_drew1 HB.out)
     have p720 : 0 ≤ (0 : Int) := (by omega)
     have q720 : 0 < (l0_0.length : Int) := of_decide_eq_true (by first | (with_reducible assumption) | assumption)
     obtain ⟨ad720, e720, hx720_0⟩ := Kd.at_int HR0_0.out 0 p720 q720
     have hw720_0 := hx720_0
     (try rw [show ((0 : Int)).toNat = 0 from rfl] at hw720_0)
     (try rw [show 0 * 1 = 0 from rfl] at hw720_0)
     (try rw [Addr.add_zero'] at hw720_0)
     cases e720
     have qi720 : (0 < l0_0.length) = True := eq_true (by omega)
     (try rw [show ((0 : Int)).toNat = 0 from rfl] at hx720_0)
     (try rw [Addr.add_zero'] at hx720_0)
     replace hx720_0 := (HB.out.cell (World.block_lt_of_cell? w _ hx720_0)).trans hx720_0
     replace p720 := eq_true p720
     replace q720 := eq_true q720
     have p724 : 0 ≤ (0 : Int) := (by omega)
     have q724 : 0 < (l0_0.length : Int) := of_decide_eq_true (by first | (with_reducible assumption) | assumption)
     obtain ⟨ad724, e724, hx724_0⟩ := Kd.at_int HR0_0.out 0 p724 q724
     have hw724_0 := hx724_0
     (try rw [show ((0 : Int)).toNat = 0 from rfl] at hw724_0)
     (try rw [show 0 * 1 = 0 from rfl] at hw724_0)
     (try rw [Addr.add_zero'] at hw724_0)
     obtain rfl : ad720 = ad724 := (by injection e724)
     have qi724 : (0 < l0_0.length) = True := eq_true (by omega)
     (try rw [show ((0 : Int)).toNat = 0 from rfl] at hx724_0)
     (try rw [Addr.add_zero'] at hx724_0)
     replace hx724_0 := (HB.out.cell (World.block_lt_of_cell? w _ hx724_0)).trans hx724_0
     replace p724 := eq_true p724
     replace q724 := eq_true q724
     refine start_ (n := 22) (S := fun w' => w'.cell? ⟨gb718, 0, none⟩ = some (.slice (some ad720) l0_0.length c0_0) ∧ w'.cell? ad720 = some (.int .i64 (rd l0_0 0)) ∧ w'.cell? ad720 = some (.int .i64 (rd l0_0 0))) (ds := []) #[Z,Z,Z,Z,Z,Z,Z,Z,Z,Z,Z,Z,Z,Z,Z,Z,Z,Z,Z,Z,Z,Z] (by kernel_rfl) rfl rfl ⟨(blk_cell BK718.out 0).trans rfl, ((HB.out.cell (World.block_lt_of_cell? w _ hw720_0)).trans hw720_0), ((HB.out.cell (World.block_lt_of_cell? w _ hw724_0)).trans hw724_0)⟩ (fun hHeld => ?_); refine with_tabW impl_Contains.tab3 impl_Contains.bits3 (fun HT_ HW_ => ?_)
     generalize w20.drew = w21 at BK718 HB hx720_0 hx724_0 hHeld ⊢
     refine pa 0 (some 12) #[Y,Z,Z,Z,Z,Z,Z,Z,Z,Z,Z,Z,Z,Z,Z,Z,Z,Z,Z,Z,Z,Z] HT_ ?_
     refine pa 1 (some 13) #[Y,Y,Z,Z,Z,Z,Z,Z,Z,Z,Z,Z,Z,Z,Z,Z,Z,Z,Z,Z,Z,Z] HT_ ?_
     refine pa 2 (some 14) #[Y,Y,Y,Z,Z,Z,Z,Z,Z,Z,Z,Z,Z,Z,Z,Z,Z,Z,Z,Z,Z,Z] HT_ ?_
     refine pa 3 (some 15) #[Y,Y,Y,Y,Z,Z,Z,Z,Z,Z,Z,Z,Z,Z,Z,Z,Z,Z,Z,Z,Z,Z] HT_ ?_
     refine pa 5 (some 17) #[Y,Y,Y,Y,Z,Y,Z,Z,Z,Z,Z,Z,Z,Z,Z,Z,Z,Z,Z,Z,Z,Z] HT_ ?_
     refine pa 10 (some 22) #[Y,Y,Y,Y,Z,Y,Z,Z,Z,Z,Y,Z,Z,Z,Z,Z,Z,Z,Z,Z,Z,Z] HT_ ?_
     refine pa 11 (some 23) #[Y,Y,Y,Y,Z,Y,Z,Z,Z,Z,Y,Y,Z,Z,Z,Z,Z,Z,Z,Z,Z,Z] HT_ ?_
     refine pa 18 (some 30) #[Y,Y,Y,Y,Z,Y,Z,Z,Z,Z,Y,Y,Z,Z,Z,Z,Z,Z,Y,Z,Z,Z] HT_ ?_
     refine take_ (i := 4) (N := some 16) (v := ?_) (a' := ?_) #[Y,Y,Y,Y,Y,Y,Z,Z,Z,Z,Y,Y,Z,Z,Z,Z,Z,Z,Y,Z,Z,Z] rfl rfl (take_ofW HT_.out HW_.out (by kernel_rfl)) (fun _ _ _ h => h) (Or.inl ⟨by rfl, ?_⟩) hHeld ?_ ?_
     rotate_left
     ·rintro w' ⟨s0, s1, s2⟩
      go_simp
      with_reducible rfl
     rotate_left
     ·simp only [Act.put, qa, qb, qc, i64_w, i32_w]
      rfl
     refine take_ (i := 6) (N := some 18) (v := ?_) (a' := ?_) #[Y,Y,Y,Y,Y,Y,Y,Z,Z,Z,Y,Y,Z,Z,Z,Z,Z,Z,Y,Z,Z,Z] rfl rfl (take_ofW HT_.out HW_.out (by kernel_rfl)) (fun _ _ _ h => h) (Or.inl ⟨by rfl, ?_⟩) hHeld ?_ ?_
     rotate_left
     ·rintro w' ⟨s0, s1, s2⟩
      go_simp
      with_reducible rfl
     rotate_left
     ·simp only [Act.put, qa, qb, qc, i64_w, i32_w]
      rfl
     refine pa 7 (some 19) #[Y,Y,Y,Y,Y,Y,Y,Y,Z,Z,Y,Y,Z,Z,Z,Z,Z,Z,Y,Z,Z,Z] HT_ ?_
     refine take_ (i := 8) (N := some 20) (v := ?_) (a' := ?_) #[Y,Y,Y,Y,Y,Y,Y,Y,Y,Z,Y,Y,Z,Z,Z,Z,Z,Z,Y,Z,Z,Z] rfl rfl (take_ofW HT_.out HW_.out (by kernel_rfl)) (fun _ _ _ h => h) (Or.inl ⟨by rfl, ?_⟩) hHeld ?_ ?_
     rotate_left
     ·rintro w' ⟨s0, s1, s2⟩
      go_simp
      with_reducible rfl
     rotate_left
     ·simp only [Act.put, qa, qb, qc, i64_w, i32_w]
      rfl
     refine take_ (i := 12) (N := some 24) (v := ?_) (a' := ?_) #[Y,Y,Y,Y,Y,Y,Y,Y,Y,Z,Y,Y,Y,Z,Z,Z,Z,Z,Y,Z,Z,Z] rfl rfl (take_ofW HT_.out HW_.out (by kernel_rfl)) (fun _ _ _ h => h) (Or.inl ⟨by rfl, ?_⟩) hHeld ?_ ?_
     rotate_left
     ·rintro w' ⟨s0, s1, s2⟩
      go_simp
      with_reducible rfl
     rotate_left
     ·simp only [Act.put, qa, qb, qc, i64_w, i32_w]
      rfl
     refine pa 13 (some 25) #[Y,Y,Y,Y,Y,Y,Y,Y,Y,Z,Y,Y,Y,Y,Z,Z,Z,Z,Y,Z,Z,Z] HT_ ?_
     refine take_ (i := 14) (N := some 26) (v := ?_) (a' := ?_) #[Y,Y,Y,Y,Y,Y,Y,Y,Y,Z,Y,Y,Y,Y,Y,Z,Z,Z,Y,Z,Z,Z] rfl rfl (take_ofW HT_.out HW_.out (by kernel_rfl)) (fun _ _ _ h => h) (Or.inl ⟨by rfl, ?_⟩) hHeld ?_ ?_
     rotate_left
     ·rintro w' ⟨s0, s1, s2⟩
      go_simp
      with_reducible rfl
     rotate_left
     ·simp only [Act.put, qa, qb, qc, i64_w, i32_w]
      rfl
     refine pa 15 (some 27) #[Y,Y,Y,Y,Y,Y,Y,Y,Y,Z,Y,Y,Y,Y,Y,Y,Z,Z,Y,Z,Z,Z] HT_ ?_
     refine oa 9 (some 21) #[Y,Y,Y,Y,Y,Y,Y,Y,Y,Y,Y,Y,Y,Y,Y,Y,Z,Z,Y,Z,Z,Z] HT_ (fun K hK => ?_)
     refine gm Try.func116 #[.slice (some ad720) l0_0.length c0_0, .int .i64 (rd l0_0 0)] ?_
     with_reducible refine (impl_leasts.calls k _ _ l0_0 (rd l0_0 0) t721 _ ?side1 ?side2 A13.out).mono ?_
     (case side1 => exact co (Kd.C_below HR0_0.out HB.out))
     (case side2 => exact HC0_0.out)
     rintro e w22 ⟨v722, rfl, ho0, hb⟩
     refine ⟨_, rfl, ?_⟩
     have HO723 := Aside0.mk (Kd.R_lower ho0 (below_size bw))
     replace BK718 := Aside0.mk (blk_below (g := gb718) (o := .cells #[.slice (some ad720) l0_0.length c0_0] 27 (0, 0)) (bo BK718.out) hb)
     replace HB := Aside0.mk (below_step bw hb)
     clear hb ho0
     obtain ⟨Ao23, co23, eo23⟩ := Kd.R_slice HO723.out
     (first | subst eo23 | (injection eo23 with f1_ f2_ f3_; have f4_ := f1_.symm; have f5_ := f3_.symm; clear f1_ f2_ f3_; subst f4_; subst f5_))
     obtain ⟨⟨ad725, e725, hx725_0⟩, p725, q725⟩ := pq (Kd.at_int (Kd.R_reads' HO723.out).2.2 (ji15))
     cases e725
     refine hK.out _ _ ⟨(blk_cell BK718.out 0).trans rfl, ((HB.out.cell (World.block_lt_of_cell? w _ hw720_0)).trans hw720_0), ((HB.out.cell (World.block_lt_of_cell? w _ hw724_0)).trans hw724_0)⟩ (fun hHeld => ?_)
     clear hK K
     refine norm_ (a' := ?_) ?_ ?_
     rotate_left
     ·show Act.put _ (some 21) _ = _
      simp only [Act.put, qa, qb, qc, i64_w, i32_w]
      rfl
     refine pa 16 (some 28) #[Y,Y,Y,Y,Y,Y,Y,Y,Y,Y,Y,Y,Y,Y,Y,Y,Y,Z,Y,Z,Z,Z] HT_ ?_
     refine oa 17 (some 29) #[Y,Y,Y,Y,Y,Y,Y,Y,Y,Y,Y,Y,Y,Y,Y,Y,Y,Y,Y,Z,Z,Z] HT_ (fun K hK => ?_)
     refine value_ (w1 := ?_) (v := ?_) (by rfl) rfl ?_ ?_
     rotate_left 2
     ·go_simp
      constructor
      ·rfl
      ·rfl
     refine hK.out _ _ hHeld (fun hHeld => ?_)
     clear hK K
     refine norm_ (a' := ?_) ?_ ?_
     rotate_left
     ·show Act.put _ (some 29) _ = _
      simp only [Act.put, qa, qb, qc, i64_w, i32_w]
      rfl
     refine pa 19 (some 31) #[Y,Y,Y,Y,Y,Y,Y,Y,Y,Y,Y,Y,Y,Y,Y,Y,Y,Y,Y,Y,Z,Z] HT_ ?_
     refine pa 20 (some 32) #[Y,Y,Y,Y,Y,Y,Y,Y,Y,Y,Y,Y,Y,Y,Y,Y,Y,Y,Y,Y,Y,Z] HT_ ?_
     refine pa 21 (some 4) #[Y,Y,Y,Y,Y,Y,Y,Y,Y,Y,Y,Y,Y,Y,Y,Y,Y,Y,Y,Y,Y,Y] HT_ ?_
     refine done_ (done_of HT_.out (by kernel_rfl)) ?_
     try go_wp2
     go_ret
     exact ⟨by first | rfl | (simp [errW_none, errW_some] <;> rfl) | (simp only [← hji15]; first | rfl | (simp [errW_none, errW_some] <;> rfl)) | (simp [*, errW_none, errW_some] <;> rfl), bw⟩
  ·obtain rfl := Option.some.inj H
   go_enter Try.func137, Try.ntmps137
   go_wp2_with (first | ((with_reducible refine gate_dst (N := 2) rfl ?_); refine bx 2 #[.slice A0_0 l0_0.length c0_0] 27 ?_; intro gb718 hg w24 hbox hb; have BK718 := Aside0.mk (hbox); have GW718 := Aside0.mk (gs hg : w.heap.size ≤ gb718); have GE718 := Aside0.mk (gs hg : w.heap.size ≤ gb718); replace HB := Aside0.mk (below_step bw hb); clear hb hbox hg; have hcz25_0 := bc BK718 0 (.slice A0_0 l0_0.length c0_0); have hfz25_0 := blk_frozen BK718.out 0) | (go_at_call 62; (with_reducible refine (impl_IsSemigroup.calls k _ _ l0_0 false _ ?side1 ?side2 A5.out).mono ?_); (case side1 => exact co (Kd.C_below HR0_0.out HB.out)); (case side2 => exact HC0_0.out); rintro e w26 ⟨rfl, hb⟩; replace BK718 := Aside0.mk (blk_below (g := gb718) (o := .cells #[.slice A0_0 l0_0.length c0_0] 27 (0, 0)) (bo BK718.out) hb); replace HB := Aside0.mk (below_step bw hb); clear hb))
   go_ret
   exact ⟨re, bw⟩

end Go.Proofs.Ytlfdipnhlmjiaaa.C
