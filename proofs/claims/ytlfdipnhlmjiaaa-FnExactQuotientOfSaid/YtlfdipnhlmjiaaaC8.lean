/- Contracts of functions of the program: impl_FromGaps, impl_QuotientOf, laws_heldIntS, laws_heldSemigroup. -/
import Derived.Test.YtlfdipnhlmjiaaaC0
import Derived.Test.YtlfdipnhlmjiaaaC5
import Derived.Test.YtlfdipnhlmjiaaaC6
import Derived.Test.YtlfdipnhlmjiaaaC7
namespace Go.Proofs.Ytlfdipnhlmjiaaa.C
open Go.RowKit Go.Proofs.YtlfdipnhlmjiaaaW.PrintWords Go.Proofs.YtlfdipnhlmjiaaaW.PrintLast Go.Proofs.YtlfdipnhlmjiaaaW.PrintMore
attribute [local go_sem] max2_int min2_int max_two min_two max_three min_three max_four min_four
set_option linter.unusedVariables false
set_option linter.unusedSimpArgs false

/-! ### impl_FromGaps: function 76 -/
mutual
def impl_FromGaps.j0 : Nat → List Int → Bool → Option (List Int × Bool)
 | 0, _, _ => none
 | k + 1, x0, x23 => if x23 = true then (some (([] : List Int), false)) else (if 401 ≤ 281474976710656 then (impl_FromGaps.l0 k x0 (List.replicate 401 false) x0 (x0.length : Int) 0) else (none))
def impl_FromGaps.l0 : Nat → List Int → List Bool → List Int → Int → Int → Option (List Int × Bool)
 | 0, _, _, _, _, _ => none
 | k + 1, x0, x6, x26, x27, x28 => if x28 < x27 then (if 0 ≤ x28 then (if x28 < (x26.length : Int) then (if 0 ≤ (rd x26 x28) then (if (rd x26 x28) < (x6.length : Int) then (impl_FromGaps.l0 k x0 (x6.set ((rd x26 x28) : Int).toNat true) x26 x27 (wrap64 (x28 + 1))) else (none)) else (none)) else (none)) else (none)) else (impl_FromGaps.l1 k x0 x6 1 ([] : List Int))
def impl_FromGaps.l1 : Nat → List Int → List Bool → Int → List Int → Option (List Int × Bool)
 | 0, _, _, _, _ => none
 | k + 1, x0, x6, x10, x384000 => if x10 < (x6.length : Int) then (if 0 ≤ x10 then (impl_FromGaps.l2 k x0 x6 x10 (rdOf false x6 x10) 1 x384000) else (none)) else ((impl_IsSemigroup.f k x384000).bind fun t390 => (if t390 = true then ((impl_Gaps.f k x384000).bind fun t391 => ((slices_Equal_int_int.f k t391 x0).bind fun t394 => (if t394 = true then (some (x384000, true)) else (some (([] : List Int), false))))) else (some (([] : List Int), false))))
def impl_FromGaps.l2 : Nat → List Int → List Bool → Int → Bool → Int → List Int → Option (List Int × Bool)
 | 0, _, _, _, _, _, _ => none
 | k + 1, x0, x6, x10, x11, x12, x384000 => if (wrap64 (2 * x12)) ≤ x10 then (if x11 = true then (impl_FromGaps.l1 k x0 x6 (wrap64 (x10 + 1)) x384000) else (if 0 ≤ x12 then (if x12 < (x6.length : Int) then (if rdOf false x6 x12 = true then (impl_FromGaps.l2 k x0 x6 x10 false (wrap64 (x12 + 1)) x384000) else (if 0 ≤ (wrap64 (x10 - x12)) then (if (wrap64 (x10 - x12)) < (x6.length : Int) then (impl_FromGaps.l2 k x0 x6 x10 (!(rdOf false x6 (wrap64 (x10 - x12)))) (wrap64 (x12 + 1)) x384000) else (none)) else (none))) else (none)) else (none))) else (if x11 = true then (impl_FromGaps.l1 k x0 x6 (wrap64 (x10 + 1)) x384000) else (if x384000.length < 17592186044416 then (impl_FromGaps.l1 k x0 x6 (wrap64 (x10 + 1)) (x384000 ++ [x10])) else (none)))
end
def impl_FromGaps.f (k : Nat) (l0 : List Int) : Option (List Int × Bool) := (impl_GapClash.f k l0).bind fun bt373 => (if bt373.2.2 = true then (impl_FromGaps.j0 k l0 true) else ((impl_gapList.f k l0).bind fun t377 => (impl_FromGaps.j0 k l0 (!t377))))
set_option maxHeartbeats 8000000 in
set_option maxRecDepth 100000 in
theorem impl_FromGaps.calls (k : Nat) (A0 : Option Addr) (c0 : Nat) (l0 : List Int) (r1 : List Int) (r2 : Bool) (w : World) (hr0 : Kd.C (Kd.int .i64) w A0 l0.length l0) (hc0 : l0.length ≤ c0) (h : impl_FromGaps.f k l0 = some (r1, r2)) :
  Calls Try.prog 76 #[.slice A0 l0.length c0] w fun e w' => ∃ v0_ : Value, e = .returned (.tuple #[.agg #[v0_], .bool r2]) ∧ Kd.R (Kd.int .i64) 3 w' w.heap.size (fun _ => True) v0_ r1 ∧ Below w.heap.size w w' := by
 have hu27 := Try.underlying27
 have hu94 := Try.underlying94
 have HR0 := Aside0.mk hr0
 have HC0 := Aside0.mk hc0
 clear hr0 hc0
 have HB := Aside0.mk (Below.refl w.heap.size w)
 have H : ((impl_GapClash.f k l0).bind fun bt373 => (if bt373.2.2 = true then (impl_FromGaps.j0 k l0 true) else ((impl_gapList.f k l0).bind fun t377 => (impl_FromGaps.j0 k l0 (!t377))))) = some (r1, r2) := h
 clear h
 replace H := ga H; obtain ⟨⟨t373, t374, t375⟩, A2, H⟩ := H
 replace H : (if t375 = true then (impl_FromGaps.j0 k l0 true) else ((impl_gapList.f k l0).bind fun t377 => (impl_FromGaps.j0 k l0 (!t377)))) = some (r1, r2) := H
 have HC3 := Aside0.mk H
 clear H
 go_enter Try.func76, Try.ntmps76
 go_upto_region 2 with (first | ((with_reducible refine gate_dst (N := 2) rfl ?_); refine bx 2 #[.slice none 0 0] 27 ?_; intro gb372 hg w4 hbox hb; have BK372 := Aside0.mk (hbox); have GW372 := Aside0.mk (gs hg : w.heap.size ≤ gb372); have GE372 := Aside0.mk (gs hg : w.heap.size ≤ gb372); replace HB := Aside0.mk (below_step bw hb); clear hb hbox hg) | ((with_reducible refine gate_callee (f := 128) rfl ?_); refine gl (some 15) Try.func128 #[.slice A0 l0.length c0] ?_; (with_reducible refine (impl_GapClash.calls k _ _ l0 t373 t374 t375 _ ?side1 ?side2 A2.out).mono ?_); (case side1 => exact co (Kd.C_below HR0.out HB.out)); (case side2 => exact HC0.out); rintro e w5 ⟨rfl, hb⟩; refine ⟨_, rfl, ?_⟩; replace BK372 := Aside0.mk (blk_below (g := gb372) (o := .cells #[.slice none 0 0] 27 (0, 0)) (bo BK372.out) hb); replace HB := Aside0.mk (below_step bw hb); clear hb) | ((with_reducible refine gate_dst (N := 4) rfl ?_); refine bx 4 #[.int .i64 0, .int .i64 0] 94 ?_; intro gb376 hg w6 hbox hb; have BK376 := Aside0.mk (hbox); have GW376 := Aside0.mk (gs hg : w.heap.size ≤ gb376); have GE376 := Aside0.mk (gs hg : w.heap.size ≤ gb376); replace HB := Aside0.mk (below_step bw hb); have NB372_376 := Aside0.mk ((by rw [hg]; exact Nat.ne_of_lt (blk_lt (g := gb372) (o := .cells #[.slice none 0 0] 27 (0, 0)) (bo BK372.out)) : gb372 ≠ gb376)); have NB376_372 := Aside0.mk ((by rw [hg]; exact Nat.ne_of_gt (blk_lt (g := gb372) (o := .cells #[.slice none 0 0] 27 (0, 0)) (bo BK372.out)) : gb376 ≠ gb372)); replace BK372 := Aside0.mk (blk_below (g := gb372) (o := .cells #[.slice none 0 0] 27 (0, 0)) (bo BK372.out) hb); clear hb hbox hg; have hnb7 := NB376_372.out; have hnc7 := NB372_376.out; have hcz8_0 := bc BK376 0 (.int .i64 0); have hcz8_1 := bc BK376 1 (.int .i64 0); have hfz8_0 := blk_frozen BK376.out 0; have hfz8_1 := blk_frozen BK376.out 1))
 (try simp only [Act.put, List.setIfInBounds_toArray, List.set_cons_zero, List.set_cons_succ])
 go_cut [23] (fun v23 wc => ∃ (kq : Nat) (x23_2 : Bool), v23 = .bool x23_2 ∧ Aside0 (impl_FromGaps.j0 kq l0 x23_2 = some (r1, r2)) ∧ Aside0 (kq ≤ k) ∧ Aside0 (wc.heap[gb372]? = some (.cells #[(.slice none 0 0)] 27 (0, 0))) ∧ Aside0 (wc.heap[gb376]? = some (.cells #[.int .i64 t373, .int .i64 t374] 94 (0, 0))) ∧ Aside0 (Below w.heap.size w wc))
 case first =>
  have H := HC3.out
  clear HC3
  replace H := gb H; obtain ⟨rfl, H⟩ | ⟨rfl, H⟩ := H
  ·have H' := Aside0.mk H
   clear H
   go_wp2
   go_meet
   case rel => exact ⟨_, (true), rr, H', ⟨om⟩, ⟨by (with_reducible repeat (first | refine blk_drewN ?_ _ | refine blk_drew ?_ | refine blk_alloc ?_ _)); refine blk_far ?_ NB372_376.out _; (with_reducible repeat (first | refine blk_drewN ?_ _ | refine blk_drew ?_ | refine blk_alloc ?_ _)); refine blk_far ?_ NB372_376.out _; (with_reducible repeat (first | refine blk_drewN ?_ _ | refine blk_drew ?_ | refine blk_alloc ?_ _)); exact BK372.out⟩, ⟨by (with_reducible repeat (first | refine blk_drewN ?_ _ | refine blk_drew ?_ | refine blk_alloc ?_ _)); refine blk_put (cs := #[.int .i64 t373, .int .i64 0]) ?_ 1 _ rfl; (with_reducible repeat (first | refine blk_drewN ?_ _ | refine blk_drew ?_ | refine blk_alloc ?_ _)); refine blk_put (cs := #[.int .i64 0, .int .i64 0]) ?_ 0 _ rfl; (with_reducible repeat (first | refine blk_drewN ?_ _ | refine blk_drew ?_ | refine blk_alloc ?_ _)); exact BK376.out⟩, ⟨bw⟩⟩
  ·replace H := ga H; obtain ⟨t377, A10, H⟩ := H
   have H' := Aside0.mk H
   clear H
   go_wp2_with (first | (go_at_call 129; (with_reducible refine (impl_gapList.calls k _ _ l0 t377 _ ?side1 ?side2 A10.out).mono ?_); (case side1 => exact Kd.C_below HR0.out bw); (case side2 => exact HC0.out); rintro e w' ⟨rfl, ⟨nd, rfl⟩⟩))
   go_meet
   case rel => exact ⟨_, (!t377), rr, H', ⟨om⟩, ⟨by (with_reducible repeat (first | refine blk_drewN ?_ _ | refine blk_drew ?_ | refine blk_alloc ?_ _)); refine blk_far ?_ NB372_376.out _; (with_reducible repeat (first | refine blk_drewN ?_ _ | refine blk_drew ?_ | refine blk_alloc ?_ _)); refine blk_far ?_ NB372_376.out _; (with_reducible repeat (first | refine blk_drewN ?_ _ | refine blk_drew ?_ | refine blk_alloc ?_ _)); exact BK372.out⟩, ⟨by (with_reducible repeat (first | refine blk_drewN ?_ _ | refine blk_drew ?_ | refine blk_alloc ?_ _)); refine blk_put (cs := #[.int .i64 t373, .int .i64 0]) ?_ 1 _ rfl; (with_reducible repeat (first | refine blk_drewN ?_ _ | refine blk_drew ?_ | refine blk_alloc ?_ _)); refine blk_put (cs := #[.int .i64 0, .int .i64 0]) ?_ 0 _ rfl; (with_reducible repeat (first | refine blk_drewN ?_ _ | refine blk_drew ?_ | refine blk_alloc ?_ _)); exact BK376.out⟩, ⟨bw⟩⟩
 case rest =>
  clear HC3
  try clear hcz8_0; try clear hcz8_1; try clear hfz8_0; try clear hfz8_1
  obtain ⟨kq, x23_2, rfl, HA, HJ2, BK372, BK376, HB⟩ := hcut
  cases kq with
  | zero => exact absurd HA.out (by simp [impl_FromGaps.j0])
  | succ kj2 =>
   have H := HA.out
   clear HA
   simp only [impl_FromGaps.j0] at H
   replace H := gb H; obtain ⟨rfl, H⟩ | ⟨rfl, H⟩ := H
   ·simp only [Option.some.injEq, Prod.mk.injEq] at H
    obtain ⟨rfl, rfl⟩ := H
    have hnb12 := NB372_376.out
    have hnc12 := NB376_372.out
    have hcz13_0 := bc BK372 0 (.slice none 0 0)
    have hfz13_0 := blk_frozen BK372.out 0
    go_wp2
    refine bodyPost_ret (results_ct rfl _ _ gb372 27 #[.slice none 0 0] (0, 0) _ rfl (by (with_reducible repeat (first | refine blk_drewN ?_ _ | refine blk_drew ?_ | refine blk_alloc ?_ _)); refine blk_put (cs := #[.slice none 0 0]) ?_ 0 _ rfl; (with_reducible repeat (first | refine blk_drewN ?_ _ | refine blk_drew ?_ | refine blk_alloc ?_ _)); exact BK372.out) Try.underlying27 rfl (by kernel_rfl)) rfl ?_
    exact ⟨_, re, by first | exact Kd.R_nil _ _ _ _ _ | exact Kd.N_nil _ _ _ _ _ | exact Kd.V_nil _ _ _ _ _ | exact Kd.Q_nil _ _ _ _ _ | exact Kd.S_nil _ _ _ _ _, bw⟩
   ·replace H := gp H; obtain ⟨c14, H⟩ := H
    have c14b0 := eq_true c14
    have c14b1 : decide (401 ≤ 281474976710656) = true := decide_eq_true c14
    clear c14
    obtain ⟨y378, hy378⟩ : ∃ y_ : List Bool, y_ = (List.replicate 401 false) := ⟨_, rfl⟩
    replace H : (impl_FromGaps.l0 kj2 l0 y378 l0 (l0.length : Int) 0) = some (r1, r2) := by first | (rw [hy378]; with_reducible exact H) | (have H2_ := (Option.bind_some _ _).symm.trans H; rw [hy378]; with_reducible exact H2_) | (have H2_ := (Option.bind_some _ _).symm.trans H; with_reducible exact H2_) | with_reducible exact H | (rw [hy378]; exact H) | exact H
    have Ny378 := Aside0.mk hy378
    clear hy378
    have H' := Aside0.mk H
    clear H
    go_wp2_with (first | ((with_reducible refine gate_dst (N := 25) rfl ?_); refine Kd.R_make Kd.bool _ 4 rfl (N := 25) rfl 90 _ _ rfl 401 rfl rfl Try.underlying90 (.bool false) 1 info4 rfl (by decide) (by omega) false (ok := fun _ => True) (okp := fun _ => True) rfl (fun _ hk => hk) trivial (by omega) (by omega) (Below.refl _ _) (Nat.le_refl _) ?_; intro v379 w15 ho16 hb hg_ hnew_; clear hg_ hnew_; (first | rw [← Ny378.out] at ho16 | (simp only [Int.reduceToNat] at ho16; rw [← Ny378.out] at ho16)); have HO380 := Aside0.mk (Kd.R_lower ho16 (below_size bw)); replace BK372 := Aside0.mk (blk_below (g := gb372) (o := .cells #[.slice none 0 0] 27 (0, 0)) (bo BK372.out) hb); replace BK376 := Aside0.mk (blk_below (g := gb376) (o := .cells #[.int .i64 t373, .int .i64 t374] 94 (0, 0)) (bo BK376.out) hb); replace HB := Aside0.mk (below_step bw hb); clear hb ho16))
    go_loopg [28] kj2 (fun kq v28 w' => ∃ (x6_2 : List Bool) (x28_2 : Int), v28 = .int .i64 x28_2 ∧ Aside0 (impl_FromGaps.l0 kq l0 x6_2 l0 (l0.length : Int) x28_2 = some (r1, r2)) ∧ Aside0 (kq ≤ kj2) ∧ Aside0 (Kd.R Kd.bool 4 w' w.heap.size (fun _ => True) v379 x6_2) ∧ Aside0 (w'.heap[gb372]? = some (.cells #[(.slice none 0 0)] 27 (0, 0))) ∧ Aside0 (w'.heap[gb376]? = some (.cells #[.int .i64 t373, .int .i64 t374] 94 (0, 0))) ∧ Aside0 (Below w.heap.size w w'))
    case atStart => exact ⟨(y378), (0), rr, H', ⟨Nat.le_refl _⟩, ⟨ro HO380.out⟩, ⟨bo BK372.out⟩, ⟨bo BK376.out⟩, ⟨bw⟩⟩
    case round =>
     clear H'
     try clear c14; try clear c14b0; try clear c14b1; try clear hcz13_0; try clear hcz8_0; try clear hcz8_1; try clear hfz13_0; try clear hfz8_0; try clear hfz8_1
     obtain ⟨x6_2, x28_2, rfl, HA, HK2, HO_6, BK372, BK376, HB⟩ := hrel
     cases gk with
     | zero => exact absurd HA.out (by simp [impl_FromGaps.l0])
     | succ k2 =>
      have H := HA.out
      clear HA
      simp only [impl_FromGaps.l0] at H
      replace H := gi H; obtain ⟨c17b0, H⟩ | ⟨c17b0, H⟩ := H
      ·replace H := gd H; obtain ⟨c18b0, H⟩ := H
       replace H := gd H; obtain ⟨c19b0, H⟩ := H
       replace H := gd H; obtain ⟨c20b0, H⟩ := H
       replace H := gd H; obtain ⟨c21b0, H⟩ := H
       obtain ⟨y382, hy382⟩ : ∃ y_ : List Bool, y_ = (x6_2.set ((rd l0 x28_2) : Int).toNat true) := ⟨_, rfl⟩
       replace H : (impl_FromGaps.l0 k2 l0 y382 l0 (l0.length : Int) (wrap64 (x28_2 + 1))) = some (r1, r2) := by first | (rw [hy382]; with_reducible exact H) | (have H2_ := (Option.bind_some _ _).symm.trans H; rw [hy382]; with_reducible exact H2_) | (have H2_ := (Option.bind_some _ _).symm.trans H; with_reducible exact H2_) | with_reducible exact H | (rw [hy382]; exact H) | exact H
       have Ny382 := Aside0.mk hy382
       clear hy382
       have H' := Aside0.mk H
       clear H
       obtain ⟨⟨ad381, e381, hx381_0⟩, p381, q381⟩ := pq (Kd.at_int HR0.out x28_2)
       cases e381
       replace hx381_0 := (HB.out.cell (World.block_lt_of_cell? w _ hx381_0)).trans hx381_0
       have p22 : 0 ≤ ((rd l0 x28_2) : Int) := of_decide_eq_true (by first | (with_reducible assumption) | assumption)
       have q22 : ((rd l0 x28_2) : Int) < ((x6_2.length : Int) : Int) := of_decide_eq_true (by first | (with_reducible assumption) | assumption)
       obtain ⟨go22, co22, eo22, gb22, gl22, cl22, HG22⟩ := Kd.R_form HO_6.out (by omega)
       (first | cases eo22 | (injection eo22 with ea_ en_ ec_; (first | subst ea_ | (injection ea_ with ea_; subst ea_)); subst ec_; clear en_))
       have GB22 := Aside0.mk gb22
       have GG22 := Aside0.mk HG22
       clear gb22 gl22 HG22
       obtain ⟨hx22_0, hf22_0⟩ := Kd.R_celln false HO_6.out ((rd l0 x28_2) : Int) p22 q22
       replace p22 := eq_true p22
       replace q22 := eq_true q22
       have HP23 := Kd.R_putg HO_6.out ((rd l0 x28_2) : Int) true
       go_wp2_with (first | ((with_reducible refine gate_store (t := 4) (p := 34) rfl ?_); refine store_event (t := 4) (p := 34) (v := ?vo_w24) (w1 := (wr.setCell ⟨go22, ((rd l0 x28_2) : Int).toNat, none⟩ (.bool true))) ?hg ?ho ?hn ?hr ?_; (case ho => rfl); (case hg => rfl); (case hn => rfl); (case hr => first | (go_simp; done) | (go_simp; rfl)); intro w24 hw; have hg : wr.grownBy w24 (some go22) := (by rw [hw]; exact HP23.2); have hp_ : Kd.R Kd.bool 4 w24 w.heap.size (fun _ => True) (.slice (some ⟨go22, 0, none⟩) x6_2.length co22) y382 := (by rw [hw, Ny382.out]; exact HP23.1); clear HP23; replace BK372 := Aside0.mk (blk_grown (g := gb372) (o := .cells #[.slice none 0 0] 27 (0, 0)) (bo BK372.out) hg (Kd.R_ne HO_6.out BK372.out (by decide))); replace BK376 := Aside0.mk (blk_grown (g := gb376) (o := .cells #[.int .i64 t373, .int .i64 t374] 94 (0, 0)) (bo BK376.out) hg (Kd.R_ne HO_6.out BK376.out (by decide))); replace HO_6 := Aside0.mk (hp_); replace HB := Aside0.mk ((by rw [hw]; exact below_set (HB.out) GB22.out : Below w.heap.size w w24)); clear hg hw hp_))
       go_roundg k2
       case measure => have := HJ2.out; have := HK2.out; omega
       case rel => exact ⟨(y382), (wrap64 (x28_2 + 1)), rr, H', ⟨by have := HJ2.out; have := HK2.out; omega⟩, ⟨ro HO_6.out⟩, ⟨bo BK372.out⟩, ⟨bo BK376.out⟩, ⟨bw⟩⟩
      ·have H' := Aside0.mk H
       clear H
       go_wp2_with (first | ((with_reducible refine gate_dst (N := 9) rfl ?_); refine bx 9 #[.slice none 0 0] 27 ?_; intro gb383 hg w25 hbox hb; replace HO_6 := Aside0.mk (Kd.R_below (ro HO_6.out) hb); have BK383 := Aside0.mk (hbox); have GW383 := Aside0.mk (gs hg : w.heap.size ≤ gb383); have GE383 := Aside0.mk (gs hg : w.heap.size ≤ gb383); replace HB := Aside0.mk (below_step bw hb); have NB372_383 := Aside0.mk ((by rw [hg]; exact Nat.ne_of_lt (blk_lt (g := gb372) (o := .cells #[.slice none 0 0] 27 (0, 0)) (bo BK372.out)) : gb372 ≠ gb383)); have NB383_372 := Aside0.mk ((by rw [hg]; exact Nat.ne_of_gt (blk_lt (g := gb372) (o := .cells #[.slice none 0 0] 27 (0, 0)) (bo BK372.out)) : gb383 ≠ gb372)); replace BK372 := Aside0.mk (blk_below (g := gb372) (o := .cells #[.slice none 0 0] 27 (0, 0)) (bo BK372.out) hb); have NB376_383 := Aside0.mk ((by rw [hg]; exact Nat.ne_of_lt (blk_lt (g := gb376) (o := .cells #[.int .i64 t373, .int .i64 t374] 94 (0, 0)) (bo BK376.out)) : gb376 ≠ gb383)); have NB383_376 := Aside0.mk ((by rw [hg]; exact Nat.ne_of_gt (blk_lt (g := gb376) (o := .cells #[.int .i64 t373, .int .i64 t374] 94 (0, 0)) (bo BK376.out)) : gb383 ≠ gb376)); replace BK376 := Aside0.mk (blk_below (g := gb376) (o := .cells #[.int .i64 t373, .int .i64 t374] 94 (0, 0)) (bo BK376.out) hb); clear hb hbox hg; have hnb26 := NB383_372.out; have hnc26 := NB372_383.out; have hnb27 := NB383_376.out; have hnc27 := NB376_383.out; have hcz28_0 := bc BK383 0 (.slice none 0 0); have hfz28_0 := blk_frozen BK383.out 0))
       go_loopg [10] k2 (fun kq v10 w' => ∃ (x10_3 : Int) (x384000_3 : List Int) (u384000 : Value), v10 = .int .i64 x10_3 ∧ Aside0 (impl_FromGaps.l1 kq l0 x6_2 x10_3 x384000_3 = some (r1, r2)) ∧ Aside0 (kq ≤ k2) ∧ Aside0 (Kd.R Kd.bool 4 w' w.heap.size (fun _ => True) v379 x6_2) ∧ Aside0 (Kd.R (Kd.int .i64) 3 w' w.heap.size (fun _ => True) u384000 x384000_3) ∧ Aside0 (w'.heap[gb372]? = some (.cells #[(.slice none 0 0)] 27 (0, 0))) ∧ Aside0 (w'.heap[gb376]? = some (.cells #[.int .i64 t373, .int .i64 t374] 94 (0, 0))) ∧ Aside0 (w'.heap[gb383]? = some (.cells #[u384000] 27 (0, 0))) ∧ Aside0 (Below w.heap.size w w'))
       case atStart => exact ⟨(1), (([] : List Int)), (.slice none 0 0), rr, H', ⟨Nat.le_refl _⟩, ⟨by (with_reducible repeat (first | apply Kd.R_alloc | apply Kd.R_drewN | apply Kd.R_drew)); exact Kd.R_mono (Kd.R_far (p := ⟨gb383, 0, none⟩) (Kd.R_types HO_6.out BK383.out (by decide)) (fun _ hk => hk.2) (.slice none 0 0)) (fun _ hk => trivial)⟩, ⟨by first | exact Kd.R_nil _ _ _ _ _ | exact Kd.N_nil _ _ _ _ _ | exact Kd.V_nil _ _ _ _ _ | exact Kd.Q_nil _ _ _ _ _ | exact Kd.S_nil _ _ _ _ _⟩, ⟨by (with_reducible repeat (first | refine blk_drewN ?_ _ | refine blk_drew ?_ | refine blk_alloc ?_ _)); refine blk_far ?_ NB372_383.out _; (with_reducible repeat (first | refine blk_drewN ?_ _ | refine blk_drew ?_ | refine blk_alloc ?_ _)); exact BK372.out⟩, ⟨by (with_reducible repeat (first | refine blk_drewN ?_ _ | refine blk_drew ?_ | refine blk_alloc ?_ _)); refine blk_far ?_ NB376_383.out _; (with_reducible repeat (first | refine blk_drewN ?_ _ | refine blk_drew ?_ | refine blk_alloc ?_ _)); exact BK376.out⟩, ⟨by (with_reducible repeat (first | refine blk_drewN ?_ _ | refine blk_drew ?_ | refine blk_alloc ?_ _)); refine blk_put (cs := #[.slice none 0 0]) ?_ 0 _ rfl; (with_reducible repeat (first | refine blk_drewN ?_ _ | refine blk_drew ?_ | refine blk_alloc ?_ _)); exact BK383.out⟩, ⟨bw⟩⟩
       case round =>
        clear H'
        try clear c14; try clear c14b0; try clear c14b1; try clear c17b0; try clear c18b0; try clear c19b0; try clear c20b0; try clear c21b0; try clear p22; try clear q22; try clear hcz13_0; try clear hcz28_0; try clear hcz8_0; try clear hcz8_1; try clear hfz13_0; try clear hfz28_0; try clear hfz8_0; try clear hfz8_1; try clear hx22_0; try clear hx381_0; try clear p381; try clear q381
        obtain ⟨x10_3, x384000_3, u384000, rfl, HA, HK3, HO_6, HO_384000, BK372, BK376, BK383, HB⟩ := hrel
        cases gk with
        | zero => exact absurd HA.out (by simp [impl_FromGaps.l1])
        | succ k3 =>
         have H := HA.out
         clear HA
         simp only [impl_FromGaps.l1] at H
         replace H := gi H; obtain ⟨c29b0, H⟩ | ⟨c29b0, H⟩ := H
         ·replace H := gd H; obtain ⟨c30b0, H⟩ := H
          have H' := Aside0.mk H
          clear H
          obtain ⟨Ao31, co31, eo31⟩ := Kd.R_slice HO_6.out
          subst eo31
          obtain ⟨⟨ad384, e384, hx384_0⟩, p384, q384⟩ := pq (Kd.at_bool (Kd.R_reads' HO_6.out).2.2 x10_3)
          cases e384
          go_wp2
          go_loopg [11, 12] k3 (fun kq v11 v12 w' => ∃ (x11_4 : Bool) (x12_4 : Int), v11 = .bool x11_4 ∧ v12 = .int .i64 x12_4 ∧ Aside0 (impl_FromGaps.l2 kq l0 x6_2 x10_3 x11_4 x12_4 x384000_3 = some (r1, r2)) ∧ Aside0 (kq ≤ k3) ∧ Aside0 (Kd.R Kd.bool 4 w' w.heap.size (fun _ => True) (.slice (some ad384) x6_2.length co31) x6_2) ∧ Aside0 (Kd.R (Kd.int .i64) 3 w' w.heap.size (fun _ => True) u384000 x384000_3) ∧ Aside0 (w'.heap[gb372]? = some (.cells #[(.slice none 0 0)] 27 (0, 0))) ∧ Aside0 (w'.heap[gb376]? = some (.cells #[.int .i64 t373, .int .i64 t374] 94 (0, 0))) ∧ Aside0 (w'.heap[gb383]? = some (.cells #[u384000] 27 (0, 0))) ∧ Aside0 (Below w.heap.size w w'))
          case atStart => exact ⟨(rdOf false x6_2 x10_3), (1), rr, rr, H', ⟨Nat.le_refl _⟩, ⟨ro HO_6.out⟩, ⟨ro HO_384000.out⟩, ⟨bo BK372.out⟩, ⟨bo BK376.out⟩, ⟨bo BK383.out⟩, ⟨bw⟩⟩
          case round =>
           clear H'
           try clear c14; try clear c14b0; try clear c14b1; try clear c17b0; try clear c18b0; try clear c19b0; try clear c20b0; try clear c21b0; try clear p22; try clear q22; try clear c29b0; try clear c30b0; try clear hcz13_0; try clear hcz28_0; try clear hcz8_0; try clear hcz8_1; try clear hfz13_0; try clear hfz28_0; try clear hfz8_0; try clear hfz8_1; try clear hx22_0; try clear hx381_0; try clear hx384_0; try clear p381; try clear p384; try clear q381; try clear q384
           obtain ⟨x11_4, x12_4, rfl, rfl, HA, HK4, HO_6, HO_384000, BK372, BK376, BK383, HB⟩ := hrel
           cases gk with
           | zero => exact absurd HA.out (by simp [impl_FromGaps.l2])
           | succ k4 =>
            have H := HA.out
            clear HA
            simp only [impl_FromGaps.l2] at H
            replace H := gi H; obtain ⟨c32b0, H⟩ | ⟨c32b0, H⟩ := H
            ·replace H := gb H; obtain ⟨rfl, H⟩ | ⟨rfl, H⟩ := H
             ·have H' := Aside0.mk H
              clear H
              go_wp2
              go_roundg k4
              case measure => have := HJ2.out; have := HK2.out; have := HK3.out; have := HK4.out; omega
              case rel => exact ⟨(wrap64 (x10_3 + 1)), (x384000_3), (u384000), rr, H', ⟨by have := HJ2.out; have := HK2.out; have := HK3.out; have := HK4.out; omega⟩, ⟨ro HO_6.out⟩, ⟨ro HO_384000.out⟩, ⟨bo BK372.out⟩, ⟨bo BK376.out⟩, ⟨bo BK383.out⟩, ⟨bw⟩⟩
             ·replace H := gd H; obtain ⟨c34b0, H⟩ := H
              replace H := gd H; obtain ⟨c35b0, H⟩ := H
              obtain ⟨bq36, hbq36⟩ : ∃ b_ : Bool, b_ = (rdOf false x6_2 x12_4) := ⟨_, rfl⟩
              replace H : (if bq36 = true then (impl_FromGaps.l2 k4 l0 x6_2 x10_3 false (wrap64 (x12_4 + 1)) x384000_3) else (if 0 ≤ (wrap64 (x10_3 - x12_4)) then (if (wrap64 (x10_3 - x12_4)) < (x6_2.length : Int) then (impl_FromGaps.l2 k4 l0 x6_2 x10_3 (!(rdOf false x6_2 (wrap64 (x10_3 - x12_4)))) (wrap64 (x12_4 + 1)) x384000_3) else (none)) else (none))) = some (r1, r2) := by rw [← hbq36] at H; exact H
              have Nbq36 := Aside0.mk hbq36
              clear hbq36
              replace H := gb H; obtain ⟨rfl, H⟩ | ⟨rfl, H⟩ := H
              ·have H' := Aside0.mk H
               clear H
               obtain ⟨⟨ad385, e385, hx385_0⟩, p385, q385⟩ := pq (Kd.at_bool (Kd.R_reads' HO_6.out).2.2 x12_4)
               (try rw [← Nbq36.out] at hx385_0)
               obtain rfl : ad384 = ad385 := (by injection e385)
               go_wp2
               go_roundg k4
               case measure => have := HJ2.out; have := HK2.out; have := HK3.out; have := HK4.out; omega
               case rel => exact ⟨(false), (wrap64 (x12_4 + 1)), rr, rr, H', ⟨by have := HJ2.out; have := HK2.out; have := HK3.out; have := HK4.out; omega⟩, ⟨ro HO_6.out⟩, ⟨ro HO_384000.out⟩, ⟨bo BK372.out⟩, ⟨bo BK376.out⟩, ⟨bo BK383.out⟩, ⟨bw⟩⟩
              ·obtain ⟨ji38, hji38⟩ : ∃ j_ : Int, (wrap64 (x10_3 - x12_4)) = j_ := ⟨_, rfl⟩
               replace H : (if 0 ≤ (ji38) then (if (ji38) < (x6_2.length : Int) then (impl_FromGaps.l2 k4 l0 x6_2 x10_3 (!(rdOf false x6_2 (ji38))) (wrap64 (x12_4 + 1)) x384000_3) else (none)) else (none)) = some (r1, r2) := by first | (rw [hji38] at H; exact H) | (simp only [hji38] at H ⊢; exact H)
               have hji38w : (IntKind.i64.wrap (x10_3 - x12_4)) = ji38 := (i64_w _).trans hji38
               replace H := gd H; obtain ⟨c39b0, H⟩ := H
               replace H := gd H; obtain ⟨c40b0, H⟩ := H
               have H' := Aside0.mk H
               clear H
               obtain ⟨⟨ad385, e385, hx385_0⟩, p385, q385⟩ := pq (Kd.at_bool (Kd.R_reads' HO_6.out).2.2 x12_4)
               (try rw [← Nbq36.out] at hx385_0)
               obtain rfl : ad384 = ad385 := (by injection e385)
               obtain ⟨⟨ad386, e386, hx386_0⟩, p386, q386⟩ := pq (Kd.at_bool (Kd.R_reads' HO_6.out).2.2 (ji38))
               (try rw [← Nbq36.out] at hx386_0)
               obtain rfl : ad384 = ad386 := (by injection e386)
               go_wp2
               go_roundg k4
               case measure => have := HJ2.out; have := HK2.out; have := HK3.out; have := HK4.out; omega
               case rel => exact ⟨(!(rdOf false x6_2 (ji38))), (wrap64 (x12_4 + 1)), (by first | rfl | (simp; done) | (simp only [← hji38] <;> (first | rfl | simp)) | (simp [*]; done)), rr, H', ⟨by have := HJ2.out; have := HK2.out; have := HK3.out; have := HK4.out; omega⟩, ⟨ro HO_6.out⟩, ⟨ro HO_384000.out⟩, ⟨bo BK372.out⟩, ⟨bo BK376.out⟩, ⟨bo BK383.out⟩, ⟨bw⟩⟩
            ·replace H := gb H; obtain ⟨rfl, H⟩ | ⟨rfl, H⟩ := H
             ·have H' := Aside0.mk H
              clear H
              go_wp2
              go_roundg k4
              case measure => have := HJ2.out; have := HK2.out; have := HK3.out; have := HK4.out; omega
              case rel => exact ⟨(wrap64 (x10_3 + 1)), (x384000_3), (u384000), rr, H', ⟨by have := HJ2.out; have := HK2.out; have := HK3.out; have := HK4.out; omega⟩, ⟨ro HO_6.out⟩, ⟨ro HO_384000.out⟩, ⟨bo BK372.out⟩, ⟨bo BK376.out⟩, ⟨bo BK383.out⟩, ⟨bw⟩⟩
             ·by_cases c42 : x384000_3.length < 17592186044416
              rotate_left
              ·rw [if_neg c42] at H
               exact absurd H (by simp)
              rw [if_pos c42] at H
              have LMc42 := Aside0.mk c42
              clear c42
              obtain ⟨y387, hy387⟩ : ∃ y_ : List Int, y_ = (x384000_3 ++ [x10_3]) := ⟨_, rfl⟩
              replace H : (impl_FromGaps.l1 k4 l0 x6_2 (wrap64 (x10_3 + 1)) y387) = some (r1, r2) := by first | (rw [hy387]; with_reducible exact H) | (have H2_ := (Option.bind_some _ _).symm.trans H; rw [hy387]; with_reducible exact H2_) | (have H2_ := (Option.bind_some _ _).symm.trans H; with_reducible exact H2_) | with_reducible exact H | (rw [hy387]; exact H) | exact H
              have Ny387 := Aside0.mk hy387
              clear hy387
              have H' := Aside0.mk H
              clear H
              have hnb43 := NB383_372.out
              have hnc43 := NB372_383.out
              have hnb44 := NB383_376.out
              have hnc44 := NB376_383.out
              have hcz45_0 := bc BK383 0 (u384000)
              have hfz45_0 := blk_frozen BK383.out 0
              go_wp2_with (first | ((with_reducible refine gate_builtin (b := .append) (xs := #[.tmp 74, .tmp 76]) rfl ?_); at_builtin; refine Kd.R_append (Kd.int .i64) (w0 := w) w.heap.size rfl (.tmp 74) (.tmp 76) 22 3 (.int .i64 0) 8 rfl Try.underlying22 info3 rfl (by decide) (by omega) u384000 x384000_3 x10_3 [.int .i64 x10_3] (fun _ => True) (fun _ => False) rfl rfl ?aP (fun _ hk => hk.elim) ?aF ?aO ?aB ?aS ?aL ?_; (case aP => exact rfl); (case aB => exact bw); (case aF => exact (fun _ _ => trivial)); (case aO => exact (ro HO_384000.out)); (case aS => exact (below_size bw)); (case aL => have := LMc42.out; omega); intro v388 w46 ho hb hg hat; rw [← Ny387.out] at ho; replace HO_6 := Aside0.mk (Kd.R_over' (ro HO_6.out) (Kd.R_typed (ro HO_384000.out)) (by decide) hg); replace BK372 := Aside0.mk (blk_grown (g := gb372) (o := .cells #[.slice none 0 0] 27 (0, 0)) (bo BK372.out) hg (Kd.R_ne HO_384000.out BK372.out (by decide))); replace BK376 := Aside0.mk (blk_grown (g := gb376) (o := .cells #[.int .i64 t373, .int .i64 t374] 94 (0, 0)) (bo BK376.out) hg (Kd.R_ne HO_384000.out BK376.out (by decide))); replace BK383 := Aside0.mk (blk_grown (g := gb383) (o := .cells #[u384000] 27 (0, 0)) (bo BK383.out) hg (Kd.R_ne HO_384000.out BK383.out (by decide))); replace HB := Aside0.mk (hb); have HO389 := Aside0.mk (ho); clear HO_384000 ho hb hg hat; obtain ⟨Ao47, co47, eo47⟩ := Kd.R_slice HO389.out; subst eo47; have hcz48_0 := bc BK383 0 (u384000); have hfz48_0 := blk_frozen BK383.out 0))
              go_roundg k4
              case measure => have := HJ2.out; have := HK2.out; have := HK3.out; have := HK4.out; omega
              case rel => exact ⟨(wrap64 (x10_3 + 1)), (y387), (.slice Ao47 y387.length co47), rr, H', ⟨by have := HJ2.out; have := HK2.out; have := HK3.out; have := HK4.out; omega⟩, ⟨by (with_reducible repeat (first | apply Kd.R_alloc | apply Kd.R_drewN | apply Kd.R_drew)); exact Kd.R_mono (Kd.R_far (p := ⟨gb383, 0, none⟩) (Kd.R_types HO_6.out BK383.out (by decide)) (fun _ hk => hk.2) (.slice Ao47 y387.length co47)) (fun _ hk => trivial)⟩, ⟨by (with_reducible repeat (first | apply Kd.R_alloc | apply Kd.R_drewN | apply Kd.R_drew)); exact Kd.R_mono (Kd.R_far (p := ⟨gb383, 0, none⟩) (Kd.R_types HO389.out BK383.out (by decide)) (fun _ hk => hk.2) (.slice Ao47 y387.length co47)) (fun _ hk => trivial)⟩, ⟨by (with_reducible repeat (first | refine blk_drewN ?_ _ | refine blk_drew ?_ | refine blk_alloc ?_ _)); refine blk_far ?_ NB372_383.out _; (with_reducible repeat (first | refine blk_drewN ?_ _ | refine blk_drew ?_ | refine blk_alloc ?_ _)); exact BK372.out⟩, ⟨by (with_reducible repeat (first | refine blk_drewN ?_ _ | refine blk_drew ?_ | refine blk_alloc ?_ _)); refine blk_far ?_ NB376_383.out _; (with_reducible repeat (first | refine blk_drewN ?_ _ | refine blk_drew ?_ | refine blk_alloc ?_ _)); exact BK376.out⟩, ⟨by (with_reducible repeat (first | refine blk_drewN ?_ _ | refine blk_drew ?_ | refine blk_alloc ?_ _)); refine blk_put (cs := #[u384000]) ?_ 0 _ rfl; (with_reducible repeat (first | refine blk_drewN ?_ _ | refine blk_drew ?_ | refine blk_alloc ?_ _)); exact BK383.out⟩, ⟨bw⟩⟩
         ·replace H := ga H; obtain ⟨t390, A49, H⟩ := H
          replace H := gb H; obtain ⟨rfl, H⟩ | ⟨rfl, H⟩ := H
          ·replace H := ga H; obtain ⟨t391, A51, H⟩ := H
           replace H := ga H; obtain ⟨t394, A52, H⟩ := H
           replace H := gb H; obtain ⟨rfl, H⟩ | ⟨rfl, H⟩ := H
           ·simp only [Option.some.injEq, Prod.mk.injEq] at H
            obtain ⟨rfl, rfl⟩ := H
            obtain ⟨Ao54, co54, eo54⟩ := Kd.R_slice HO_6.out
            subst eo54
            have hnb55 := NB383_372.out
            have hnc55 := NB372_383.out
            have hnb56 := NB383_376.out
            have hnc56 := NB376_383.out
            have hcz57_0 := bc BK383 0 (u384000)
            have hfz57_0 := blk_frozen BK383.out 0
            obtain ⟨Ao58, co58, eo58⟩ := Kd.R_slice HO_384000.out
            subst eo58
            go_wp2_with (first | ((with_reducible refine gate_callee (f := 62) rfl ?_); refine gl (some 80) Try.func62 #[.agg #[.slice Ao58 x384000_3.length co58]] ?_; (with_reducible refine (impl_IsSemigroup.calls k3 _ _ x384000_3 true _ ?side1 ?side2 A49.out).mono ?_); (case side1 => exact co (Kd.R_reads' HO_384000.out).2.2); (case side2 => exact (Kd.R_reads' HO_384000.out).2.1); rintro e w59 ⟨rfl, hb⟩; refine ⟨_, rfl, ?_⟩; replace HO_6 := Aside0.mk (Kd.R_below (ro HO_6.out) hb); replace HO_384000 := Aside0.mk (Kd.R_below (ro HO_384000.out) hb); replace BK372 := Aside0.mk (blk_below (g := gb372) (o := .cells #[.slice none 0 0] 27 (0, 0)) (bo BK372.out) hb); replace BK376 := Aside0.mk (blk_below (g := gb376) (o := .cells #[.int .i64 t373, .int .i64 t374] 94 (0, 0)) (bo BK376.out) hb); replace BK383 := Aside0.mk (blk_below (g := gb383) (o := .cells #[.slice Ao58 x384000_3.length co58] 27 (0, 0)) (bo BK383.out) hb); replace HB := Aside0.mk (below_step bw hb); clear hb; have hcz60_0 := bc BK383 0 (.slice Ao58 x384000_3.length co58); have hfz60_0 := blk_frozen BK383.out 0) | (go_at_call 79; (with_reducible refine (impl_Gaps.calls k3 _ _ x384000_3 t391 _ ?side1 ?side2 A51.out).mono ?_); (case side1 => exact co (Kd.R_reads' HO_384000.out).2.2); (case side2 => exact (Kd.R_reads' HO_384000.out).2.1); rintro e w61 ⟨v392, rfl, ho0, hb⟩; replace HO_6 := Aside0.mk (Kd.R_below (ro HO_6.out) hb); have HO393 := Aside0.mk (Kd.R_lower (Kd.R_new' ho0 (Kd.R_lt (ro HO_384000.out))) (below_size bw)); replace HO_384000 := Aside0.mk (Kd.R_elder' (ro HO_384000.out) (Kd.R_base ho0) hb); replace BK372 := Aside0.mk (blk_below (g := gb372) (o := .cells #[.slice none 0 0] 27 (0, 0)) (bo BK372.out) hb); replace BK376 := Aside0.mk (blk_below (g := gb376) (o := .cells #[.int .i64 t373, .int .i64 t374] 94 (0, 0)) (bo BK376.out) hb); replace BK383 := Aside0.mk (blk_below (g := gb383) (o := .cells #[.slice Ao58 x384000_3.length co58] 27 (0, 0)) (bo BK383.out) hb); replace HB := Aside0.mk (below_step bw hb); clear hb ho0; obtain ⟨Ao62, co62, eo62⟩ := Kd.R_slice HO393.out; subst eo62) | (go_at_call 95; (with_reducible refine (slices_Equal_int_int.calls k3 _ _ t391 _ _ l0 true _ ?side1 ?side2 ?side3 ?side4 A52.out).mono ?_); (case side1 => exact co (Kd.R_reads' HO393.out).2.2); (case side2 => exact (Kd.R_reads' HO393.out).2.1); (case side3 => exact co (Kd.C_below HR0.out HB.out)); (case side4 => exact HC0.out); rintro e w' ⟨rfl, ⟨nd, rfl⟩⟩; (try (rw [drewN_self w61]; generalize hq_ : World.drewN w61 _ = w61; have n0_ : Aside0 (Kd.R (Kd.int .i64) 3 w61 w.heap.size (fun k_ => some k_ ≠ (.slice Ao58 x384000_3.length co58 : Value).ownBlock) (.slice Ao62 t391.length co62) t391) := ⟨by rw [← hq_]; exact (by (with_reducible repeat (first | apply Kd.R_alloc | apply Kd.R_drewN | apply Kd.R_drew)); exact Kd.R_mono HO393.out (fun _ hk => hk.2))⟩; have n1_ : Aside0 (Kd.R (Kd.int .i64) 3 w61 w.heap.size (fun k_ => some k_ ≠ (.slice Ao62 t391.length co62 : Value).ownBlock) (.slice Ao58 x384000_3.length co58) x384000_3) := ⟨by rw [← hq_]; exact (by (with_reducible repeat (first | apply Kd.R_alloc | apply Kd.R_drewN | apply Kd.R_drew)); exact Kd.R_mono HO_384000.out (fun _ hk => hk.2))⟩; have n2_ : Aside0 (Kd.R Kd.bool 4 w61 w.heap.size (fun _ => True) (.slice Ao54 x6_2.length co54) x6_2) := ⟨by rw [← hq_]; exact (ro HO_6.out)⟩; have n3_ : Aside0 (w61.heap[gb372]? = some (.cells #[.slice none 0 0] 27 (0, 0))) := ⟨by rw [← hq_]; exact (bo BK372.out)⟩; have n4_ : Aside0 (w61.heap[gb376]? = some (.cells #[.int .i64 t373, .int .i64 t374] 94 (0, 0))) := ⟨by rw [← hq_]; exact (bo BK376.out)⟩; have n5_ : Aside0 (w61.heap[gb383]? = some (.cells #[.slice Ao58 x384000_3.length co58] 27 (0, 0))) := ⟨by rw [← hq_]; exact (bo BK383.out)⟩; have n6_ : Aside0 (Below w.heap.size w w61) := ⟨by rw [← hq_]; exact bw⟩; clear HO393 HO_384000 HO_6 BK372 BK376 BK383 HB hq_; have HO393 := n0_; have HO_384000 := n1_; have HO_6 := n2_; have BK372 := n3_; have BK376 := n4_; have BK383 := n5_; have HB := n6_; clear n0_ n1_ n2_ n3_ n4_ n5_ n6_)); have hcz63_0 := bc BK383 0 (.slice Ao58 x384000_3.length co58); have hfz63_0 := blk_frozen BK383.out 0; have hnb64 := NB372_376.out; have hnc64 := NB376_372.out; have hcz65_0 := bc BK372 0 (.slice none 0 0); have hfz65_0 := blk_frozen BK372.out 0))
            refine bodyPost_ret (results_ct rfl _ _ gb372 27 #[.slice Ao58 x384000_3.length co58] (0, 0) _ rfl (by (with_reducible repeat (first | refine blk_drewN ?_ _ | refine blk_drew ?_ | refine blk_alloc ?_ _)); refine blk_put (cs := #[.slice none 0 0]) ?_ 0 _ rfl; (with_reducible repeat (first | refine blk_drewN ?_ _ | refine blk_drew ?_ | refine blk_alloc ?_ _)); exact BK372.out) Try.underlying27 rfl (by kernel_rfl)) rfl ?_
            exact ⟨_, re, by (with_reducible repeat (first | apply Kd.R_alloc | apply Kd.R_drewN | apply Kd.R_drew)); exact Kd.R_mono (Kd.R_far (p := ⟨gb372, 0, none⟩) (Kd.R_types HO_384000.out BK372.out (by decide)) (fun _ hk => hk.2) (.slice Ao58 x384000_3.length co58)) (fun _ hk => trivial), bw⟩
           ·simp only [Option.some.injEq, Prod.mk.injEq] at H
            obtain ⟨rfl, rfl⟩ := H
            obtain ⟨Ao66, co66, eo66⟩ := Kd.R_slice HO_6.out
            subst eo66
            have hnb67 := NB383_372.out
            have hnc67 := NB372_383.out
            have hnb68 := NB383_376.out
            have hnc68 := NB376_383.out
            have hcz69_0 := bc BK383 0 (u384000)
            have hfz69_0 := blk_frozen BK383.out 0
            obtain ⟨Ao70, co70, eo70⟩ := Kd.R_slice HO_384000.out
            subst eo70
            go_wp2_with (first | ((with_reducible refine gate_callee (f := 62) rfl ?_); refine gl (some 80) Try.func62 #[.agg #[.slice Ao70 x384000_3.length co70]] ?_; (with_reducible refine (impl_IsSemigroup.calls k3 _ _ x384000_3 true _ ?side1 ?side2 A49.out).mono ?_); (case side1 => exact co (Kd.R_reads' HO_384000.out).2.2); (case side2 => exact (Kd.R_reads' HO_384000.out).2.1); rintro e w71 ⟨rfl, hb⟩; refine ⟨_, rfl, ?_⟩; replace HO_6 := Aside0.mk (Kd.R_below (ro HO_6.out) hb); replace HO_384000 := Aside0.mk (Kd.R_below (ro HO_384000.out) hb); replace BK372 := Aside0.mk (blk_below (g := gb372) (o := .cells #[.slice none 0 0] 27 (0, 0)) (bo BK372.out) hb); replace BK376 := Aside0.mk (blk_below (g := gb376) (o := .cells #[.int .i64 t373, .int .i64 t374] 94 (0, 0)) (bo BK376.out) hb); replace BK383 := Aside0.mk (blk_below (g := gb383) (o := .cells #[.slice Ao70 x384000_3.length co70] 27 (0, 0)) (bo BK383.out) hb); replace HB := Aside0.mk (below_step bw hb); clear hb; have hcz72_0 := bc BK383 0 (.slice Ao70 x384000_3.length co70); have hfz72_0 := blk_frozen BK383.out 0) | (go_at_call 79; (with_reducible refine (impl_Gaps.calls k3 _ _ x384000_3 t391 _ ?side1 ?side2 A51.out).mono ?_); (case side1 => exact co (Kd.R_reads' HO_384000.out).2.2); (case side2 => exact (Kd.R_reads' HO_384000.out).2.1); rintro e w73 ⟨v392, rfl, ho0, hb⟩; replace HO_6 := Aside0.mk (Kd.R_below (ro HO_6.out) hb); have HO393 := Aside0.mk (Kd.R_lower (Kd.R_new' ho0 (Kd.R_lt (ro HO_384000.out))) (below_size bw)); replace HO_384000 := Aside0.mk (Kd.R_elder' (ro HO_384000.out) (Kd.R_base ho0) hb); replace BK372 := Aside0.mk (blk_below (g := gb372) (o := .cells #[.slice none 0 0] 27 (0, 0)) (bo BK372.out) hb); replace BK376 := Aside0.mk (blk_below (g := gb376) (o := .cells #[.int .i64 t373, .int .i64 t374] 94 (0, 0)) (bo BK376.out) hb); replace BK383 := Aside0.mk (blk_below (g := gb383) (o := .cells #[.slice Ao70 x384000_3.length co70] 27 (0, 0)) (bo BK383.out) hb); replace HB := Aside0.mk (below_step bw hb); clear hb ho0; obtain ⟨Ao74, co74, eo74⟩ := Kd.R_slice HO393.out; subst eo74) | (go_at_call 95; (with_reducible refine (slices_Equal_int_int.calls k3 _ _ t391 _ _ l0 false _ ?side1 ?side2 ?side3 ?side4 A52.out).mono ?_); (case side1 => exact co (Kd.R_reads' HO393.out).2.2); (case side2 => exact (Kd.R_reads' HO393.out).2.1); (case side3 => exact co (Kd.C_below HR0.out HB.out)); (case side4 => exact HC0.out); rintro e w' ⟨rfl, ⟨nd, rfl⟩⟩; (try (rw [drewN_self w73]; generalize hq_ : World.drewN w73 _ = w73; have n0_ : Aside0 (Kd.R (Kd.int .i64) 3 w73 w.heap.size (fun k_ => some k_ ≠ (.slice Ao70 x384000_3.length co70 : Value).ownBlock) (.slice Ao74 t391.length co74) t391) := ⟨by rw [← hq_]; exact (by (with_reducible repeat (first | apply Kd.R_alloc | apply Kd.R_drewN | apply Kd.R_drew)); exact Kd.R_mono HO393.out (fun _ hk => hk.2))⟩; have n1_ : Aside0 (Kd.R (Kd.int .i64) 3 w73 w.heap.size (fun k_ => some k_ ≠ (.slice Ao74 t391.length co74 : Value).ownBlock) (.slice Ao70 x384000_3.length co70) x384000_3) := ⟨by rw [← hq_]; exact (by (with_reducible repeat (first | apply Kd.R_alloc | apply Kd.R_drewN | apply Kd.R_drew)); exact Kd.R_mono HO_384000.out (fun _ hk => hk.2))⟩; have n2_ : Aside0 (Kd.R Kd.bool 4 w73 w.heap.size (fun _ => True) (.slice Ao66 x6_2.length co66) x6_2) := ⟨by rw [← hq_]; exact (ro HO_6.out)⟩; have n3_ : Aside0 (w73.heap[gb372]? = some (.cells #[.slice none 0 0] 27 (0, 0))) := ⟨by rw [← hq_]; exact (bo BK372.out)⟩; have n4_ : Aside0 (w73.heap[gb376]? = some (.cells #[.int .i64 t373, .int .i64 t374] 94 (0, 0))) := ⟨by rw [← hq_]; exact (bo BK376.out)⟩; have n5_ : Aside0 (w73.heap[gb383]? = some (.cells #[.slice Ao70 x384000_3.length co70] 27 (0, 0))) := ⟨by rw [← hq_]; exact (bo BK383.out)⟩; have n6_ : Aside0 (Below w.heap.size w w73) := ⟨by rw [← hq_]; exact bw⟩; clear HO393 HO_384000 HO_6 BK372 BK376 BK383 HB hq_; have HO393 := n0_; have HO_384000 := n1_; have HO_6 := n2_; have BK372 := n3_; have BK376 := n4_; have BK383 := n5_; have HB := n6_; clear n0_ n1_ n2_ n3_ n4_ n5_ n6_)); have hnb75 := NB372_376.out; have hnc75 := NB376_372.out; have hcz76_0 := bc BK372 0 (.slice none 0 0); have hfz76_0 := blk_frozen BK372.out 0))
            refine bodyPost_ret (results_ct rfl _ _ gb372 27 #[.slice none 0 0] (0, 0) _ rfl (by (with_reducible repeat (first | refine blk_drewN ?_ _ | refine blk_drew ?_ | refine blk_alloc ?_ _)); refine blk_put (cs := #[.slice none 0 0]) ?_ 0 _ rfl; (with_reducible repeat (first | refine blk_drewN ?_ _ | refine blk_drew ?_ | refine blk_alloc ?_ _)); exact BK372.out) Try.underlying27 rfl (by kernel_rfl)) rfl ?_
            exact ⟨_, re, by first | exact Kd.R_nil _ _ _ _ _ | exact Kd.N_nil _ _ _ _ _ | exact Kd.V_nil _ _ _ _ _ | exact Kd.Q_nil _ _ _ _ _ | exact Kd.S_nil _ _ _ _ _, bw⟩
          ·simp only [Option.some.injEq, Prod.mk.injEq] at H
           obtain ⟨rfl, rfl⟩ := H
           obtain ⟨Ao77, co77, eo77⟩ := Kd.R_slice HO_6.out
           subst eo77
           have hnb78 := NB383_372.out
           have hnc78 := NB372_383.out
           have hnb79 := NB383_376.out
           have hnc79 := NB376_383.out
           have hcz80_0 := bc BK383 0 (u384000)
           have hfz80_0 := blk_frozen BK383.out 0
           obtain ⟨Ao81, co81, eo81⟩ := Kd.R_slice HO_384000.out
           subst eo81
           go_wp2_with (first | ((with_reducible refine gate_callee (f := 62) rfl ?_); refine gl (some 80) Try.func62 #[.agg #[.slice Ao81 x384000_3.length co81]] ?_; (with_reducible refine (impl_IsSemigroup.calls k3 _ _ x384000_3 false _ ?side1 ?side2 A49.out).mono ?_); (case side1 => exact co (Kd.R_reads' HO_384000.out).2.2); (case side2 => exact (Kd.R_reads' HO_384000.out).2.1); rintro e w82 ⟨rfl, hb⟩; refine ⟨_, rfl, ?_⟩; replace HO_6 := Aside0.mk (Kd.R_below (ro HO_6.out) hb); replace HO_384000 := Aside0.mk (Kd.R_below (ro HO_384000.out) hb); replace BK372 := Aside0.mk (blk_below (g := gb372) (o := .cells #[.slice none 0 0] 27 (0, 0)) (bo BK372.out) hb); replace BK376 := Aside0.mk (blk_below (g := gb376) (o := .cells #[.int .i64 t373, .int .i64 t374] 94 (0, 0)) (bo BK376.out) hb); replace BK383 := Aside0.mk (blk_below (g := gb383) (o := .cells #[.slice Ao81 x384000_3.length co81] 27 (0, 0)) (bo BK383.out) hb); replace HB := Aside0.mk (below_step bw hb); clear hb; have hnb83 := NB372_376.out; have hnc83 := NB376_372.out; have hcz84_0 := bc BK372 0 (.slice none 0 0); have hfz84_0 := blk_frozen BK372.out 0))
           refine bodyPost_ret (results_ct rfl _ _ gb372 27 #[.slice none 0 0] (0, 0) _ rfl (by (with_reducible repeat (first | refine blk_drewN ?_ _ | refine blk_drew ?_ | refine blk_alloc ?_ _)); refine blk_put (cs := #[.slice none 0 0]) ?_ 0 _ rfl; (with_reducible repeat (first | refine blk_drewN ?_ _ | refine blk_drew ?_ | refine blk_alloc ?_ _)); exact BK372.out) Try.underlying27 rfl (by kernel_rfl)) rfl ?_
           exact ⟨_, re, by first | exact Kd.R_nil _ _ _ _ _ | exact Kd.N_nil _ _ _ _ _ | exact Kd.V_nil _ _ _ _ _ | exact Kd.Q_nil _ _ _ _ _ | exact Kd.S_nil _ _ _ _ _, bw⟩


/-! ### impl_QuotientOf: function 26 -/
mutual
def impl_QuotientOf.j0 : Nat → Int → Bool → List Int → Option (List Int × Bool)
 | 0, _, _, _ => none
 | k + 1, x1, x16, x396000 => if x16 = true then (some (([] : List Int), false)) else ((impl_reach.f k x396000).bind fun t399 => (impl_QuotientOf.l0 k x1 t399 (([] : List Int)) 1))
def impl_QuotientOf.l0 : Nat → Int → (Int → Option Bool) → List Int → Int → Option (List Int × Bool)
 | 0, _, _, _, _ => none
 | k + 1, x1, x6, x7, x8 => if x8 < 200 then ((apF1.f x6 (wrap64 (x1 * x8))).bind fun t403 => (if t403 = true then (impl_QuotientOf.l0 k x1 x6 x7 (wrap64 (x8 + 1))) else (if x7.length < 17592186044416 then (impl_QuotientOf.l0 k x1 x6 (x7 ++ [x8]) (wrap64 (x8 + 1))) else (none)))) else ((impl_FromGaps.f k x7).bind fun bt407 => (some (bt407.1, bt407.2)))
end
def impl_QuotientOf.f (k : Nat) (l0_0 : List Int) (a1 : Int) : Option (List Int × Bool) := (impl_IsSemigroup.f k l0_0).bind fun t397 => (if t397 = true then ((impl_within.f a1 1 20).bind fun t398 => (impl_QuotientOf.j0 k a1 (!t398) l0_0)) else (impl_QuotientOf.j0 k a1 true l0_0))
set_option maxHeartbeats 8000000 in
set_option maxRecDepth 100000 in
theorem impl_QuotientOf.calls (k : Nat) (A0_0 : Option Addr) (c0_0 : Nat) (l0_0 : List Int) (a1 : Int) (r1 : List Int) (r2 : Bool) (w : World) (hr0_0 : Kd.C (Kd.int .i64) w A0_0 l0_0.length l0_0) (hc0_0 : l0_0.length ≤ c0_0) (h : impl_QuotientOf.f k l0_0 a1 = some (r1, r2)) :
  Calls Try.prog 26 #[.agg #[.slice A0_0 l0_0.length c0_0], .int .i64 a1] w fun e w' => ∃ v0_ : Value, e = .returned (.tuple #[.agg #[v0_], .bool r2]) ∧ Kd.R (Kd.int .i64) 3 w' w.heap.size (fun _ => True) v0_ r1 ∧ Below w.heap.size w w' := by
 have hu27 := Try.underlying27
 have HR0_0 := Aside0.mk hr0_0
 have HC0_0 := Aside0.mk hc0_0
 clear hr0_0 hc0_0
 have HB := Aside0.mk (Below.refl w.heap.size w)
 have H : ((impl_IsSemigroup.f k l0_0).bind fun t397 => (if t397 = true then ((impl_within.f a1 1 20).bind fun t398 => (impl_QuotientOf.j0 k a1 (!t398) l0_0)) else (impl_QuotientOf.j0 k a1 true l0_0))) = some (r1, r2) := h
 clear h
 have HC3 := Aside0.mk H
 clear H
 go_enter Try.func26, Try.ntmps26
 go_upto_region 1 with (first | ((with_reducible refine gate_dst (N := 2) rfl ?_); refine bx 2 #[.slice A0_0 l0_0.length c0_0] 27 ?_; intro gb395 hg w4 hbox hb; have BK395 := Aside0.mk (hbox); have GW395 := Aside0.mk (gs hg : w.heap.size ≤ gb395); have GE395 := Aside0.mk (gs hg : w.heap.size ≤ gb395); replace HB := Aside0.mk (below_step bw hb); clear hb hbox hg) | ((with_reducible refine gate_dst (N := 4) rfl ?_); refine bx 4 #[.slice none 0 0] 27 ?_; intro gb396 hg w5 hbox hb; have BK396 := Aside0.mk (hbox); have GW396 := Aside0.mk (gs hg : w.heap.size ≤ gb396); have GE396 := Aside0.mk (gs hg : w.heap.size ≤ gb396); replace HB := Aside0.mk (below_step bw hb); have NB395_396 := Aside0.mk ((by rw [hg]; exact Nat.ne_of_lt (blk_lt (g := gb395) (o := .cells #[.slice A0_0 l0_0.length c0_0] 27 (0, 0)) (bo BK395.out)) : gb395 ≠ gb396)); have NB396_395 := Aside0.mk ((by rw [hg]; exact Nat.ne_of_gt (blk_lt (g := gb395) (o := .cells #[.slice A0_0 l0_0.length c0_0] 27 (0, 0)) (bo BK395.out)) : gb396 ≠ gb395)); replace BK395 := Aside0.mk (blk_below (g := gb395) (o := .cells #[.slice A0_0 l0_0.length c0_0] 27 (0, 0)) (bo BK395.out) hb); clear hb hbox hg))
 (try simp only [Act.put, List.setIfInBounds_toArray, List.set_cons_zero, List.set_cons_succ])
 go_cut [16] (fun v16 wc => ∃ (kq : Nat) (x16_2 : Bool), v16 = .bool x16_2 ∧ Aside0 (impl_QuotientOf.j0 kq a1 x16_2 l0_0 = some (r1, r2)) ∧ Aside0 (kq ≤ k) ∧ Aside0 (wc.heap[gb395]? = some (.cells #[(.slice A0_0 l0_0.length c0_0)] 27 (0, 0))) ∧ Aside0 (wc.heap[gb396]? = some (.cells #[(.slice none 0 0)] 27 (0, 0))) ∧ Aside0 (Below w.heap.size w wc))
 case first =>
  have H := HC3.out
  clear HC3
  replace H := ga H; obtain ⟨t397, A6, H⟩ := H
  replace H := gb H; obtain ⟨rfl, H⟩ | ⟨rfl, H⟩ := H
  ·replace H := ga H; obtain ⟨t398, A8, H⟩ := H
   have H' := Aside0.mk H
   clear H
   have hnb9 := NB395_396.out
   have hnc9 := NB396_395.out
   have hcz10_0 := bc BK395 0 (.slice A0_0 l0_0.length c0_0)
   have hfz10_0 := blk_frozen BK395.out 0
   go_wp2_with (first | ((with_reducible refine gate_callee (f := 62) rfl ?_); refine gl (some 10) Try.func62 #[.agg #[.slice A0_0 l0_0.length c0_0]] ?_; (with_reducible refine (impl_IsSemigroup.calls k _ _ l0_0 true _ ?side1 ?side2 A6.out).mono ?_); (case side1 => exact co (Kd.C_below HR0_0.out HB.out)); (case side2 => exact HC0_0.out); rintro e w11 ⟨rfl, hb⟩; refine ⟨_, rfl, ?_⟩; replace BK395 := Aside0.mk (blk_below (g := gb395) (o := .cells #[.slice A0_0 l0_0.length c0_0] 27 (0, 0)) (bo BK395.out) hb); replace BK396 := Aside0.mk (blk_below (g := gb396) (o := .cells #[.slice none 0 0] 27 (0, 0)) (bo BK396.out) hb); replace HB := Aside0.mk (below_step bw hb); clear hb) | (go_at_call 63; (with_reducible refine (impl_within.calls a1 1 20 t398 _ A8.out).mono ?_); rintro e w' ⟨rfl, ⟨nd, rfl⟩⟩))
   go_meet
   case rel => exact ⟨_, (!t398), rr, H', ⟨om⟩, ⟨bo BK395.out⟩, ⟨bo BK396.out⟩, ⟨bw⟩⟩
  ·have H' := Aside0.mk H
   clear H
   have hnb12 := NB395_396.out
   have hnc12 := NB396_395.out
   have hcz13_0 := bc BK395 0 (.slice A0_0 l0_0.length c0_0)
   have hfz13_0 := blk_frozen BK395.out 0
   go_wp2_with (first | ((with_reducible refine gate_callee (f := 62) rfl ?_); refine gl (some 10) Try.func62 #[.agg #[.slice A0_0 l0_0.length c0_0]] ?_; (with_reducible refine (impl_IsSemigroup.calls k _ _ l0_0 false _ ?side1 ?side2 A6.out).mono ?_); (case side1 => exact co (Kd.C_below HR0_0.out HB.out)); (case side2 => exact HC0_0.out); rintro e w14 ⟨rfl, hb⟩; refine ⟨_, rfl, ?_⟩; replace BK395 := Aside0.mk (blk_below (g := gb395) (o := .cells #[.slice A0_0 l0_0.length c0_0] 27 (0, 0)) (bo BK395.out) hb); replace BK396 := Aside0.mk (blk_below (g := gb396) (o := .cells #[.slice none 0 0] 27 (0, 0)) (bo BK396.out) hb); replace HB := Aside0.mk (below_step bw hb); clear hb))
   go_meet
   case rel => exact ⟨_, (true), rr, H', ⟨om⟩, ⟨bo BK395.out⟩, ⟨bo BK396.out⟩, ⟨bw⟩⟩
 case rest =>
  clear HC3
  try clear hcz10_0; try clear hcz13_0; try clear hfz10_0; try clear hfz13_0
  obtain ⟨kq, x16_2, rfl, HA, HJ2, BK395, BK396, HB⟩ := hcut
  cases kq with
  | zero => exact absurd HA.out (by simp [impl_QuotientOf.j0])
  | succ kj2 =>
   have H := HA.out
   clear HA
   simp only [impl_QuotientOf.j0] at H
   replace H := gb H; obtain ⟨rfl, H⟩ | ⟨rfl, H⟩ := H
   ·simp only [Option.some.injEq, Prod.mk.injEq] at H
    obtain ⟨rfl, rfl⟩ := H
    have hnb16 := NB396_395.out
    have hnc16 := NB395_396.out
    have hcz17_0 := bc BK396 0 (.slice none 0 0)
    have hfz17_0 := blk_frozen BK396.out 0
    go_wp2
    refine bodyPost_ret (results_ct rfl _ _ gb396 27 #[.slice none 0 0] (0, 0) _ rfl (by (with_reducible repeat (first | refine blk_drewN ?_ _ | refine blk_drew ?_ | refine blk_alloc ?_ _)); refine blk_put (cs := #[.slice none 0 0]) ?_ 0 _ rfl; (with_reducible repeat (first | refine blk_drewN ?_ _ | refine blk_drew ?_ | refine blk_alloc ?_ _)); exact BK396.out) Try.underlying27 rfl (by kernel_rfl)) rfl ?_
    exact ⟨_, re, by first | exact Kd.R_nil _ _ _ _ _ | exact Kd.N_nil _ _ _ _ _ | exact Kd.V_nil _ _ _ _ _ | exact Kd.Q_nil _ _ _ _ _ | exact Kd.S_nil _ _ _ _ _, bw⟩
   ·replace H := ga H; obtain ⟨t399, A18, H⟩ := H
    obtain ⟨y400, hy400⟩ : ∃ y_ : List Int, y_ = (([] : List Int)) := ⟨_, rfl⟩
    replace H : (impl_QuotientOf.l0 kj2 a1 t399 y400 1) = some (r1, r2) := by first | (rw [hy400]; with_reducible exact H) | (have H2_ := (Option.bind_some _ _).symm.trans H; rw [hy400]; with_reducible exact H2_) | (have H2_ := (Option.bind_some _ _).symm.trans H; with_reducible exact H2_) | with_reducible exact H | (rw [hy400]; exact H) | exact H
    have Ny400 := Aside0.mk hy400
    clear hy400
    have H' := Aside0.mk H
    clear H
    have hnb19 := NB395_396.out
    have hnc19 := NB396_395.out
    have hcz20_0 := bc BK395 0 (.slice A0_0 l0_0.length c0_0)
    have hfz20_0 := blk_frozen BK395.out 0
    go_wp2_with (first | ((with_reducible refine gate_callee (f := 75) rfl ?_); refine gl (some 19) Try.func75 #[.agg #[.slice A0_0 l0_0.length c0_0]] ?_; (with_reducible refine (impl_reach.calls kj2 _ _ l0_0 t399 _ ?side1 ?side2 A18.out).mono ?_); (case side1 => exact co (Kd.C_below HR0_0.out HB.out)); (case side2 => exact HC0_0.out); rintro e w21 ⟨F_t399, rfl, hF_t399, hb⟩; refine ⟨_, rfl, ?_⟩; replace BK395 := Aside0.mk (blk_below (g := gb395) (o := .cells #[.slice A0_0 l0_0.length c0_0] 27 (0, 0)) (bo BK395.out) hb); replace BK396 := Aside0.mk (blk_below (g := gb396) (o := .cells #[.slice none 0 0] 27 (0, 0)) (bo BK396.out) hb); have HW_ := Aside0.mk (below_step bw hb : Below w.heap.size w w21); replace HR0_0 := Aside0.mk (Kd.C_below HR0_0.out HW_.out); clear HB hb; have HB := Aside0.mk (Below.refl w21.heap.size w21); obtain ⟨gF_t399, lF_t399, rfl, eF_t399, hF_t399⟩ := hF_t399; obtain ⟨w, rfl⟩ : ∃ x_, x_ = w21 := ⟨_, rfl⟩) | ((with_reducible refine gate_dst (N := 20) rfl ?_); refine Kd.R_lit (Kd.int .i64) _ 3 ?hg (N := 20) ?hd (xs := ([] : List Int)) (inner := []) (ok := fun _ => True) (okp := fun _ => True) ?hr ?hp (fun _ hk => hk) trivial (Below.refl _ _) (Nat.le_refl _) (by simp) ?_; (case hd => rfl); (case hg => rfl); (case hr => first | (go_simp; done) | (go_simp; rfl)); (case hp => exact (Reps.none _ _)); intro v401 w22 ho23 hb hg_ hnew_; clear hg_ hnew_; (first | rw [← Ny400.out] at ho23 | (simp only [Int.reduceToNat] at ho23; rw [← Ny400.out] at ho23)); have HO402 := Aside0.mk (Kd.R_lower ho23 (below_size bw)); replace BK395 := Aside0.mk (blk_below (g := gb395) (o := .cells #[.slice A0_0 l0_0.length c0_0] 27 (0, 0)) (bo BK395.out) hb); replace BK396 := Aside0.mk (blk_below (g := gb396) (o := .cells #[.slice none 0 0] 27 (0, 0)) (bo BK396.out) hb); replace HB := Aside0.mk (below_step bw hb); clear hb ho23))
    go_loopg [7, 8] kj2 (fun kq v7 v8 w' => ∃ (x7_2 : List Int) (x8_2 : Int), v8 = .int .i64 x8_2 ∧ Aside0 (impl_QuotientOf.l0 kq a1 t399 x7_2 x8_2 = some (r1, r2)) ∧ Aside0 (kq ≤ kj2) ∧ Aside0 (Kd.R (Kd.int .i64) 3 w' w.heap.size (fun _ => True) v7 x7_2) ∧ Aside0 (w'.heap[gb395]? = some (.cells #[(.slice A0_0 l0_0.length c0_0)] 27 (0, 0))) ∧ Aside0 (w'.heap[gb396]? = some (.cells #[(.slice none 0 0)] 27 (0, 0))) ∧ Aside0 (Below w.heap.size w w'))
    case atStart => exact ⟨(y400), (1), rr, H', ⟨Nat.le_refl _⟩, ⟨ro HO402.out⟩, ⟨bo BK395.out⟩, ⟨bo BK396.out⟩, ⟨bw⟩⟩
    case round =>
     clear H'
     try clear hcz10_0; try clear hcz13_0; try clear hcz17_0; try clear hcz20_0; try clear hfz10_0; try clear hfz13_0; try clear hfz17_0; try clear hfz20_0
     obtain ⟨x7_2, x8_2, rfl, HA, HK2, HO_7, BK395, BK396, HB⟩ := hrel
     cases gk with
     | zero => exact absurd HA.out (by simp [impl_QuotientOf.l0])
     | succ k2 =>
      have H := HA.out
      clear HA
      simp only [impl_QuotientOf.l0] at H
      replace H := gi H; obtain ⟨c24b0, H⟩ | ⟨c24b0, H⟩ := H
      ·replace H := ga H; obtain ⟨t403, A25, H⟩ := H
       replace H := gb H; obtain ⟨rfl, H⟩ | ⟨rfl, H⟩ := H
       ·have H' := Aside0.mk H
        clear H
        go_wp2_with (first | (go_at_fn gF_t399; (with_reducible refine (hF_t399 _ bw (wrap64 (a1 * x8_2)) true A25.out).mono ?_); rintro e w' ⟨rfl, ⟨nd, rfl⟩⟩))
        go_roundg k2
        case measure => have := HJ2.out; have := HK2.out; omega
        case rel => exact ⟨(x7_2), (wrap64 (x8_2 + 1)), rr, H', ⟨by have := HJ2.out; have := HK2.out; omega⟩, ⟨ro HO_7.out⟩, ⟨bo BK395.out⟩, ⟨bo BK396.out⟩, ⟨bw⟩⟩
       ·by_cases c27 : x7_2.length < 17592186044416
        rotate_left
        ·rw [if_neg c27] at H
         exact absurd H (by simp)
        rw [if_pos c27] at H
        have LMc27 := Aside0.mk c27
        clear c27
        obtain ⟨y404, hy404⟩ : ∃ y_ : List Int, y_ = (x7_2 ++ [x8_2]) := ⟨_, rfl⟩
        replace H : (impl_QuotientOf.l0 k2 a1 t399 y404 (wrap64 (x8_2 + 1))) = some (r1, r2) := by first | (rw [hy404]; with_reducible exact H) | (have H2_ := (Option.bind_some _ _).symm.trans H; rw [hy404]; with_reducible exact H2_) | (have H2_ := (Option.bind_some _ _).symm.trans H; with_reducible exact H2_) | with_reducible exact H | (rw [hy404]; exact H) | exact H
        have Ny404 := Aside0.mk hy404
        clear hy404
        have H' := Aside0.mk H
        clear H
        go_wp2_with (first | (go_at_fn gF_t399; (with_reducible refine (hF_t399 _ bw (wrap64 (a1 * x8_2)) false A25.out).mono ?_); rintro e w' ⟨rfl, ⟨nd, rfl⟩⟩) | ((with_reducible refine gate_builtin (b := .append) (xs := #[.tmp 31, .tmp 33]) rfl ?_); at_builtin; refine Kd.R_append (Kd.int .i64) (w0 := w) w.heap.size rfl (.tmp 31) (.tmp 33) 22 3 (.int .i64 0) 8 rfl Try.underlying22 info3 rfl (by decide) (by omega) u7 x7_2 x8_2 [.int .i64 x8_2] (fun _ => True) (fun _ => False) rfl rfl ?aP (fun _ hk => hk.elim) ?aF ?aO ?aB ?aS ?aL ?_; (case aP => exact rfl); (case aB => exact bw); (case aF => exact (fun _ _ => trivial)); (case aO => exact (ro HO_7.out)); (case aS => exact (below_size bw)); (case aL => have := LMc27.out; omega); intro v405 w28 ho hb hg hat; rw [← Ny404.out] at ho; replace BK395 := Aside0.mk (blk_grown (g := gb395) (o := .cells #[.slice A0_0 l0_0.length c0_0] 27 (0, 0)) (bo BK395.out) hg (Kd.R_ne HO_7.out BK395.out (by decide))); replace BK396 := Aside0.mk (blk_grown (g := gb396) (o := .cells #[.slice none 0 0] 27 (0, 0)) (bo BK396.out) hg (Kd.R_ne HO_7.out BK396.out (by decide))); replace HB := Aside0.mk (hb); have HO406 := Aside0.mk (ho); clear HO_7 ho hb hg hat))
        go_roundg k2
        case measure => have := HJ2.out; have := HK2.out; omega
        case rel => exact ⟨(y404), (wrap64 (x8_2 + 1)), rr, H', ⟨by have := HJ2.out; have := HK2.out; omega⟩, ⟨ro HO406.out⟩, ⟨bo BK395.out⟩, ⟨bo BK396.out⟩, ⟨bw⟩⟩
      ·replace H := ga H; obtain ⟨⟨t407, t410⟩, A29, H⟩ := H
       replace H : (some (t407, t410)) = some (r1, r2) := H
       simp only [Option.some.injEq, Prod.mk.injEq] at H
       obtain ⟨rfl, rfl⟩ := H
       obtain ⟨Ao30, co30, eo30⟩ := Kd.R_slice HO_7.out
       subst eo30
       go_wp2_with (first | ((with_reducible refine gate_callee (f := 76) rfl ?_); refine gl (some 36) Try.func76 #[.slice Ao30 x7_2.length co30] ?_; (with_reducible refine (impl_FromGaps.calls k2 _ _ x7_2 t407 t410 _ ?side1 ?side2 A29.out).mono ?_); (case side1 => exact co (Kd.R_reads' HO_7.out).2.2); (case side2 => exact (Kd.R_reads' HO_7.out).2.1); rintro e w31 ⟨v408, rfl, ho0, hb⟩; refine ⟨_, rfl, ?_⟩; have HO409 := Aside0.mk (Kd.R_lower (Kd.R_new' ho0 (Kd.R_lt (ro HO_7.out))) (below_size bw)); replace HO_7 := Aside0.mk (Kd.R_elder' (ro HO_7.out) (Kd.R_base ho0) hb); replace BK395 := Aside0.mk (blk_below (g := gb395) (o := .cells #[.slice A0_0 l0_0.length c0_0] 27 (0, 0)) (bo BK395.out) hb); replace BK396 := Aside0.mk (blk_below (g := gb396) (o := .cells #[.slice none 0 0] 27 (0, 0)) (bo BK396.out) hb); replace HB := Aside0.mk (below_step bw hb); clear hb ho0; obtain ⟨Ao32, co32, eo32⟩ := Kd.R_slice HO409.out; subst eo32; have hnb33 := NB396_395.out; have hnc33 := NB395_396.out; have hcz34_0 := bc BK396 0 (.slice none 0 0); have hfz34_0 := blk_frozen BK396.out 0))
       refine bodyPost_ret (results_ct rfl _ _ gb396 27 #[.slice Ao32 t407.length co32] (0, 0) _ rfl (by (with_reducible repeat (first | refine blk_drewN ?_ _ | refine blk_drew ?_ | refine blk_alloc ?_ _)); refine blk_put (cs := #[.slice none 0 0]) ?_ 0 _ rfl; (with_reducible repeat (first | refine blk_drewN ?_ _ | refine blk_drew ?_ | refine blk_alloc ?_ _)); exact BK396.out) Try.underlying27 rfl (by kernel_rfl)) rfl ?_
       replace HB := Aside0.mk (below_step HW_.out HB.out)
       exact ⟨_, re, Kd.R_lower (by (with_reducible repeat (first | apply Kd.R_alloc | apply Kd.R_drewN | apply Kd.R_drew)); exact Kd.R_mono (Kd.R_far (p := ⟨gb396, 0, none⟩) (Kd.R_types HO409.out BK396.out (by decide)) (fun _ hk => hk.2) (.slice Ao32 t407.length co32)) (fun _ hk => trivial)) (below_size HW_.out), bw⟩


/-! ### laws_heldIntS: function 24 -/
def laws_heldIntS.l0 : Nat → List Int → Int → Int → Option (Int)
 | 0, _, _, _ => none
 | k + 1, x0, x1, x5 => if x5 < (x0.length : Int) then (if 0 ≤ x5 then (if (rd x0 x5) = x1 then (laws_heldIntS.l0 k x0 (wrap64 (x1 + 1)) (wrap64 (x5 + 1))) else (some (-1))) else (none)) else (some x1)
def laws_heldIntS.f (k : Nat) (l0 : List Int) (a1 : Int) : Option (Int) := laws_heldIntS.l0 k l0 a1 0
set_option maxHeartbeats 8000000 in
set_option maxRecDepth 100000 in
theorem laws_heldIntS.calls (k : Nat) (A0 : Option Addr) (c0 : Nat) (l0 : List Int) (a1 : Int) (r : Int) (w : World) (hr0 : Kd.C (Kd.int .i64) w A0 l0.length l0) (hc0 : l0.length ≤ c0) (h : laws_heldIntS.f k l0 a1 = some r) :
  Calls Try.prog 24 #[.slice A0 l0.length c0, .int .i64 a1] w fun e w' => e = .returned (.int .i64 r) ∧ Drawn0 w w' := by
 have HR0 := Aside0.mk hr0
 have HC0 := Aside0.mk hc0
 clear hr0 hc0
 have H : (laws_heldIntS.l0 k l0 a1 0) = some r := h
 clear h
 have H' := Aside0.mk H
 clear H
 go_enter Try.func24, Try.ntmps24
 go_wp2
 go_loopg [1, 5] k (fun kq v1 v5 w' => ∃ (x1_1 : Int) (x5_1 : Int), v1 = .int .i64 x1_1 ∧ v5 = .int .i64 x5_1 ∧ Aside0 (laws_heldIntS.l0 kq l0 x1_1 x5_1 = some r) ∧ Aside0 (kq ≤ k) ∧ Drawn0 w w')
 case atStart => exact ⟨(a1), (0), rr, rr, H', ⟨Nat.le_refl _⟩, dw⟩
 case round =>
  clear H'
  obtain ⟨x1_1, x5_1, rfl, rfl, HA, HK1, ⟨m1, rfl⟩⟩ := hrel
  cases gk with
  | zero => exact absurd HA.out (by simp [laws_heldIntS.l0])
  | succ k1 =>
   have H := HA.out
   clear HA
   simp only [laws_heldIntS.l0] at H
   replace H := gi H; obtain ⟨c3b0, H⟩ | ⟨c3b0, H⟩ := H
   ·replace H := gd H; obtain ⟨c4b0, H⟩ := H
    by_cases c5 : (rd l0 x5_1) = x1_1
    ·rw [if_pos c5] at H
     have c5b0 : ((rd l0 x5_1) == x1_1) = true := beq_iff_eq.mpr c5
     have c5b1 : ((rd l0 x5_1) != x1_1) = false := bne_eq_false_iff_eq.mpr c5
     clear c5
     have H' := Aside0.mk H
     clear H
     obtain ⟨⟨ad411, e411, hx411_0⟩, p411, q411⟩ := pq (Kd.at_int HR0.out x5_1)
     cases e411
     go_wp2
     go_roundg k1
     case measure => have := HK1.out; omega
     case rel => exact ⟨(wrap64 (x1_1 + 1)), (wrap64 (x5_1 + 1)), rr, rr, H', ⟨by have := HK1.out; omega⟩, dw⟩
    ·rw [if_neg c5] at H
     have c5b0 : ((rd l0 x5_1) == x1_1) = false := beq_eq_false_iff_ne.mpr c5
     have c5b1 : ((rd l0 x5_1) != x1_1) = true := bne_iff_ne.mpr c5
     obtain rfl := Option.some.inj H
     obtain ⟨⟨ad411, e411, hx411_0⟩, p411, q411⟩ := pq (Kd.at_int HR0.out x5_1)
     cases e411
     go_wp2
     go_ret
     exact ⟨rr, dw⟩
   ·obtain rfl := Option.some.inj H
    go_wp2
    go_ret
    exact ⟨rr, dw⟩


/-! ### laws_heldSemigroup: function 27 -/
def laws_heldSemigroup.f (k : Nat) (l0_0 : List Int) (a1 : Int) : Option (Int) := (laws_heldIntS.f k l0_0 a1).bind fun t413 => (if t413 < 0 then (some (-1)) else (some t413))
set_option maxHeartbeats 8000000 in
set_option maxRecDepth 100000 in
theorem laws_heldSemigroup.calls (k : Nat) (A0_0 : Option Addr) (c0_0 : Nat) (l0_0 : List Int) (a1 : Int) (r : Int) (w : World) (hr0_0 : Kd.C (Kd.int .i64) w A0_0 l0_0.length l0_0) (hc0_0 : l0_0.length ≤ c0_0) (h : laws_heldSemigroup.f k l0_0 a1 = some r) :
  Calls Try.prog 27 #[.agg #[.slice A0_0 l0_0.length c0_0], .int .i64 a1] w fun e w' => e = .returned (.int .i64 r) ∧ Below w.heap.size w w' := by
 have hu27 := Try.underlying27
 have HR0_0 := Aside0.mk hr0_0
 have HC0_0 := Aside0.mk hc0_0
 clear hr0_0 hc0_0
 have HB := Aside0.mk (Below.refl w.heap.size w)
 have H : ((laws_heldIntS.f k l0_0 a1).bind fun t413 => (if t413 < 0 then (some (-1)) else (some t413))) = some r := h
 clear h
 replace H := ga H; obtain ⟨t413, A3, H⟩ := H
 replace H := gi H; obtain ⟨c4b0, H⟩ | ⟨c4b0, H⟩ := H
 ·obtain rfl := Option.some.inj H
  go_enter Try.func27, Try.ntmps27
  go_wp2_with (first | ((with_reducible refine gate_dst (N := 2) rfl ?_); refine bx 2 #[.slice A0_0 l0_0.length c0_0] 27 ?_; intro gb412 hg w5 hbox hb; have BK412 := Aside0.mk (hbox); have GW412 := Aside0.mk (gs hg : w.heap.size ≤ gb412); have GE412 := Aside0.mk (gs hg : w.heap.size ≤ gb412); replace HB := Aside0.mk (below_step bw hb); clear hb hbox hg; have hcz6_0 := bc BK412 0 (.slice A0_0 l0_0.length c0_0); have hfz6_0 := blk_frozen BK412.out 0) | ((with_reducible refine gate_callee (f := 24) rfl ?_); refine gl (some 8) Try.func24 #[.slice A0_0 l0_0.length c0_0, .int .i64 a1] ?_; (with_reducible refine (laws_heldIntS.calls k _ _ l0_0 a1 t413 _ ?side1 ?side2 A3.out).mono ?_); (case side1 => exact co (Kd.C_below HR0_0.out HB.out)); (case side2 => exact HC0_0.out); rintro e w' ⟨rfl, ⟨nd, rfl⟩⟩; refine ⟨_, rfl, ?_⟩))
  go_ret
  exact ⟨re, bw⟩
 ·obtain rfl := Option.some.inj H
  go_enter Try.func27, Try.ntmps27
  go_wp2_with (first | ((with_reducible refine gate_dst (N := 2) rfl ?_); refine bx 2 #[.slice A0_0 l0_0.length c0_0] 27 ?_; intro gb412 hg w7 hbox hb; have BK412 := Aside0.mk (hbox); have GW412 := Aside0.mk (gs hg : w.heap.size ≤ gb412); have GE412 := Aside0.mk (gs hg : w.heap.size ≤ gb412); replace HB := Aside0.mk (below_step bw hb); clear hb hbox hg; have hcz8_0 := bc BK412 0 (.slice A0_0 l0_0.length c0_0); have hfz8_0 := blk_frozen BK412.out 0) | ((with_reducible refine gate_callee (f := 24) rfl ?_); refine gl (some 8) Try.func24 #[.slice A0_0 l0_0.length c0_0, .int .i64 a1] ?_; (with_reducible refine (laws_heldIntS.calls k _ _ l0_0 a1 t413 _ ?side1 ?side2 A3.out).mono ?_); (case side1 => exact co (Kd.C_below HR0_0.out HB.out)); (case side2 => exact HC0_0.out); rintro e w' ⟨rfl, ⟨nd, rfl⟩⟩; refine ⟨_, rfl, ?_⟩))
  go_ret
  exact ⟨re, bw⟩

end Go.Proofs.Ytlfdipnhlmjiaaa.C
