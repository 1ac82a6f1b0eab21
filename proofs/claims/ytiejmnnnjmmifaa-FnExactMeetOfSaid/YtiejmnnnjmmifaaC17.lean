/- Contracts of functions of the program: impl_FromGaps, impl_MeetOf, laws_heldSemigroup. -/
import Derived.Test.YtiejmnnnjmmifaaC0
import Derived.Test.YtiejmnnnjmmifaaC5
import Derived.Test.YtiejmnnnjmmifaaC6
import Derived.Test.YtiejmnnnjmmifaaC16
namespace Go.Proofs.Ytiejmnnnjmmifaa.C
open Go.RowKit Go.Proofs.YtiejmnnnjmmifaaW.PrintWords Go.Proofs.YtiejmnnnjmmifaaW.PrintLast Go.Proofs.YtiejmnnnjmmifaaW.PrintMore
attribute [local go_sem] max2_int min2_int max_two min_two max_three min_three max_four min_four
set_option linter.unusedVariables false
set_option linter.unusedSimpArgs false

/-! ### impl_FromGaps: function 83 -/
mutual
def impl_FromGaps.j0 : Nat → List Int → Bool → Option (List Int × Bool)
 | 0, _, _ => none
 | k + 1, x0, x23 => if x23 = true then (some (([] : List Int), false)) else (if 401 ≤ 281474976710656 then (impl_FromGaps.l0 k x0 (List.replicate 401 false) x0 (x0.length : Int) 0) else (none))
def impl_FromGaps.l0 : Nat → List Int → List Bool → List Int → Int → Int → Option (List Int × Bool)
 | 0, _, _, _, _, _ => none
 | k + 1, x0, x6, x26, x27, x28 => if x28 < x27 then (if 0 ≤ x28 then (if x28 < (x26.length : Int) then (if 0 ≤ (rd x26 x28) then (if (rd x26 x28) < (x6.length : Int) then (impl_FromGaps.l0 k x0 (x6.set ((rd x26 x28) : Int).toNat true) x26 x27 (wrap64 (x28 + 1))) else (none)) else (none)) else (none)) else (none)) else (impl_FromGaps.l1 k x0 x6 1 ([] : List Int))
def impl_FromGaps.l1 : Nat → List Int → List Bool → Int → List Int → Option (List Int × Bool)
 | 0, _, _, _, _ => none
 | k + 1, x0, x6, x10, x860000 => if x10 < (x6.length : Int) then (if 0 ≤ x10 then (impl_FromGaps.l2 k x0 x6 x10 (rdOf false x6 x10) 1 x860000) else (none)) else ((impl_IsSemigroup.f k x860000).bind fun t866 => (if t866 = true then ((impl_Gaps.f k x860000).bind fun t867 => ((slices_Equal_int_int.f k t867 x0).bind fun t870 => (if t870 = true then (some (x860000, true)) else (some (([] : List Int), false))))) else (some (([] : List Int), false))))
def impl_FromGaps.l2 : Nat → List Int → List Bool → Int → Bool → Int → List Int → Option (List Int × Bool)
 | 0, _, _, _, _, _, _ => none
 | k + 1, x0, x6, x10, x11, x12, x860000 => if (wrap64 (2 * x12)) ≤ x10 then (if x11 = true then (impl_FromGaps.l1 k x0 x6 (wrap64 (x10 + 1)) x860000) else (if 0 ≤ x12 then (if x12 < (x6.length : Int) then (if rdOf false x6 x12 = true then (impl_FromGaps.l2 k x0 x6 x10 false (wrap64 (x12 + 1)) x860000) else (if 0 ≤ (wrap64 (x10 - x12)) then (if (wrap64 (x10 - x12)) < (x6.length : Int) then (impl_FromGaps.l2 k x0 x6 x10 (!(rdOf false x6 (wrap64 (x10 - x12)))) (wrap64 (x12 + 1)) x860000) else (none)) else (none))) else (none)) else (none))) else (if x11 = true then (impl_FromGaps.l1 k x0 x6 (wrap64 (x10 + 1)) x860000) else (if x860000.length < 17592186044416 then (impl_FromGaps.l1 k x0 x6 (wrap64 (x10 + 1)) (x860000 ++ [x10])) else (none)))
end
def impl_FromGaps.f (k : Nat) (l0 : List Int) : Option (List Int × Bool) := (impl_GapClash.f k l0).bind fun bt849 => (if bt849.2.2 = true then (impl_FromGaps.j0 k l0 true) else ((impl_gapList.f k l0).bind fun t853 => (impl_FromGaps.j0 k l0 (!t853))))
set_option maxHeartbeats 8000000 in
set_option maxRecDepth 100000 in
theorem impl_FromGaps.calls (k : Nat) (A0 : Option Addr) (c0 : Nat) (l0 : List Int) (r1 : List Int) (r2 : Bool) (w : World) (hr0 : Kd.C (Kd.int .i64) w A0 l0.length l0) (hc0 : l0.length ≤ c0) (h : impl_FromGaps.f k l0 = some (r1, r2)) :
  Calls Try.prog 83 #[.slice A0 l0.length c0] w fun e w' => ∃ v0_ : Value, e = .returned (.tuple #[.agg #[v0_], .bool r2]) ∧ Kd.R (Kd.int .i64) 3 w' w.heap.size (fun _ => True) v0_ r1 ∧ Below w.heap.size w w' := by
 have hu27 := Try.underlying27
 have hu74 := Try.underlying74
 have HR0 := Aside0.mk hr0
 have HC0 := Aside0.mk hc0
 clear hr0 hc0
 have HB := Aside0.mk (Below.refl w.heap.size w)
 have H : ((impl_GapClash.f k l0).bind fun bt849 => (if bt849.2.2 = true then (impl_FromGaps.j0 k l0 true) else ((impl_gapList.f k l0).bind fun t853 => (impl_FromGaps.j0 k l0 (!t853))))) = some (r1, r2) := h
 clear h
 replace H := ga H; obtain ⟨⟨t849, t850, t851⟩, A2, H⟩ := H
 replace H : (if t851 = true then (impl_FromGaps.j0 k l0 true) else ((impl_gapList.f k l0).bind fun t853 => (impl_FromGaps.j0 k l0 (!t853)))) = some (r1, r2) := H
 have HC3 := Aside0.mk H
 clear H
 go_enter Try.func83, Try.ntmps83
 go_upto_region 2 with (first | ((with_reducible refine gate_dst (N := 2) rfl ?_); refine bx 2 #[.slice none 0 0] 27 ?_; intro gb848 hg w4 hbox hb; have BK848 := Aside0.mk (hbox); have GW848 := Aside0.mk (gs hg : w.heap.size ≤ gb848); have GE848 := Aside0.mk (gs hg : w.heap.size ≤ gb848); replace HB := Aside0.mk (below_step bw hb); clear hb hbox hg) | ((with_reducible refine gate_callee (f := 117) rfl ?_); refine gl (some 15) Try.func117 #[.slice A0 l0.length c0] ?_; (with_reducible refine (impl_GapClash.calls k _ _ l0 t849 t850 t851 _ ?side1 ?side2 A2.out).mono ?_); (case side1 => exact co (Kd.C_below HR0.out HB.out)); (case side2 => exact HC0.out); rintro e w5 ⟨rfl, hb⟩; refine ⟨_, rfl, ?_⟩; replace BK848 := Aside0.mk (blk_below (g := gb848) (o := .cells #[.slice none 0 0] 27 (0, 0)) (bo BK848.out) hb); replace HB := Aside0.mk (below_step bw hb); clear hb) | ((with_reducible refine gate_dst (N := 4) rfl ?_); refine bx 4 #[.int .i64 0, .int .i64 0] 74 ?_; intro gb852 hg w6 hbox hb; have BK852 := Aside0.mk (hbox); have GW852 := Aside0.mk (gs hg : w.heap.size ≤ gb852); have GE852 := Aside0.mk (gs hg : w.heap.size ≤ gb852); replace HB := Aside0.mk (below_step bw hb); have NB848_852 := Aside0.mk ((by rw [hg]; exact Nat.ne_of_lt (blk_lt (g := gb848) (o := .cells #[.slice none 0 0] 27 (0, 0)) (bo BK848.out)) : gb848 ≠ gb852)); have NB852_848 := Aside0.mk ((by rw [hg]; exact Nat.ne_of_gt (blk_lt (g := gb848) (o := .cells #[.slice none 0 0] 27 (0, 0)) (bo BK848.out)) : gb852 ≠ gb848)); replace BK848 := Aside0.mk (blk_below (g := gb848) (o := .cells #[.slice none 0 0] 27 (0, 0)) (bo BK848.out) hb); clear hb hbox hg; have hnb7 := NB852_848.out; have hnc7 := NB848_852.out; have hcz8_0 := bc BK852 0 (.int .i64 0); have hcz8_1 := bc BK852 1 (.int .i64 0); have hfz8_0 := blk_frozen BK852.out 0; have hfz8_1 := blk_frozen BK852.out 1))
 (try simp only [Act.put, List.setIfInBounds_toArray, List.set_cons_zero, List.set_cons_succ])
 go_cut [23] (fun v23 wc => ∃ (kq : Nat) (x23_2 : Bool), v23 = .bool x23_2 ∧ Aside0 (impl_FromGaps.j0 kq l0 x23_2 = some (r1, r2)) ∧ Aside0 (kq ≤ k) ∧ Aside0 (wc.heap[gb848]? = some (.cells #[(.slice none 0 0)] 27 (0, 0))) ∧ Aside0 (wc.heap[gb852]? = some (.cells #[.int .i64 t849, .int .i64 t850] 74 (0, 0))) ∧ Aside0 (Below w.heap.size w wc))
 case first =>
  have H := HC3.out
  clear HC3
  replace H := gb H; obtain ⟨rfl, H⟩ | ⟨rfl, H⟩ := H
  ·have H' := Aside0.mk H
   clear H
   go_wp2
   go_meet
   case rel => exact ⟨_, (true), rr, H', ⟨om⟩, ⟨by (with_reducible repeat (first | refine blk_drewN ?_ _ | refine blk_drew ?_ | refine blk_alloc ?_ _)); refine blk_far ?_ NB848_852.out _; (with_reducible repeat (first | refine blk_drewN ?_ _ | refine blk_drew ?_ | refine blk_alloc ?_ _)); refine blk_far ?_ NB848_852.out _; (with_reducible repeat (first | refine blk_drewN ?_ _ | refine blk_drew ?_ | refine blk_alloc ?_ _)); exact BK848.out⟩, ⟨by (with_reducible repeat (first | refine blk_drewN ?_ _ | refine blk_drew ?_ | refine blk_alloc ?_ _)); refine blk_put (cs := #[.int .i64 t849, .int .i64 0]) ?_ 1 _ rfl; (with_reducible repeat (first | refine blk_drewN ?_ _ | refine blk_drew ?_ | refine blk_alloc ?_ _)); refine blk_put (cs := #[.int .i64 0, .int .i64 0]) ?_ 0 _ rfl; (with_reducible repeat (first | refine blk_drewN ?_ _ | refine blk_drew ?_ | refine blk_alloc ?_ _)); exact BK852.out⟩, ⟨bw⟩⟩
  ·replace H := ga H; obtain ⟨t853, A10, H⟩ := H
   have H' := Aside0.mk H
   clear H
   go_wp2_with (first | (go_at_call 118; (with_reducible refine (impl_gapList.calls k _ _ l0 t853 _ ?side1 ?side2 A10.out).mono ?_); (case side1 => exact Kd.C_below HR0.out bw); (case side2 => exact HC0.out); rintro e w' ⟨rfl, ⟨nd, rfl⟩⟩))
   go_meet
   case rel => exact ⟨_, (!t853), rr, H', ⟨om⟩, ⟨by (with_reducible repeat (first | refine blk_drewN ?_ _ | refine blk_drew ?_ | refine blk_alloc ?_ _)); refine blk_far ?_ NB848_852.out _; (with_reducible repeat (first | refine blk_drewN ?_ _ | refine blk_drew ?_ | refine blk_alloc ?_ _)); refine blk_far ?_ NB848_852.out _; (with_reducible repeat (first | refine blk_drewN ?_ _ | refine blk_drew ?_ | refine blk_alloc ?_ _)); exact BK848.out⟩, ⟨by (with_reducible repeat (first | refine blk_drewN ?_ _ | refine blk_drew ?_ | refine blk_alloc ?_ _)); refine blk_put (cs := #[.int .i64 t849, .int .i64 0]) ?_ 1 _ rfl; (with_reducible repeat (first | refine blk_drewN ?_ _ | refine blk_drew ?_ | refine blk_alloc ?_ _)); refine blk_put (cs := #[.int .i64 0, .int .i64 0]) ?_ 0 _ rfl; (with_reducible repeat (first | refine blk_drewN ?_ _ | refine blk_drew ?_ | refine blk_alloc ?_ _)); exact BK852.out⟩, ⟨bw⟩⟩
 case rest =>
  clear HC3
  try clear hcz8_0; try clear hcz8_1; try clear hfz8_0; try clear hfz8_1
  obtain ⟨kq, x23_2, rfl, HA, HJ2, BK848, BK852, HB⟩ := hcut
  cases kq with
  | zero => exact absurd HA.out (by simp [impl_FromGaps.j0])
  | succ kj2 =>
   have H := HA.out
   clear HA
   simp only [impl_FromGaps.j0] at H
   replace H := gb H; obtain ⟨rfl, H⟩ | ⟨rfl, H⟩ := H
   ·simp only [Option.some.injEq, Prod.mk.injEq] at H
    obtain ⟨rfl, rfl⟩ := H
    have hnb12 := NB848_852.out
    have hnc12 := NB852_848.out
    have hcz13_0 := bc BK848 0 (.slice none 0 0)
    have hfz13_0 := blk_frozen BK848.out 0
    go_wp2
    refine bodyPost_ret (results_ct rfl _ _ gb848 27 #[.slice none 0 0] (0, 0) _ rfl (by (with_reducible repeat (first | refine blk_drewN ?_ _ | refine blk_drew ?_ | refine blk_alloc ?_ _)); refine blk_put (cs := #[.slice none 0 0]) ?_ 0 _ rfl; (with_reducible repeat (first | refine blk_drewN ?_ _ | refine blk_drew ?_ | refine blk_alloc ?_ _)); exact BK848.out) Try.underlying27 rfl (by kernel_rfl)) rfl ?_
    exact ⟨_, re, by first | exact Kd.R_nil _ _ _ _ _ | exact Kd.N_nil _ _ _ _ _ | exact Kd.V_nil _ _ _ _ _ | exact Kd.Q_nil _ _ _ _ _ | exact Kd.S_nil _ _ _ _ _, bw⟩
   ·replace H := gp H; obtain ⟨c14, H⟩ := H
    have c14b0 := eq_true c14
    have c14b1 : decide (401 ≤ 281474976710656) = true := decide_eq_true c14
    clear c14
    obtain ⟨y854, hy854⟩ : ∃ y_ : List Bool, y_ = (List.replicate 401 false) := ⟨_, rfl⟩
    replace H : (impl_FromGaps.l0 kj2 l0 y854 l0 (l0.length : Int) 0) = some (r1, r2) := by first | (rw [hy854]; with_reducible exact H) | (have H2_ := (Option.bind_some _ _).symm.trans H; rw [hy854]; with_reducible exact H2_) | (have H2_ := (Option.bind_some _ _).symm.trans H; with_reducible exact H2_) | with_reducible exact H | (rw [hy854]; exact H) | exact H
    have Ny854 := Aside0.mk hy854
    clear hy854
    have H' := Aside0.mk H
    clear H
    go_wp2_with (first | ((with_reducible refine gate_dst (N := 25) rfl ?_); refine Kd.R_make Kd.bool _ 4 rfl (N := 25) rfl 66 _ _ rfl 401 rfl rfl Try.underlying66 (.bool false) 1 info4 rfl (by decide) (by omega) false (ok := fun _ => True) (okp := fun _ => True) rfl (fun _ hk => hk) trivial (by omega) (by omega) (Below.refl _ _) (Nat.le_refl _) ?_; intro v855 w15 ho16 hb hg_ hnew_; clear hg_ hnew_; (first | rw [← Ny854.out] at ho16 | (simp only [Int.reduceToNat] at ho16; rw [← Ny854.out] at ho16)); have HO856 := Aside0.mk (Kd.R_lower ho16 (below_size bw)); replace BK848 := Aside0.mk (blk_below (g := gb848) (o := .cells #[.slice none 0 0] 27 (0, 0)) (bo BK848.out) hb); replace BK852 := Aside0.mk (blk_below (g := gb852) (o := .cells #[.int .i64 t849, .int .i64 t850] 74 (0, 0)) (bo BK852.out) hb); replace HB := Aside0.mk (below_step bw hb); clear hb ho16))
    go_loopg [28] kj2 (fun kq v28 w' => ∃ (x6_2 : List Bool) (x28_2 : Int), v28 = .int .i64 x28_2 ∧ Aside0 (impl_FromGaps.l0 kq l0 x6_2 l0 (l0.length : Int) x28_2 = some (r1, r2)) ∧ Aside0 (kq ≤ kj2) ∧ Aside0 (Kd.R Kd.bool 4 w' w.heap.size (fun _ => True) v855 x6_2) ∧ Aside0 (w'.heap[gb848]? = some (.cells #[(.slice none 0 0)] 27 (0, 0))) ∧ Aside0 (w'.heap[gb852]? = some (.cells #[.int .i64 t849, .int .i64 t850] 74 (0, 0))) ∧ Aside0 (Below w.heap.size w w'))
    case atStart => exact ⟨(y854), (0), rr, H', ⟨Nat.le_refl _⟩, ⟨ro HO856.out⟩, ⟨bo BK848.out⟩, ⟨bo BK852.out⟩, ⟨bw⟩⟩
    case round =>
     clear H'
     try clear c14; try clear c14b0; try clear c14b1; try clear hcz13_0; try clear hcz8_0; try clear hcz8_1; try clear hfz13_0; try clear hfz8_0; try clear hfz8_1
     obtain ⟨x6_2, x28_2, rfl, HA, HK2, HO_6, BK848, BK852, HB⟩ := hrel
     cases gk with
     | zero => exact absurd HA.out (by simp [impl_FromGaps.l0])
     | succ k2 =>
      have H := HA.out
      clear HA
      simp only [impl_FromGaps.l0] at H
      replace H := gi H; obtain ⟨c17b0, H⟩ | ⟨c17b0, H⟩ := H
      ·replace H := gd H; obtain ⟨c18b0, H⟩ := H
       replace H := gd H; obtain ⟨c19b0, H⟩ := H
       replace H := gd H; obtain ⟨c20b0, H⟩ := H
       replace H := gd H; obtain ⟨c21b0, H⟩ := H
       obtain ⟨y858, hy858⟩ : ∃ y_ : List Bool, y_ = (x6_2.set ((rd l0 x28_2) : Int).toNat true) := ⟨_, rfl⟩
       replace H : (impl_FromGaps.l0 k2 l0 y858 l0 (l0.length : Int) (wrap64 (x28_2 + 1))) = some (r1, r2) := by first | (rw [hy858]; with_reducible exact H) | (have H2_ := (Option.bind_some _ _).symm.trans H; rw [hy858]; with_reducible exact H2_) | (have H2_ := (Option.bind_some _ _).symm.trans H; with_reducible exact H2_) | with_reducible exact H | (rw [hy858]; exact H) | exact H
       have Ny858 := Aside0.mk hy858
       clear hy858
       have H' := Aside0.mk H
       clear H
       obtain ⟨⟨ad857, e857, hx857_0⟩, p857, q857⟩ := pq (Kd.at_int HR0.out x28_2)
       cases e857
       replace hx857_0 := (HB.out.cell (World.block_lt_of_cell? w _ hx857_0)).trans hx857_0
       have p22 : 0 ≤ ((rd l0 x28_2) : Int) := of_decide_eq_true (by first | (with_reducible assumption) | assumption)
       have q22 : ((rd l0 x28_2) : Int) < ((x6_2.length : Int) : Int) := of_decide_eq_true (by first | (with_reducible assumption) | assumption)
       obtain ⟨go22, co22, eo22, gb22, gl22, cl22, HG22⟩ := Kd.R_form HO_6.out (by omega)
       (first | cases eo22 | (injection eo22 with ea_ en_ ec_; (first | subst ea_ | (injection ea_ with ea_; subst ea_)); subst ec_; clear en_))
       have GB22 := Aside0.mk gb22
       have GG22 := Aside0.mk HG22
       clear gb22 gl22 HG22
       obtain ⟨hx22_0, hf22_0⟩ := Kd.R_celln false HO_6.out ((rd l0 x28_2) : Int) p22 q22
       replace p22 := eq_true p22
       replace q22 := eq_true q22
       have HP23 := Kd.R_putg HO_6.out ((rd l0 x28_2) : Int) true
       go_wp2_with (first | ((with_reducible refine gate_store (t := 4) (p := 34) rfl ?_); refine store_event (t := 4) (p := 34) (v := ?vo_w24) (w1 := (wr.setCell ⟨go22, ((rd l0 x28_2) : Int).toNat, none⟩ (.bool true))) ?hg ?ho ?hn ?hr ?_; (case ho => rfl); (case hg => rfl); (case hn => rfl); (case hr => first | (go_simp; done) | (go_simp; rfl)); intro w24 hw; have hg : wr.grownBy w24 (some go22) := (by rw [hw]; exact HP23.2); have hp_ : Kd.R Kd.bool 4 w24 w.heap.size (fun _ => True) (.slice (some ⟨go22, 0, none⟩) x6_2.length co22) y858 := (by rw [hw, Ny858.out]; exact HP23.1); clear HP23; replace BK848 := Aside0.mk (blk_grown (g := gb848) (o := .cells #[.slice none 0 0] 27 (0, 0)) (bo BK848.out) hg (Kd.R_ne HO_6.out BK848.out (by decide))); replace BK852 := Aside0.mk (blk_grown (g := gb852) (o := .cells #[.int .i64 t849, .int .i64 t850] 74 (0, 0)) (bo BK852.out) hg (Kd.R_ne HO_6.out BK852.out (by decide))); replace HO_6 := Aside0.mk (hp_); replace HB := Aside0.mk ((by rw [hw]; exact below_set (HB.out) GB22.out : Below w.heap.size w w24)); clear hg hw hp_))
       go_roundg k2
       case measure => have := HJ2.out; have := HK2.out; omega
       case rel => exact ⟨(y858), (wrap64 (x28_2 + 1)), rr, H', ⟨by have := HJ2.out; have := HK2.out; omega⟩, ⟨ro HO_6.out⟩, ⟨bo BK848.out⟩, ⟨bo BK852.out⟩, ⟨bw⟩⟩
      ·have H' := Aside0.mk H
       clear H
       go_wp2_with (first | ((with_reducible refine gate_dst (N := 9) rfl ?_); refine bx 9 #[.slice none 0 0] 27 ?_; intro gb859 hg w25 hbox hb; replace HO_6 := Aside0.mk (Kd.R_below (ro HO_6.out) hb); have BK859 := Aside0.mk (hbox); have GW859 := Aside0.mk (gs hg : w.heap.size ≤ gb859); have GE859 := Aside0.mk (gs hg : w.heap.size ≤ gb859); replace HB := Aside0.mk (below_step bw hb); have NB848_859 := Aside0.mk ((by rw [hg]; exact Nat.ne_of_lt (blk_lt (g := gb848) (o := .cells #[.slice none 0 0] 27 (0, 0)) (bo BK848.out)) : gb848 ≠ gb859)); have NB859_848 := Aside0.mk ((by rw [hg]; exact Nat.ne_of_gt (blk_lt (g := gb848) (o := .cells #[.slice none 0 0] 27 (0, 0)) (bo BK848.out)) : gb859 ≠ gb848)); replace BK848 := Aside0.mk (blk_below (g := gb848) (o := .cells #[.slice none 0 0] 27 (0, 0)) (bo BK848.out) hb); have NB852_859 := Aside0.mk ((by rw [hg]; exact Nat.ne_of_lt (blk_lt (g := gb852) (o := .cells #[.int .i64 t849, .int .i64 t850] 74 (0, 0)) (bo BK852.out)) : gb852 ≠ gb859)); have NB859_852 := Aside0.mk ((by rw [hg]; exact Nat.ne_of_gt (blk_lt (g := gb852) (o := .cells #[.int .i64 t849, .int .i64 t850] 74 (0, 0)) (bo BK852.out)) : gb859 ≠ gb852)); replace BK852 := Aside0.mk (blk_below (g := gb852) (o := .cells #[.int .i64 t849, .int .i64 t850] 74 (0, 0)) (bo BK852.out) hb); clear hb hbox hg; have hnb26 := NB859_848.out; have hnc26 := NB848_859.out; have hnb27 := NB859_852.out; have hnc27 := NB852_859.out; have hcz28_0 := bc BK859 0 (.slice none 0 0); have hfz28_0 := blk_frozen BK859.out 0))
       go_loopg [10] k2 (fun kq v10 w' => ∃ (x10_3 : Int) (x860000_3 : List Int) (u860000 : Value), v10 = .int .i64 x10_3 ∧ Aside0 (impl_FromGaps.l1 kq l0 x6_2 x10_3 x860000_3 = some (r1, r2)) ∧ Aside0 (kq ≤ k2) ∧ Aside0 (Kd.R Kd.bool 4 w' w.heap.size (fun _ => True) v855 x6_2) ∧ Aside0 (Kd.R (Kd.int .i64) 3 w' w.heap.size (fun _ => True) u860000 x860000_3) ∧ Aside0 (w'.heap[gb848]? = some (.cells #[(.slice none 0 0)] 27 (0, 0))) ∧ Aside0 (w'.heap[gb852]? = some (.cells #[.int .i64 t849, .int .i64 t850] 74 (0, 0))) ∧ Aside0 (w'.heap[gb859]? = some (.cells #[u860000] 27 (0, 0))) ∧ Aside0 (Below w.heap.size w w'))
       case atStart => exact ⟨(1), (([] : List Int)), (.slice none 0 0), rr, H', ⟨Nat.le_refl _⟩, ⟨by (with_reducible repeat (first | apply Kd.R_alloc | apply Kd.R_drewN | apply Kd.R_drew)); exact Kd.R_mono (Kd.R_far (p := ⟨gb859, 0, none⟩) (Kd.R_types HO_6.out BK859.out (by decide)) (fun _ hk => hk.2) (.slice none 0 0)) (fun _ hk => trivial)⟩, ⟨by first | exact Kd.R_nil _ _ _ _ _ | exact Kd.N_nil _ _ _ _ _ | exact Kd.V_nil _ _ _ _ _ | exact Kd.Q_nil _ _ _ _ _ | exact Kd.S_nil _ _ _ _ _⟩, ⟨by (with_reducible repeat (first | refine blk_drewN ?_ _ | refine blk_drew ?_ | refine blk_alloc ?_ _)); refine blk_far ?_ NB848_859.out _; (with_reducible repeat (first | refine blk_drewN ?_ _ | refine blk_drew ?_ | refine blk_alloc ?_ _)); exact BK848.out⟩, ⟨by (with_reducible repeat (first | refine blk_drewN ?_ _ | refine blk_drew ?_ | refine blk_alloc ?_ _)); refine blk_far ?_ NB852_859.out _; (with_reducible repeat (first | refine blk_drewN ?_ _ | refine blk_drew ?_ | refine blk_alloc ?_ _)); exact BK852.out⟩, ⟨by (with_reducible repeat (first | refine blk_drewN ?_ _ | refine blk_drew ?_ | refine blk_alloc ?_ _)); refine blk_put (cs := #[.slice none 0 0]) ?_ 0 _ rfl; (with_reducible repeat (first | refine blk_drewN ?_ _ | refine blk_drew ?_ | refine blk_alloc ?_ _)); exact BK859.out⟩, ⟨bw⟩⟩
       case round =>
        clear H'
        try clear c14; try clear c14b0; try clear c14b1; try clear c17b0; try clear c18b0; try clear c19b0; try clear c20b0; try clear c21b0; try clear p22; try clear q22; try clear hcz13_0; try clear hcz28_0; try clear hcz8_0; try clear hcz8_1; try clear hfz13_0; try clear hfz28_0; try clear hfz8_0; try clear hfz8_1; try clear hx22_0; try clear hx857_0; try clear p857; try clear q857
        obtain ⟨x10_3, x860000_3, u860000, rfl, HA, HK3, HO_6, HO_860000, BK848, BK852, BK859, HB⟩ := hrel
        cases gk with
        | zero => exact absurd HA.out (by simp [impl_FromGaps.l1])
        | succ k3 =>
         have H := HA.out
         clear HA
         simp only [impl_FromGaps.l1] at H
         replace H := gi H; obtain ⟨c29b0, H⟩ | ⟨c29b0, H⟩ := H
         ·replace H := gd H; obtain ⟨c30b0, H⟩ := H
          have H' := Aside0.mk H
          clear H
          obtain ⟨Ao31, co31, eo31⟩ := Kd.R_slice HO_6.out
          subst eo31
          obtain ⟨⟨ad860, e860, hx860_0⟩, p860, q860⟩ := pq (Kd.at_bool (Kd.R_reads' HO_6.out).2.2 x10_3)
          cases e860
          go_wp2
          go_loopg [11, 12] k3 (fun kq v11 v12 w' => ∃ (x11_4 : Bool) (x12_4 : Int), v11 = .bool x11_4 ∧ v12 = .int .i64 x12_4 ∧ Aside0 (impl_FromGaps.l2 kq l0 x6_2 x10_3 x11_4 x12_4 x860000_3 = some (r1, r2)) ∧ Aside0 (kq ≤ k3) ∧ Aside0 (Kd.R Kd.bool 4 w' w.heap.size (fun _ => True) (.slice (some ad860) x6_2.length co31) x6_2) ∧ Aside0 (Kd.R (Kd.int .i64) 3 w' w.heap.size (fun _ => True) u860000 x860000_3) ∧ Aside0 (w'.heap[gb848]? = some (.cells #[(.slice none 0 0)] 27 (0, 0))) ∧ Aside0 (w'.heap[gb852]? = some (.cells #[.int .i64 t849, .int .i64 t850] 74 (0, 0))) ∧ Aside0 (w'.heap[gb859]? = some (.cells #[u860000] 27 (0, 0))) ∧ Aside0 (Below w.heap.size w w'))
          case atStart => exact ⟨(rdOf false x6_2 x10_3), (1), rr, rr, H', ⟨Nat.le_refl _⟩, ⟨ro HO_6.out⟩, ⟨ro HO_860000.out⟩, ⟨bo BK848.out⟩, ⟨bo BK852.out⟩, ⟨bo BK859.out⟩, ⟨bw⟩⟩
          case round =>
           clear H'
           try clear c14; try clear c14b0; try clear c14b1; try clear c17b0; try clear c18b0; try clear c19b0; try clear c20b0; try clear c21b0; try clear p22; try clear q22; try clear c29b0; try clear c30b0; try clear hcz13_0; try clear hcz28_0; try clear hcz8_0; try clear hcz8_1; try clear hfz13_0; try clear hfz28_0; try clear hfz8_0; try clear hfz8_1; try clear hx22_0; try clear hx857_0; try clear hx860_0; try clear p857; try clear p860; try clear q857; try clear q860
           obtain ⟨x11_4, x12_4, rfl, rfl, HA, HK4, HO_6, HO_860000, BK848, BK852, BK859, HB⟩ := hrel
           cases gk with
           | zero => exact absurd HA.out (by simp [impl_FromGaps.l2])
           | succ k4 =>
            have H := HA.out
            clear HA
            simp only [impl_FromGaps.l2] at H
            replace H := gi H; obtain ⟨c32b0, H⟩ | ⟨c32b0, H⟩ := H
            ·replace H := gb H; obtain ⟨rfl, H⟩ | ⟨rfl, H⟩ := H
             ·have H' := Aside0.mk H
              clear H
              go_wp2
              go_roundg k4
              case measure => have := HJ2.out; have := HK2.out; have := HK3.out; have := HK4.out; omega
              case rel => exact ⟨(wrap64 (x10_3 + 1)), (x860000_3), (u860000), rr, H', ⟨by have := HJ2.out; have := HK2.out; have := HK3.out; have := HK4.out; omega⟩, ⟨ro HO_6.out⟩, ⟨ro HO_860000.out⟩, ⟨bo BK848.out⟩, ⟨bo BK852.out⟩, ⟨bo BK859.out⟩, ⟨bw⟩⟩
             ·replace H := gd H; obtain ⟨c34b0, H⟩ := H
              replace H := gd H; obtain ⟨c35b0, H⟩ := H
              obtain ⟨bq36, hbq36⟩ : ∃ b_ : Bool, b_ = (rdOf false x6_2 x12_4) := ⟨_, rfl⟩
              replace H : (if bq36 = true then (impl_FromGaps.l2 k4 l0 x6_2 x10_3 false (wrap64 (x12_4 + 1)) x860000_3) else (if 0 ≤ (wrap64 (x10_3 - x12_4)) then (if (wrap64 (x10_3 - x12_4)) < (x6_2.length : Int) then (impl_FromGaps.l2 k4 l0 x6_2 x10_3 (!(rdOf false x6_2 (wrap64 (x10_3 - x12_4)))) (wrap64 (x12_4 + 1)) x860000_3) else (none)) else (none))) = some (r1, r2) := by rw [← hbq36] at H; exact H
              have Nbq36 := Aside0.mk hbq36
              clear hbq36
              replace H := gb H; obtain ⟨rfl, H⟩ | ⟨rfl, H⟩ := H
              ·have H' := Aside0.mk H
               clear H
               obtain ⟨⟨ad861, e861, hx861_0⟩, p861, q861⟩ := pq (Kd.at_bool (Kd.R_reads' HO_6.out).2.2 x12_4)
               (try rw [← Nbq36.out] at hx861_0)
               obtain rfl : ad860 = ad861 := (by injection e861)
               go_wp2
               go_roundg k4
               case measure => have := HJ2.out; have := HK2.out; have := HK3.out; have := HK4.out; omega
               case rel => exact ⟨(false), (wrap64 (x12_4 + 1)), rr, rr, H', ⟨by have := HJ2.out; have := HK2.out; have := HK3.out; have := HK4.out; omega⟩, ⟨ro HO_6.out⟩, ⟨ro HO_860000.out⟩, ⟨bo BK848.out⟩, ⟨bo BK852.out⟩, ⟨bo BK859.out⟩, ⟨bw⟩⟩
              ·obtain ⟨ji38, hji38⟩ : ∃ j_ : Int, (wrap64 (x10_3 - x12_4)) = j_ := ⟨_, rfl⟩
               replace H : (if 0 ≤ (ji38) then (if (ji38) < (x6_2.length : Int) then (impl_FromGaps.l2 k4 l0 x6_2 x10_3 (!(rdOf false x6_2 (ji38))) (wrap64 (x12_4 + 1)) x860000_3) else (none)) else (none)) = some (r1, r2) := by first | (rw [hji38] at H; exact H) | (simp only [hji38] at H ⊢; exact H)
               have hji38w : (IntKind.i64.wrap (x10_3 - x12_4)) = ji38 := (i64_w _).trans hji38
               replace H := gd H; obtain ⟨c39b0, H⟩ := H
               replace H := gd H; obtain ⟨c40b0, H⟩ := H
               have H' := Aside0.mk H
               clear H
               obtain ⟨⟨ad861, e861, hx861_0⟩, p861, q861⟩ := pq (Kd.at_bool (Kd.R_reads' HO_6.out).2.2 x12_4)
               (try rw [← Nbq36.out] at hx861_0)
               obtain rfl : ad860 = ad861 := (by injection e861)
               obtain ⟨⟨ad862, e862, hx862_0⟩, p862, q862⟩ := pq (Kd.at_bool (Kd.R_reads' HO_6.out).2.2 (ji38))
               (try rw [← Nbq36.out] at hx862_0)
               obtain rfl : ad860 = ad862 := (by injection e862)
               go_wp2
               go_roundg k4
               case measure => have := HJ2.out; have := HK2.out; have := HK3.out; have := HK4.out; omega
               case rel => exact ⟨(!(rdOf false x6_2 (ji38))), (wrap64 (x12_4 + 1)), (by first | rfl | (simp; done) | (simp only [← hji38] <;> (first | rfl | simp)) | (simp [*]; done)), rr, H', ⟨by have := HJ2.out; have := HK2.out; have := HK3.out; have := HK4.out; omega⟩, ⟨ro HO_6.out⟩, ⟨ro HO_860000.out⟩, ⟨bo BK848.out⟩, ⟨bo BK852.out⟩, ⟨bo BK859.out⟩, ⟨bw⟩⟩
            ·replace H := gb H; obtain ⟨rfl, H⟩ | ⟨rfl, H⟩ := H
             ·have H' := Aside0.mk H
              clear H
              go_wp2
              go_roundg k4
              case measure => have := HJ2.out; have := HK2.out; have := HK3.out; have := HK4.out; omega
              case rel => exact ⟨(wrap64 (x10_3 + 1)), (x860000_3), (u860000), rr, H', ⟨by have := HJ2.out; have := HK2.out; have := HK3.out; have := HK4.out; omega⟩, ⟨ro HO_6.out⟩, ⟨ro HO_860000.out⟩, ⟨bo BK848.out⟩, ⟨bo BK852.out⟩, ⟨bo BK859.out⟩, ⟨bw⟩⟩
             ·by_cases c42 : x860000_3.length < 17592186044416
              rotate_left
              ·rw [if_neg c42] at H
               exact absurd H (by simp)
              rw [if_pos c42] at H
              have LMc42 := Aside0.mk c42
              clear c42
              obtain ⟨y863, hy863⟩ : ∃ y_ : List Int, y_ = (x860000_3 ++ [x10_3]) := ⟨_, rfl⟩
              replace H : (impl_FromGaps.l1 k4 l0 x6_2 (wrap64 (x10_3 + 1)) y863) = some (r1, r2) := by first | (rw [hy863]; with_reducible exact H) | (have H2_ := (Option.bind_some _ _).symm.trans H; rw [hy863]; with_reducible exact H2_) | (have H2_ := (Option.bind_some _ _).symm.trans H; with_reducible exact H2_) | with_reducible exact H | (rw [hy863]; exact H) | exact H
              have Ny863 := Aside0.mk hy863
              clear hy863
              have H' := Aside0.mk H
              clear H
              have hnb43 := NB859_848.out
              have hnc43 := NB848_859.out
              have hnb44 := NB859_852.out
              have hnc44 := NB852_859.out
              have hcz45_0 := bc BK859 0 (u860000)
              have hfz45_0 := blk_frozen BK859.out 0
              go_wp2_with (first | ((with_reducible refine gate_builtin (b := .append) (xs := #[.tmp 74, .tmp 76]) rfl ?_); at_builtin; refine Kd.R_append (Kd.int .i64) (w0 := w) w.heap.size rfl (.tmp 74) (.tmp 76) 22 3 (.int .i64 0) 8 rfl Try.underlying22 info3 rfl (by decide) (by omega) u860000 x860000_3 x10_3 [.int .i64 x10_3] (fun _ => True) (fun _ => False) rfl rfl ?aP (fun _ hk => hk.elim) ?aF ?aO ?aB ?aS ?aL ?_; (case aP => exact rfl); (case aB => exact bw); (case aF => exact (fun _ _ => trivial)); (case aO => exact (ro HO_860000.out)); (case aS => exact (below_size bw)); (case aL => have := LMc42.out; omega); intro v864 w46 ho hb hg hat; rw [← Ny863.out] at ho; replace HO_6 := Aside0.mk (Kd.R_over' (ro HO_6.out) (Kd.R_typed (ro HO_860000.out)) (by decide) hg); replace BK848 := Aside0.mk (blk_grown (g := gb848) (o := .cells #[.slice none 0 0] 27 (0, 0)) (bo BK848.out) hg (Kd.R_ne HO_860000.out BK848.out (by decide))); replace BK852 := Aside0.mk (blk_grown (g := gb852) (o := .cells #[.int .i64 t849, .int .i64 t850] 74 (0, 0)) (bo BK852.out) hg (Kd.R_ne HO_860000.out BK852.out (by decide))); replace BK859 := Aside0.mk (blk_grown (g := gb859) (o := .cells #[u860000] 27 (0, 0)) (bo BK859.out) hg (Kd.R_ne HO_860000.out BK859.out (by decide))); replace HB := Aside0.mk (hb); have HO865 := Aside0.mk (ho); clear HO_860000 ho hb hg hat; obtain ⟨Ao47, co47, eo47⟩ := Kd.R_slice HO865.out; subst eo47; have hcz48_0 := bc BK859 0 (u860000); have hfz48_0 := blk_frozen BK859.out 0))
              go_roundg k4
              case measure => have := HJ2.out; have := HK2.out; have := HK3.out; have := HK4.out; omega
              case rel => exact ⟨(wrap64 (x10_3 + 1)), (y863), (.slice Ao47 y863.length co47), rr, H', ⟨by have := HJ2.out; have := HK2.out; have := HK3.out; have := HK4.out; omega⟩, ⟨by (with_reducible repeat (first | apply Kd.R_alloc | apply Kd.R_drewN | apply Kd.R_drew)); exact Kd.R_mono (Kd.R_far (p := ⟨gb859, 0, none⟩) (Kd.R_types HO_6.out BK859.out (by decide)) (fun _ hk => hk.2) (.slice Ao47 y863.length co47)) (fun _ hk => trivial)⟩, ⟨by (with_reducible repeat (first | apply Kd.R_alloc | apply Kd.R_drewN | apply Kd.R_drew)); exact Kd.R_mono (Kd.R_far (p := ⟨gb859, 0, none⟩) (Kd.R_types HO865.out BK859.out (by decide)) (fun _ hk => hk.2) (.slice Ao47 y863.length co47)) (fun _ hk => trivial)⟩, ⟨by (with_reducible repeat (first | refine blk_drewN ?_ _ | refine blk_drew ?_ | refine blk_alloc ?_ _)); refine blk_far ?_ NB848_859.out _; (with_reducible repeat (first | refine blk_drewN ?_ _ | refine blk_drew ?_ | refine blk_alloc ?_ _)); exact BK848.out⟩, ⟨by (with_reducible repeat (first | refine blk_drewN ?_ _ | refine blk_drew ?_ | refine blk_alloc ?_ _)); refine blk_far ?_ NB852_859.out _; (with_reducible repeat (first | refine blk_drewN ?_ _ | refine blk_drew ?_ | refine blk_alloc ?_ _)); exact BK852.out⟩, ⟨by (with_reducible repeat (first | refine blk_drewN ?_ _ | refine blk_drew ?_ | refine blk_alloc ?_ _)); refine blk_put (cs := #[u860000]) ?_ 0 _ rfl; (with_reducible repeat (first | refine blk_drewN ?_ _ | refine blk_drew ?_ | refine blk_alloc ?_ _)); exact BK859.out⟩, ⟨bw⟩⟩
         ·replace H := ga H; obtain ⟨t866, A49, H⟩ := H
          replace H := gb H; obtain ⟨rfl, H⟩ | ⟨rfl, H⟩ := H
          ·replace H := ga H; obtain ⟨t867, A51, H⟩ := H
           replace H := ga H; obtain ⟨t870, A52, H⟩ := H
           replace H := gb H; obtain ⟨rfl, H⟩ | ⟨rfl, H⟩ := H
           ·simp only [Option.some.injEq, Prod.mk.injEq] at H
            obtain ⟨rfl, rfl⟩ := H
            obtain ⟨Ao54, co54, eo54⟩ := Kd.R_slice HO_6.out
            subst eo54
            have hnb55 := NB859_848.out
            have hnc55 := NB848_859.out
            have hnb56 := NB859_852.out
            have hnc56 := NB852_859.out
            have hcz57_0 := bc BK859 0 (u860000)
            have hfz57_0 := blk_frozen BK859.out 0
            obtain ⟨Ao58, co58, eo58⟩ := Kd.R_slice HO_860000.out
            subst eo58
            go_wp2_with (first | ((with_reducible refine gate_callee (f := 58) rfl ?_); refine gl (some 80) Try.func58 #[.agg #[.slice Ao58 x860000_3.length co58]] ?_; (with_reducible refine (impl_IsSemigroup.calls k3 _ _ x860000_3 true _ ?side1 ?side2 A49.out).mono ?_); (case side1 => exact co (Kd.R_reads' HO_860000.out).2.2); (case side2 => exact (Kd.R_reads' HO_860000.out).2.1); rintro e w59 ⟨rfl, hb⟩; refine ⟨_, rfl, ?_⟩; replace HO_6 := Aside0.mk (Kd.R_below (ro HO_6.out) hb); replace HO_860000 := Aside0.mk (Kd.R_below (ro HO_860000.out) hb); replace BK848 := Aside0.mk (blk_below (g := gb848) (o := .cells #[.slice none 0 0] 27 (0, 0)) (bo BK848.out) hb); replace BK852 := Aside0.mk (blk_below (g := gb852) (o := .cells #[.int .i64 t849, .int .i64 t850] 74 (0, 0)) (bo BK852.out) hb); replace BK859 := Aside0.mk (blk_below (g := gb859) (o := .cells #[.slice Ao58 x860000_3.length co58] 27 (0, 0)) (bo BK859.out) hb); replace HB := Aside0.mk (below_step bw hb); clear hb; have hcz60_0 := bc BK859 0 (.slice Ao58 x860000_3.length co58); have hfz60_0 := blk_frozen BK859.out 0) | (go_at_call 84; (with_reducible refine (impl_Gaps.calls k3 _ _ x860000_3 t867 _ ?side1 ?side2 A51.out).mono ?_); (case side1 => exact co (Kd.R_reads' HO_860000.out).2.2); (case side2 => exact (Kd.R_reads' HO_860000.out).2.1); rintro e w61 ⟨v868, rfl, ho0, hb⟩; replace HO_6 := Aside0.mk (Kd.R_below (ro HO_6.out) hb); have HO869 := Aside0.mk (Kd.R_lower (Kd.R_new' ho0 (Kd.R_lt (ro HO_860000.out))) (below_size bw)); replace HO_860000 := Aside0.mk (Kd.R_elder' (ro HO_860000.out) (Kd.R_base ho0) hb); replace BK848 := Aside0.mk (blk_below (g := gb848) (o := .cells #[.slice none 0 0] 27 (0, 0)) (bo BK848.out) hb); replace BK852 := Aside0.mk (blk_below (g := gb852) (o := .cells #[.int .i64 t849, .int .i64 t850] 74 (0, 0)) (bo BK852.out) hb); replace BK859 := Aside0.mk (blk_below (g := gb859) (o := .cells #[.slice Ao58 x860000_3.length co58] 27 (0, 0)) (bo BK859.out) hb); replace HB := Aside0.mk (below_step bw hb); clear hb ho0; obtain ⟨Ao62, co62, eo62⟩ := Kd.R_slice HO869.out; subst eo62) | (go_at_call 119; (with_reducible refine (slices_Equal_int_int.calls k3 _ _ t867 _ _ l0 true _ ?side1 ?side2 ?side3 ?side4 A52.out).mono ?_); (case side1 => exact co (Kd.R_reads' HO869.out).2.2); (case side2 => exact (Kd.R_reads' HO869.out).2.1); (case side3 => exact co (Kd.C_below HR0.out HB.out)); (case side4 => exact HC0.out); rintro e w' ⟨rfl, ⟨nd, rfl⟩⟩; (try (rw [drewN_self w61]; generalize hq_ : World.drewN w61 _ = w61; have n0_ : Aside0 (Kd.R (Kd.int .i64) 3 w61 w.heap.size (fun k_ => some k_ ≠ (.slice Ao58 x860000_3.length co58 : Value).ownBlock) (.slice Ao62 t867.length co62) t867) := ⟨by rw [← hq_]; exact (by (with_reducible repeat (first | apply Kd.R_alloc | apply Kd.R_drewN | apply Kd.R_drew)); exact Kd.R_mono HO869.out (fun _ hk => hk.2))⟩; have n1_ : Aside0 (Kd.R Kd.bool 4 w61 w.heap.size (fun _ => True) (.slice Ao54 x6_2.length co54) x6_2) := ⟨by rw [← hq_]; exact (ro HO_6.out)⟩; have n2_ : Aside0 (Kd.R (Kd.int .i64) 3 w61 w.heap.size (fun k_ => some k_ ≠ (.slice Ao62 t867.length co62 : Value).ownBlock) (.slice Ao58 x860000_3.length co58) x860000_3) := ⟨by rw [← hq_]; exact (by (with_reducible repeat (first | apply Kd.R_alloc | apply Kd.R_drewN | apply Kd.R_drew)); exact Kd.R_mono HO_860000.out (fun _ hk => hk.2))⟩; have n3_ : Aside0 (w61.heap[gb848]? = some (.cells #[.slice none 0 0] 27 (0, 0))) := ⟨by rw [← hq_]; exact (bo BK848.out)⟩; have n4_ : Aside0 (w61.heap[gb852]? = some (.cells #[.int .i64 t849, .int .i64 t850] 74 (0, 0))) := ⟨by rw [← hq_]; exact (bo BK852.out)⟩; have n5_ : Aside0 (w61.heap[gb859]? = some (.cells #[.slice Ao58 x860000_3.length co58] 27 (0, 0))) := ⟨by rw [← hq_]; exact (bo BK859.out)⟩; have n6_ : Aside0 (Below w.heap.size w w61) := ⟨by rw [← hq_]; exact bw⟩; clear HO869 HO_6 HO_860000 BK848 BK852 BK859 HB hq_; have HO869 := n0_; have HO_6 := n1_; have HO_860000 := n2_; have BK848 := n3_; have BK852 := n4_; have BK859 := n5_; have HB := n6_; clear n0_ n1_ n2_ n3_ n4_ n5_ n6_)); have hcz63_0 := bc BK859 0 (.slice Ao58 x860000_3.length co58); have hfz63_0 := blk_frozen BK859.out 0; have hnb64 := NB848_852.out; have hnc64 := NB852_848.out; have hcz65_0 := bc BK848 0 (.slice none 0 0); have hfz65_0 := blk_frozen BK848.out 0))
            refine bodyPost_ret (results_ct rfl _ _ gb848 27 #[.slice Ao58 x860000_3.length co58] (0, 0) _ rfl (by (with_reducible repeat (first | refine blk_drewN ?_ _ | refine blk_drew ?_ | refine blk_alloc ?_ _)); refine blk_put (cs := #[.slice none 0 0]) ?_ 0 _ rfl; (with_reducible repeat (first | refine blk_drewN ?_ _ | refine blk_drew ?_ | refine blk_alloc ?_ _)); exact BK848.out) Try.underlying27 rfl (by kernel_rfl)) rfl ?_
            exact ⟨_, re, by (with_reducible repeat (first | apply Kd.R_alloc | apply Kd.R_drewN | apply Kd.R_drew)); exact Kd.R_mono (Kd.R_far (p := ⟨gb848, 0, none⟩) (Kd.R_types HO_860000.out BK848.out (by decide)) (fun _ hk => hk.2) (.slice Ao58 x860000_3.length co58)) (fun _ hk => trivial), bw⟩
           ·simp only [Option.some.injEq, Prod.mk.injEq] at H
            obtain ⟨rfl, rfl⟩ := H
            obtain ⟨Ao66, co66, eo66⟩ := Kd.R_slice HO_6.out
            subst eo66
            have hnb67 := NB859_848.out
            have hnc67 := NB848_859.out
            have hnb68 := NB859_852.out
            have hnc68 := NB852_859.out
            have hcz69_0 := bc BK859 0 (u860000)
            have hfz69_0 := blk_frozen BK859.out 0
            obtain ⟨Ao70, co70, eo70⟩ := Kd.R_slice HO_860000.out
            subst eo70
            go_wp2_with (first | ((with_reducible refine gate_callee (f := 58) rfl ?_); refine gl (some 80) Try.func58 #[.agg #[.slice Ao70 x860000_3.length co70]] ?_; (with_reducible refine (impl_IsSemigroup.calls k3 _ _ x860000_3 true _ ?side1 ?side2 A49.out).mono ?_); (case side1 => exact co (Kd.R_reads' HO_860000.out).2.2); (case side2 => exact (Kd.R_reads' HO_860000.out).2.1); rintro e w71 ⟨rfl, hb⟩; refine ⟨_, rfl, ?_⟩; replace HO_6 := Aside0.mk (Kd.R_below (ro HO_6.out) hb); replace HO_860000 := Aside0.mk (Kd.R_below (ro HO_860000.out) hb); replace BK848 := Aside0.mk (blk_below (g := gb848) (o := .cells #[.slice none 0 0] 27 (0, 0)) (bo BK848.out) hb); replace BK852 := Aside0.mk (blk_below (g := gb852) (o := .cells #[.int .i64 t849, .int .i64 t850] 74 (0, 0)) (bo BK852.out) hb); replace BK859 := Aside0.mk (blk_below (g := gb859) (o := .cells #[.slice Ao70 x860000_3.length co70] 27 (0, 0)) (bo BK859.out) hb); replace HB := Aside0.mk (below_step bw hb); clear hb; have hcz72_0 := bc BK859 0 (.slice Ao70 x860000_3.length co70); have hfz72_0 := blk_frozen BK859.out 0) | (go_at_call 84; (with_reducible refine (impl_Gaps.calls k3 _ _ x860000_3 t867 _ ?side1 ?side2 A51.out).mono ?_); (case side1 => exact co (Kd.R_reads' HO_860000.out).2.2); (case side2 => exact (Kd.R_reads' HO_860000.out).2.1); rintro e w73 ⟨v868, rfl, ho0, hb⟩; replace HO_6 := Aside0.mk (Kd.R_below (ro HO_6.out) hb); have HO869 := Aside0.mk (Kd.R_lower (Kd.R_new' ho0 (Kd.R_lt (ro HO_860000.out))) (below_size bw)); replace HO_860000 := Aside0.mk (Kd.R_elder' (ro HO_860000.out) (Kd.R_base ho0) hb); replace BK848 := Aside0.mk (blk_below (g := gb848) (o := .cells #[.slice none 0 0] 27 (0, 0)) (bo BK848.out) hb); replace BK852 := Aside0.mk (blk_below (g := gb852) (o := .cells #[.int .i64 t849, .int .i64 t850] 74 (0, 0)) (bo BK852.out) hb); replace BK859 := Aside0.mk (blk_below (g := gb859) (o := .cells #[.slice Ao70 x860000_3.length co70] 27 (0, 0)) (bo BK859.out) hb); replace HB := Aside0.mk (below_step bw hb); clear hb ho0; obtain ⟨Ao74, co74, eo74⟩ := Kd.R_slice HO869.out; subst eo74) | (go_at_call 119; (with_reducible refine (slices_Equal_int_int.calls k3 _ _ t867 _ _ l0 false _ ?side1 ?side2 ?side3 ?side4 A52.out).mono ?_); (case side1 => exact co (Kd.R_reads' HO869.out).2.2); (case side2 => exact (Kd.R_reads' HO869.out).2.1); (case side3 => exact co (Kd.C_below HR0.out HB.out)); (case side4 => exact HC0.out); rintro e w' ⟨rfl, ⟨nd, rfl⟩⟩; (try (rw [drewN_self w73]; generalize hq_ : World.drewN w73 _ = w73; have n0_ : Aside0 (Kd.R (Kd.int .i64) 3 w73 w.heap.size (fun k_ => some k_ ≠ (.slice Ao70 x860000_3.length co70 : Value).ownBlock) (.slice Ao74 t867.length co74) t867) := ⟨by rw [← hq_]; exact (by (with_reducible repeat (first | apply Kd.R_alloc | apply Kd.R_drewN | apply Kd.R_drew)); exact Kd.R_mono HO869.out (fun _ hk => hk.2))⟩; have n1_ : Aside0 (Kd.R Kd.bool 4 w73 w.heap.size (fun _ => True) (.slice Ao66 x6_2.length co66) x6_2) := ⟨by rw [← hq_]; exact (ro HO_6.out)⟩; have n2_ : Aside0 (Kd.R (Kd.int .i64) 3 w73 w.heap.size (fun k_ => some k_ ≠ (.slice Ao74 t867.length co74 : Value).ownBlock) (.slice Ao70 x860000_3.length co70) x860000_3) := ⟨by rw [← hq_]; exact (by (with_reducible repeat (first | apply Kd.R_alloc | apply Kd.R_drewN | apply Kd.R_drew)); exact Kd.R_mono HO_860000.out (fun _ hk => hk.2))⟩; have n3_ : Aside0 (w73.heap[gb848]? = some (.cells #[.slice none 0 0] 27 (0, 0))) := ⟨by rw [← hq_]; exact (bo BK848.out)⟩; have n4_ : Aside0 (w73.heap[gb852]? = some (.cells #[.int .i64 t849, .int .i64 t850] 74 (0, 0))) := ⟨by rw [← hq_]; exact (bo BK852.out)⟩; have n5_ : Aside0 (w73.heap[gb859]? = some (.cells #[.slice Ao70 x860000_3.length co70] 27 (0, 0))) := ⟨by rw [← hq_]; exact (bo BK859.out)⟩; have n6_ : Aside0 (Below w.heap.size w w73) := ⟨by rw [← hq_]; exact bw⟩; clear HO869 HO_6 HO_860000 BK848 BK852 BK859 HB hq_; have HO869 := n0_; have HO_6 := n1_; have HO_860000 := n2_; have BK848 := n3_; have BK852 := n4_; have BK859 := n5_; have HB := n6_; clear n0_ n1_ n2_ n3_ n4_ n5_ n6_)); have hnb75 := NB848_852.out; have hnc75 := NB852_848.out; have hcz76_0 := bc BK848 0 (.slice none 0 0); have hfz76_0 := blk_frozen BK848.out 0))
            refine bodyPost_ret (results_ct rfl _ _ gb848 27 #[.slice none 0 0] (0, 0) _ rfl (by (with_reducible repeat (first | refine blk_drewN ?_ _ | refine blk_drew ?_ | refine blk_alloc ?_ _)); refine blk_put (cs := #[.slice none 0 0]) ?_ 0 _ rfl; (with_reducible repeat (first | refine blk_drewN ?_ _ | refine blk_drew ?_ | refine blk_alloc ?_ _)); exact BK848.out) Try.underlying27 rfl (by kernel_rfl)) rfl ?_
            exact ⟨_, re, by first | exact Kd.R_nil _ _ _ _ _ | exact Kd.N_nil _ _ _ _ _ | exact Kd.V_nil _ _ _ _ _ | exact Kd.Q_nil _ _ _ _ _ | exact Kd.S_nil _ _ _ _ _, bw⟩
          ·simp only [Option.some.injEq, Prod.mk.injEq] at H
           obtain ⟨rfl, rfl⟩ := H
           obtain ⟨Ao77, co77, eo77⟩ := Kd.R_slice HO_6.out
           subst eo77
           have hnb78 := NB859_848.out
           have hnc78 := NB848_859.out
           have hnb79 := NB859_852.out
           have hnc79 := NB852_859.out
           have hcz80_0 := bc BK859 0 (u860000)
           have hfz80_0 := blk_frozen BK859.out 0
           obtain ⟨Ao81, co81, eo81⟩ := Kd.R_slice HO_860000.out
           subst eo81
           go_wp2_with (first | ((with_reducible refine gate_callee (f := 58) rfl ?_); refine gl (some 80) Try.func58 #[.agg #[.slice Ao81 x860000_3.length co81]] ?_; (with_reducible refine (impl_IsSemigroup.calls k3 _ _ x860000_3 false _ ?side1 ?side2 A49.out).mono ?_); (case side1 => exact co (Kd.R_reads' HO_860000.out).2.2); (case side2 => exact (Kd.R_reads' HO_860000.out).2.1); rintro e w82 ⟨rfl, hb⟩; refine ⟨_, rfl, ?_⟩; replace HO_6 := Aside0.mk (Kd.R_below (ro HO_6.out) hb); replace HO_860000 := Aside0.mk (Kd.R_below (ro HO_860000.out) hb); replace BK848 := Aside0.mk (blk_below (g := gb848) (o := .cells #[.slice none 0 0] 27 (0, 0)) (bo BK848.out) hb); replace BK852 := Aside0.mk (blk_below (g := gb852) (o := .cells #[.int .i64 t849, .int .i64 t850] 74 (0, 0)) (bo BK852.out) hb); replace BK859 := Aside0.mk (blk_below (g := gb859) (o := .cells #[.slice Ao81 x860000_3.length co81] 27 (0, 0)) (bo BK859.out) hb); replace HB := Aside0.mk (below_step bw hb); clear hb; have hnb83 := NB848_852.out; have hnc83 := NB852_848.out; have hcz84_0 := bc BK848 0 (.slice none 0 0); have hfz84_0 := blk_frozen BK848.out 0))
           refine bodyPost_ret (results_ct rfl _ _ gb848 27 #[.slice none 0 0] (0, 0) _ rfl (by (with_reducible repeat (first | refine blk_drewN ?_ _ | refine blk_drew ?_ | refine blk_alloc ?_ _)); refine blk_put (cs := #[.slice none 0 0]) ?_ 0 _ rfl; (with_reducible repeat (first | refine blk_drewN ?_ _ | refine blk_drew ?_ | refine blk_alloc ?_ _)); exact BK848.out) Try.underlying27 rfl (by kernel_rfl)) rfl ?_
           exact ⟨_, re, by first | exact Kd.R_nil _ _ _ _ _ | exact Kd.N_nil _ _ _ _ _ | exact Kd.V_nil _ _ _ _ _ | exact Kd.Q_nil _ _ _ _ _ | exact Kd.S_nil _ _ _ _ _, bw⟩


/-! ### impl_MeetOf: function 46 -/
def impl_MeetOf.j0 : Nat → Bool → List Int → List Int → Option (List Int × Bool)
 | 0, _, _, _ => none
 | k + 1, x13, x872000, x873000 => if x13 = true then (some (([] : List Int), false)) else ((impl_Gaps.f k x872000).bind fun t876 => ((impl_Gaps.f k x873000).bind fun t879 => (if t876.length + t879.length < 17592186044416 then ((impl_SortList.f (t876 ++ t879)).bind fun t885 => ((impl_FromGaps.f k t885).bind fun bt888 => (some (bt888.1, bt888.2)))) else (none))))
def impl_MeetOf.f (k : Nat) (l0_0 : List Int) (l1_0 : List Int) : Option (List Int × Bool) := (impl_IsSemigroup.f k l0_0).bind fun t874 => (if t874 = true then ((impl_IsSemigroup.f k l1_0).bind fun t875 => (impl_MeetOf.j0 k (!t875) l0_0 l1_0)) else (impl_MeetOf.j0 k true l0_0 l1_0))
def impl_MeetOf.T3 : Bool × List (List Nat × List Nat) := (true, [([], []), ([0], [0]), ([], []), ([2, 1], [2]), ([1, 3, 3], [1, 3]), ([4, 4], [4]), ([5, 5], [5]), ([6], [6]), ([6], [6]), ([7, 6, 0, 1, 2, 3, 4, 5, 6, 7, 8], [7]), ([8, 9, 0, 1, 2, 3, 4, 5, 6, 7, 8, 9], [8])])
def impl_MeetOf.B3 : List Nat := [0, 1, 0, 7, 15, 31, 63, 127, 127, 511, 1023]
theorem impl_MeetOf.tab3 : rtab .any (opsOf Try.f46 3) = impl_MeetOf.T3 := by kernel_rfl
theorem impl_MeetOf.bits3 : waitsOk impl_MeetOf.T3.2 impl_MeetOf.B3 = true := by kernel_rfl
set_option maxHeartbeats 8000000 in
set_option maxRecDepth 100000 in
theorem impl_MeetOf.calls (k : Nat) (A0_0 : Option Addr) (c0_0 : Nat) (l0_0 : List Int) (A1_0 : Option Addr) (c1_0 : Nat) (l1_0 : List Int) (r1 : List Int) (r2 : Bool) (w : World) (hr0_0 : Kd.C (Kd.int .i64) w A0_0 l0_0.length l0_0) (hc0_0 : l0_0.length ≤ c0_0) (hr1_0 : Kd.C (Kd.int .i64) w A1_0 l1_0.length l1_0) (hc1_0 : l1_0.length ≤ c1_0) (h : impl_MeetOf.f k l0_0 l1_0 = some (r1, r2)) :
  Calls Try.prog 46 #[.agg #[.slice A0_0 l0_0.length c0_0], .agg #[.slice A1_0 l1_0.length c1_0]] w fun e w' => ∃ v0_ : Value, e = .returned (.tuple #[.agg #[v0_], .bool r2]) ∧ Kd.R (Kd.int .i64) 3 w' w.heap.size (fun _ => True) v0_ r1 ∧ Below w.heap.size w w' := by
 have hu27 := Try.underlying27
 have HR0_0 := Aside0.mk hr0_0
 have HC0_0 := Aside0.mk hc0_0
 clear hr0_0 hc0_0
 have HR1_0 := Aside0.mk hr1_0
 have HC1_0 := Aside0.mk hc1_0
 clear hr1_0 hc1_0
 have HB := Aside0.mk (Below.refl w.heap.size w)
 have H : ((impl_IsSemigroup.f k l0_0).bind fun t874 => (if t874 = true then ((impl_IsSemigroup.f k l1_0).bind fun t875 => (impl_MeetOf.j0 k (!t875) l0_0 l1_0)) else (impl_MeetOf.j0 k true l0_0 l1_0))) = some (r1, r2) := h
 clear h
 have HC3 := Aside0.mk H
 clear H
 go_enter Try.func46, Try.ntmps46
 go_upto_region 1 with (first | ((with_reducible refine gate_dst (N := 2) rfl ?_); refine bx 2 #[.slice A0_0 l0_0.length c0_0] 27 ?_; intro gb871 hg w4 hbox hb; have BK871 := Aside0.mk (hbox); have GW871 := Aside0.mk (gs hg : w.heap.size ≤ gb871); have GE871 := Aside0.mk (gs hg : w.heap.size ≤ gb871); replace HB := Aside0.mk (below_step bw hb); clear hb hbox hg) | ((with_reducible refine gate_dst (N := 3) rfl ?_); refine bx 3 #[.slice A1_0 l1_0.length c1_0] 27 ?_; intro gb872 hg w5 hbox hb; have BK872 := Aside0.mk (hbox); have GW872 := Aside0.mk (gs hg : w.heap.size ≤ gb872); have GE872 := Aside0.mk (gs hg : w.heap.size ≤ gb872); replace HB := Aside0.mk (below_step bw hb); have NB871_872 := Aside0.mk ((by rw [hg]; exact Nat.ne_of_lt (blk_lt (g := gb871) (o := .cells #[.slice A0_0 l0_0.length c0_0] 27 (0, 0)) (bo BK871.out)) : gb871 ≠ gb872)); have NB872_871 := Aside0.mk ((by rw [hg]; exact Nat.ne_of_gt (blk_lt (g := gb871) (o := .cells #[.slice A0_0 l0_0.length c0_0] 27 (0, 0)) (bo BK871.out)) : gb872 ≠ gb871)); replace BK871 := Aside0.mk (blk_below (g := gb871) (o := .cells #[.slice A0_0 l0_0.length c0_0] 27 (0, 0)) (bo BK871.out) hb); clear hb hbox hg) | ((with_reducible refine gate_dst (N := 4) rfl ?_); refine bx 4 #[.slice none 0 0] 27 ?_; intro gb873 hg w6 hbox hb; have BK873 := Aside0.mk (hbox); have GW873 := Aside0.mk (gs hg : w.heap.size ≤ gb873); have GE873 := Aside0.mk (gs hg : w.heap.size ≤ gb873); replace HB := Aside0.mk (below_step bw hb); have NB871_873 := Aside0.mk ((by rw [hg]; exact Nat.ne_of_lt (blk_lt (g := gb871) (o := .cells #[.slice A0_0 l0_0.length c0_0] 27 (0, 0)) (bo BK871.out)) : gb871 ≠ gb873)); have NB873_871 := Aside0.mk ((by rw [hg]; exact Nat.ne_of_gt (blk_lt (g := gb871) (o := .cells #[.slice A0_0 l0_0.length c0_0] 27 (0, 0)) (bo BK871.out)) : gb873 ≠ gb871)); replace BK871 := Aside0.mk (blk_below (g := gb871) (o := .cells #[.slice A0_0 l0_0.length c0_0] 27 (0, 0)) (bo BK871.out) hb); have NB872_873 := Aside0.mk ((by rw [hg]; exact Nat.ne_of_lt (blk_lt (g := gb872) (o := .cells #[.slice A1_0 l1_0.length c1_0] 27 (0, 0)) (bo BK872.out)) : gb872 ≠ gb873)); have NB873_872 := Aside0.mk ((by rw [hg]; exact Nat.ne_of_gt (blk_lt (g := gb872) (o := .cells #[.slice A1_0 l1_0.length c1_0] 27 (0, 0)) (bo BK872.out)) : gb873 ≠ gb872)); replace BK872 := Aside0.mk (blk_below (g := gb872) (o := .cells #[.slice A1_0 l1_0.length c1_0] 27 (0, 0)) (bo BK872.out) hb); clear hb hbox hg))
 (try simp only [Act.put, List.setIfInBounds_toArray, List.set_cons_zero, List.set_cons_succ])
 go_cut [13] (fun v13 wc => ∃ (kq : Nat) (x13_2 : Bool), v13 = .bool x13_2 ∧ Aside0 (impl_MeetOf.j0 kq x13_2 l0_0 l1_0 = some (r1, r2)) ∧ Aside0 (kq ≤ k) ∧ Aside0 (wc.heap[gb871]? = some (.cells #[(.slice A0_0 l0_0.length c0_0)] 27 (0, 0))) ∧ Aside0 (wc.heap[gb872]? = some (.cells #[(.slice A1_0 l1_0.length c1_0)] 27 (0, 0))) ∧ Aside0 (wc.heap[gb873]? = some (.cells #[(.slice none 0 0)] 27 (0, 0))) ∧ Aside0 (Below w.heap.size w wc))
 case first =>
  have H := HC3.out
  clear HC3
  replace H := ga H; obtain ⟨t874, A7, H⟩ := H
  replace H := gb H; obtain ⟨rfl, H⟩ | ⟨rfl, H⟩ := H
  ·replace H := ga H; obtain ⟨t875, A9, H⟩ := H
   have H' := Aside0.mk H
   clear H
   have hnb10 := NB871_872.out
   have hnc10 := NB872_871.out
   have hnb11 := NB871_873.out
   have hnc11 := NB873_871.out
   have hcz12_0 := bc BK871 0 (.slice A0_0 l0_0.length c0_0)
   have hfz12_0 := blk_frozen BK871.out 0
   go_wp2_with (first | ((with_reducible refine gate_callee (f := 58) rfl ?_); refine gl (some 7) Try.func58 #[.agg #[.slice A0_0 l0_0.length c0_0]] ?_; (with_reducible refine (impl_IsSemigroup.calls k _ _ l0_0 true _ ?side1 ?side2 A7.out).mono ?_); (case side1 => exact co (Kd.C_below HR0_0.out HB.out)); (case side2 => exact HC0_0.out); rintro e w13 ⟨rfl, hb⟩; refine ⟨_, rfl, ?_⟩; replace BK871 := Aside0.mk (blk_below (g := gb871) (o := .cells #[.slice A0_0 l0_0.length c0_0] 27 (0, 0)) (bo BK871.out) hb); replace BK872 := Aside0.mk (blk_below (g := gb872) (o := .cells #[.slice A1_0 l1_0.length c1_0] 27 (0, 0)) (bo BK872.out) hb); replace BK873 := Aside0.mk (blk_below (g := gb873) (o := .cells #[.slice none 0 0] 27 (0, 0)) (bo BK873.out) hb); replace HB := Aside0.mk (below_step bw hb); clear hb; have hnb14 := NB872_873.out; have hnc14 := NB873_872.out; have hcz15_0 := bc BK872 0 (.slice A1_0 l1_0.length c1_0); have hfz15_0 := blk_frozen BK872.out 0) | (go_at_call 58; (with_reducible refine (impl_IsSemigroup.calls k _ _ l1_0 t875 _ ?side1 ?side2 A9.out).mono ?_); (case side1 => exact co (Kd.C_below HR1_0.out HB.out)); (case side2 => exact HC1_0.out); rintro e w16 ⟨rfl, hb⟩; replace BK871 := Aside0.mk (blk_below (g := gb871) (o := .cells #[.slice A0_0 l0_0.length c0_0] 27 (0, 0)) (bo BK871.out) hb); replace BK872 := Aside0.mk (blk_below (g := gb872) (o := .cells #[.slice A1_0 l1_0.length c1_0] 27 (0, 0)) (bo BK872.out) hb); replace BK873 := Aside0.mk (blk_below (g := gb873) (o := .cells #[.slice none 0 0] 27 (0, 0)) (bo BK873.out) hb); replace HB := Aside0.mk (below_step bw hb); clear hb))
   go_meet
   case rel => exact ⟨_, (!t875), rr, H', ⟨om⟩, ⟨bo BK871.out⟩, ⟨bo BK872.out⟩, ⟨bo BK873.out⟩, ⟨bw⟩⟩
  ·have H' := Aside0.mk H
   clear H
   have hnb17 := NB871_872.out
   have hnc17 := NB872_871.out
   have hnb18 := NB871_873.out
   have hnc18 := NB873_871.out
   have hcz19_0 := bc BK871 0 (.slice A0_0 l0_0.length c0_0)
   have hfz19_0 := blk_frozen BK871.out 0
   go_wp2_with (first | ((with_reducible refine gate_callee (f := 58) rfl ?_); refine gl (some 7) Try.func58 #[.agg #[.slice A0_0 l0_0.length c0_0]] ?_; (with_reducible refine (impl_IsSemigroup.calls k _ _ l0_0 false _ ?side1 ?side2 A7.out).mono ?_); (case side1 => exact co (Kd.C_below HR0_0.out HB.out)); (case side2 => exact HC0_0.out); rintro e w20 ⟨rfl, hb⟩; refine ⟨_, rfl, ?_⟩; replace BK871 := Aside0.mk (blk_below (g := gb871) (o := .cells #[.slice A0_0 l0_0.length c0_0] 27 (0, 0)) (bo BK871.out) hb); replace BK872 := Aside0.mk (blk_below (g := gb872) (o := .cells #[.slice A1_0 l1_0.length c1_0] 27 (0, 0)) (bo BK872.out) hb); replace BK873 := Aside0.mk (blk_below (g := gb873) (o := .cells #[.slice none 0 0] 27 (0, 0)) (bo BK873.out) hb); replace HB := Aside0.mk (below_step bw hb); clear hb))
   go_meet
   case rel => exact ⟨_, (true), rr, H', ⟨om⟩, ⟨bo BK871.out⟩, ⟨bo BK872.out⟩, ⟨bo BK873.out⟩, ⟨bw⟩⟩
 case rest =>
  clear HC3
  try clear hcz12_0; try clear hcz15_0; try clear hcz19_0; try clear hfz12_0; try clear hfz15_0; try clear hfz19_0
  obtain ⟨kq, x13_2, rfl, HA, HJ2, BK871, BK872, BK873, HB⟩ := hcut
  cases kq with
  | zero => exact absurd HA.out (by simp [impl_MeetOf.j0])
  | succ kj2 =>
   have H := HA.out
   clear HA
   simp only [impl_MeetOf.j0] at H
   replace H := gb H; obtain ⟨rfl, H⟩ | ⟨rfl, H⟩ := H
   ·simp only [Option.some.injEq, Prod.mk.injEq] at H
    obtain ⟨rfl, rfl⟩ := H
    have hnb22 := NB873_871.out
    have hnc22 := NB871_873.out
    have hnb23 := NB873_872.out
    have hnc23 := NB872_873.out
    have hcz24_0 := bc BK873 0 (.slice none 0 0)
    have hfz24_0 := blk_frozen BK873.out 0
    go_wp2
    refine bodyPost_ret (results_ct rfl _ _ gb873 27 #[.slice none 0 0] (0, 0) _ rfl (by (with_reducible repeat (first | refine blk_drewN ?_ _ | refine blk_drew ?_ | refine blk_alloc ?_ _)); refine blk_put (cs := #[.slice none 0 0]) ?_ 0 _ rfl; (with_reducible repeat (first | refine blk_drewN ?_ _ | refine blk_drew ?_ | refine blk_alloc ?_ _)); exact BK873.out) Try.underlying27 rfl (by kernel_rfl)) rfl ?_
    exact ⟨_, re, by first | exact Kd.R_nil _ _ _ _ _ | exact Kd.N_nil _ _ _ _ _ | exact Kd.V_nil _ _ _ _ _ | exact Kd.Q_nil _ _ _ _ _ | exact Kd.S_nil _ _ _ _ _, bw⟩
   ·replace H := ga H; obtain ⟨t876, A25, H⟩ := H
    replace H := ga H; obtain ⟨t879, A26, H⟩ := H
    by_cases c27 : t876.length + t879.length < 17592186044416
    rotate_left
    ·rw [if_neg c27] at H
     exact absurd H (by simp)
    rw [if_pos c27] at H
    have LMc27 := Aside0.mk c27
    clear c27
    obtain ⟨y882, hy882⟩ : ∃ y_ : List Int, y_ = (t876 ++ t879) := ⟨_, rfl⟩
    replace H : ((impl_SortList.f y882).bind fun t885 => ((impl_FromGaps.f kj2 t885).bind fun bt888 => (some (bt888.1, bt888.2)))) = some (r1, r2) := by first | (rw [hy882]; with_reducible exact H) | (have H2_ := (Option.bind_some _ _).symm.trans H; rw [hy882]; with_reducible exact H2_) | (have H2_ := (Option.bind_some _ _).symm.trans H; with_reducible exact H2_) | with_reducible exact H | (rw [hy882]; exact H) | exact H
    have Ny882 := Aside0.mk hy882
    clear hy882
    replace H := ga H; obtain ⟨t885, A28, H⟩ := H
    replace H := ga H; obtain ⟨⟨t888, t891⟩, A29, H⟩ := H
    replace H : (some (t888, t891)) = some (r1, r2) := H
    simp only [Option.some.injEq, Prod.mk.injEq] at H
    obtain ⟨rfl, rfl⟩ := H
    try go_wp2
    replace BK871 := Aside0.mk (blk_drew BK871.out)
    replace BK872 := Aside0.mk (blk_drew BK872.out)
    replace BK873 := Aside0.mk (blk_drew BK873.out)
    replace HB := Aside0.mk (below_drew1 HB.out)
    refine start_ (n := 11) (S := fun w' => w'.cell? ⟨gb871, 0, none⟩ = some (.slice A0_0 l0_0.length c0_0) ∧ w'.cell? ⟨gb872, 0, none⟩ = some (.slice A1_0 l1_0.length c1_0)) (ds := []) #[Z,Z,Z,Z,Z,Z,Z,Z,Z,Z,Z] (by kernel_rfl) rfl rfl ⟨(blk_cell BK871.out 0).trans rfl, (blk_cell BK872.out 0).trans rfl⟩ (fun hHeld => ?_); refine with_tabW impl_MeetOf.tab3 impl_MeetOf.bits3 (fun HT_ HW_ => ?_)
    generalize wc.drew = w30 at BK871 BK872 BK873 HB hHeld ⊢
    refine take_ (i := 0) (N := some 15) (v := ?_) (a' := ?_) #[Y,Z,Z,Z,Z,Z,Z,Z,Z,Z,Z] rfl rfl (take_ofW HT_.out HW_.out (by kernel_rfl)) (fun _ _ _ h => h) (Or.inl ⟨by rfl, ?_⟩) hHeld ?_ ?_
    rotate_left
    ·rintro w' ⟨s0, s1⟩
     go_simp
     with_reducible rfl
    rotate_left
    ·simp only [Act.put, qa, qb, qc, i64_w, i32_w]
     rfl
    refine take_ (i := 2) (N := some 17) (v := ?_) (a' := ?_) #[Y,Z,Y,Z,Z,Z,Z,Z,Z,Z,Z] rfl rfl (take_ofW HT_.out HW_.out (by kernel_rfl)) (fun _ _ _ h => h) (Or.inl ⟨by rfl, ?_⟩) hHeld ?_ ?_
    rotate_left
    ·rintro w' ⟨s0, s1⟩
     go_simp
     with_reducible rfl
    rotate_left
    ·simp only [Act.put, qa, qb, qc, i64_w, i32_w]
     rfl
    refine oa 1 (some 16) #[Y,Y,Y,Z,Z,Z,Z,Z,Z,Z,Z] HT_ (fun K hK => ?_)
    refine gm Try.func84 #[.agg #[.slice A0_0 l0_0.length c0_0]] ?_
    with_reducible refine (impl_Gaps.calls kj2 _ _ l0_0 t876 _ ?side1 ?side2 A25.out).mono ?_
    (case side1 => exact co (Kd.C_below HR0_0.out HB.out))
    (case side2 => exact HC0_0.out)
    rintro e w31 ⟨v877, rfl, ho0, hb⟩
    refine ⟨_, rfl, ?_⟩
    have HO878 := Aside0.mk (Kd.R_lower ho0 (below_size bw))
    replace BK871 := Aside0.mk (blk_below (g := gb871) (o := .cells #[.slice A0_0 l0_0.length c0_0] 27 (0, 0)) (bo BK871.out) hb)
    replace BK872 := Aside0.mk (blk_below (g := gb872) (o := .cells #[.slice A1_0 l1_0.length c1_0] 27 (0, 0)) (bo BK872.out) hb)
    replace BK873 := Aside0.mk (blk_below (g := gb873) (o := .cells #[.slice none 0 0] 27 (0, 0)) (bo BK873.out) hb)
    replace HB := Aside0.mk (below_step bw hb)
    clear hb ho0
    refine hK.out _ _ ⟨(blk_cell BK871.out 0).trans rfl, (blk_cell BK872.out 0).trans rfl⟩ (fun hHeld => ?_)
    clear hK K
    refine norm_ (a' := ?_) ?_ ?_
    rotate_left
    ·show Act.put _ (some 16) _ = _
     simp only [Act.put, qa, qb, qc, i64_w, i32_w]
     rfl
    refine oa 3 (some 18) #[Y,Y,Y,Y,Z,Z,Z,Z,Z,Z,Z] HT_ (fun K hK => ?_)
    refine gm Try.func84 #[.agg #[.slice A1_0 l1_0.length c1_0]] ?_
    with_reducible refine (impl_Gaps.calls kj2 _ _ l1_0 t879 _ ?side1 ?side2 A26.out).mono ?_
    (case side1 => exact co (Kd.C_below HR1_0.out HB.out))
    (case side2 => exact HC1_0.out)
    rintro e w32 ⟨v880, rfl, ho0, hb⟩
    refine ⟨_, rfl, ?_⟩
    have HO881 := Aside0.mk (Kd.R_lower (Kd.R_new' ho0 (Kd.R_lt (ro HO878.out))) (below_size bw))
    replace HO878 := Aside0.mk (Kd.R_elder' (ro HO878.out) (Kd.R_base ho0) hb)
    replace BK871 := Aside0.mk (blk_below (g := gb871) (o := .cells #[.slice A0_0 l0_0.length c0_0] 27 (0, 0)) (bo BK871.out) hb)
    replace BK872 := Aside0.mk (blk_below (g := gb872) (o := .cells #[.slice A1_0 l1_0.length c1_0] 27 (0, 0)) (bo BK872.out) hb)
    replace BK873 := Aside0.mk (blk_below (g := gb873) (o := .cells #[.slice none 0 0] 27 (0, 0)) (bo BK873.out) hb)
    replace HB := Aside0.mk (below_step bw hb)
    clear hb ho0
    obtain ⟨Ao34, co34, eo34⟩ := Kd.R_slice HO881.out
    (first | subst eo34 | (injection eo34 with f1_ f2_ f3_; have f4_ := f1_.symm; have f5_ := f3_.symm; clear f1_ f2_ f3_; subst f4_; subst f5_))
    refine hK.out _ _ ⟨(blk_cell BK871.out 0).trans rfl, (blk_cell BK872.out 0).trans rfl⟩ (fun hHeld => ?_)
    clear hK K
    refine norm_ (a' := ?_) ?_ ?_
    rotate_left
    ·show Act.put _ (some 18) _ = _
     simp only [Act.put, qa, qb, qc, i64_w, i32_w]
     rfl
    refine oa 4 (some 19) #[Y,Y,Y,Y,Y,Z,Z,Z,Z,Z,Z] HT_ (fun K hK => ?_)
    refine Kd.R_append_rows_step (Kd.int .i64) (w0 := w) w.heap.size (by rfl) (.tmp 16) (.tmp 18) 22 3 (.int .i64 0) 8 rfl Try.underlying22 info3 rfl (by decide) (by omega) v877 t876 t879 _ _ _ (fun k_ => some k_ ≠ (.slice Ao34 t879.length co34 : Value).ownBlock) (fun _ => False) rfl rfl ?aO ?aR (fun _ _ h => h) (fun _ h => h.elim) ?aF ?aB ?aS ?aL ?_
    (case aR => exact co (Kd.R_reads' HO881.out).2.2)
    (case aB => exact bw)
    (case aF => exact (fun k_ hk => Kd.fresh' (Kd.R_lt (ro HO881.out)) k_ hk))
    (case aO => exact (by (with_reducible repeat (first | apply Kd.R_alloc | apply Kd.R_drewN | apply Kd.R_drew)); exact Kd.R_mono HO878.out (fun _ hk => hk.2)))
    (case aS => exact (below_size bw))
    (case aL => have := LMc27.out; omega)
    intro v883 w33 ho hb hg hat
    rw [← Ny882.out] at ho
    replace BK871 := Aside0.mk (blk_grown (g := gb871) (o := .cells #[.slice A0_0 l0_0.length c0_0] 27 (0, 0)) (bo BK871.out) hg (Kd.R_ne HO878.out BK871.out (by decide)))
    replace BK872 := Aside0.mk (blk_grown (g := gb872) (o := .cells #[.slice A1_0 l1_0.length c1_0] 27 (0, 0)) (bo BK872.out) hg (Kd.R_ne HO878.out BK872.out (by decide)))
    replace BK873 := Aside0.mk (blk_grown (g := gb873) (o := .cells #[.slice none 0 0] 27 (0, 0)) (bo BK873.out) hg (Kd.R_ne HO878.out BK873.out (by decide)))
    replace HO881 := Aside0.mk (Kd.R_after (ok := (fun _ => True)) (ro HO881.out) hg hat)
    replace HB := Aside0.mk (hb)
    have HO884 := Aside0.mk (ho)
    clear HO878 ho hb hg hat
    obtain ⟨Ao35, co35, eo35⟩ := Kd.R_slice HO884.out
    (first | subst eo35 | (injection eo35 with f1_ f2_ f3_; have f4_ := f1_.symm; have f5_ := f3_.symm; clear f1_ f2_ f3_; subst f4_; subst f5_))
    refine hK.out _ _ ⟨(blk_cell BK871.out 0).trans rfl, (blk_cell BK872.out 0).trans rfl⟩ (fun hHeld => ?_)
    clear hK K
    refine norm_ (a' := ?_) ?_ ?_
    rotate_left
    ·show Act.put _ (some 19) _ = _
     simp only [Act.put, qa, qb, qc, i64_w, i32_w]
     rfl
    refine oa 5 (some 20) #[Y,Y,Y,Y,Y,Y,Z,Z,Z,Z,Z] HT_ (fun K hK => ?_)
    refine gm Try.func62 #[.slice Ao35 y882.length co35] ?_
    with_reducible refine (impl_SortList.calls _ _ y882 t885 _ ?side1 ?side2 A28.out).mono ?_
    (case side1 => exact co (Kd.R_reads' HO884.out).2.2)
    (case side2 => exact (Kd.R_reads' HO884.out).2.1)
    rintro e w36 ⟨v886, rfl, ho0, hb⟩
    refine ⟨_, rfl, ?_⟩
    have HO887 := Aside0.mk (Kd.R_lower (Kd.R_new' (Kd.R_new' ho0 (Kd.R_lt (ro HO881.out))) (Kd.R_lt (ro HO884.out))) (below_size bw))
    replace HO881 := Aside0.mk (Kd.R_elder' (ro HO881.out) (Kd.R_base ho0) hb)
    replace HO884 := Aside0.mk (Kd.R_elder' (ro HO884.out) (Kd.R_base ho0) hb)
    replace BK871 := Aside0.mk (blk_below (g := gb871) (o := .cells #[.slice A0_0 l0_0.length c0_0] 27 (0, 0)) (bo BK871.out) hb)
    replace BK872 := Aside0.mk (blk_below (g := gb872) (o := .cells #[.slice A1_0 l1_0.length c1_0] 27 (0, 0)) (bo BK872.out) hb)
    replace BK873 := Aside0.mk (blk_below (g := gb873) (o := .cells #[.slice none 0 0] 27 (0, 0)) (bo BK873.out) hb)
    replace HB := Aside0.mk (below_step bw hb)
    clear hb ho0
    obtain ⟨Ao37, co37, eo37⟩ := Kd.R_slice HO887.out
    (first | subst eo37 | (injection eo37 with f1_ f2_ f3_; have f4_ := f1_.symm; have f5_ := f3_.symm; clear f1_ f2_ f3_; subst f4_; subst f5_))
    refine hK.out _ _ ⟨(blk_cell BK871.out 0).trans rfl, (blk_cell BK872.out 0).trans rfl⟩ (fun hHeld => ?_)
    clear hK K
    refine norm_ (a' := ?_) ?_ ?_
    rotate_left
    ·show Act.put _ (some 20) _ = _
     simp only [Act.put, qa, qb, qc, i64_w, i32_w]
     rfl
    refine oa 6 (some 21) #[Y,Y,Y,Y,Y,Y,Y,Z,Z,Z,Z] HT_ (fun K hK => ?_)
    refine gm Try.func83 #[.slice Ao37 t885.length co37] ?_
    with_reducible refine (impl_FromGaps.calls kj2 _ _ t885 t888 t891 _ ?side1 ?side2 A29.out).mono ?_
    (case side1 => exact co (Kd.R_reads' HO887.out).2.2)
    (case side2 => exact (Kd.R_reads' HO887.out).2.1)
    rintro e w38 ⟨v889, rfl, ho0, hb⟩
    refine ⟨_, rfl, ?_⟩
    have HO890 := Aside0.mk (Kd.R_lower (Kd.R_new' (Kd.R_new' (Kd.R_new' ho0 (Kd.R_lt (ro HO881.out))) (Kd.R_lt (ro HO884.out))) (Kd.R_lt (ro HO887.out))) (below_size bw))
    replace HO881 := Aside0.mk (Kd.R_elder' (ro HO881.out) (Kd.R_base ho0) hb)
    replace HO884 := Aside0.mk (Kd.R_elder' (ro HO884.out) (Kd.R_base ho0) hb)
    replace HO887 := Aside0.mk (Kd.R_elder' (ro HO887.out) (Kd.R_base ho0) hb)
    replace BK871 := Aside0.mk (blk_below (g := gb871) (o := .cells #[.slice A0_0 l0_0.length c0_0] 27 (0, 0)) (bo BK871.out) hb)
    replace BK872 := Aside0.mk (blk_below (g := gb872) (o := .cells #[.slice A1_0 l1_0.length c1_0] 27 (0, 0)) (bo BK872.out) hb)
    replace BK873 := Aside0.mk (blk_below (g := gb873) (o := .cells #[.slice none 0 0] 27 (0, 0)) (bo BK873.out) hb)
    replace HB := Aside0.mk (below_step bw hb)
    clear hb ho0
    obtain ⟨Ao39, co39, eo39⟩ := Kd.R_slice HO890.out
    (first | subst eo39 | (injection eo39 with f1_ f2_ f3_; have f4_ := f1_.symm; have f5_ := f3_.symm; clear f1_ f2_ f3_; subst f4_; subst f5_))
    refine hK.out _ _ ⟨(blk_cell BK871.out 0).trans rfl, (blk_cell BK872.out 0).trans rfl⟩ (fun hHeld => ?_)
    clear hK K
    refine norm_ (a' := ?_) ?_ ?_
    rotate_left
    ·show Act.put _ (some 21) _ = _
     simp only [Act.put, qa, qb, qc, i64_w, i32_w]
     rfl
    refine pa 7 (some 22) #[Y,Y,Y,Y,Y,Y,Y,Y,Z,Z,Z] HT_ ?_
    refine pa 8 (some 23) #[Y,Y,Y,Y,Y,Y,Y,Y,Y,Z,Z] HT_ ?_
    refine oa 9 none #[Y,Y,Y,Y,Y,Y,Y,Y,Y,Y,Z] HT_ (fun K hK => ?_)
    have hs40 := bc BK873 0 (.slice none 0 0)
    have hfs40 := blk_frozen BK873.out 0
    have hns40_0 := NB871_873.out
    have hns40_1 := NB872_873.out
    have hms40_0 := NB873_871.out
    have hms40_1 := NB873_872.out
    refine skip_ (w1 := ?_) (by rfl) rfl ?_ ?_
    rotate_left
    ·go_simp
     rfl
    refine hK.out _ _ ⟨((cell_far (p := ⟨gb873, _, none⟩) NB871_873.out _).trans (hHeld.1)), ((cell_far (p := ⟨gb873, _, none⟩) NB872_873.out _).trans (hHeld.2))⟩ (fun hHeld => ?_)
    clear hK K
    refine pa 10 (some 5) #[Y,Y,Y,Y,Y,Y,Y,Y,Y,Y,Y] HT_ ?_
    refine done_ (done_of HT_.out (by kernel_rfl)) ?_
    try go_wp2
    refine bodyPost_ret (results_ct rfl _ _ gb873 27 #[.slice Ao39 t888.length co39] (0, 0) _ rfl (by (with_reducible repeat (first | refine blk_drewN ?_ _ | refine blk_drew ?_ | refine blk_alloc ?_ _)); refine blk_put (cs := #[.slice none 0 0]) ?_ 0 _ rfl; (with_reducible repeat (first | refine blk_drewN ?_ _ | refine blk_drew ?_ | refine blk_alloc ?_ _)); exact BK873.out) Try.underlying27 rfl (by kernel_rfl)) rfl ?_
    exact ⟨_, re, by (with_reducible repeat (first | apply Kd.R_alloc | apply Kd.R_drewN | apply Kd.R_drew)); exact Kd.R_mono (Kd.R_far (p := ⟨gb873, 0, none⟩) (Kd.R_types HO890.out BK873.out (by decide)) (fun _ hk => hk.2) (.slice Ao39 t888.length co39)) (fun _ hk => trivial), bw⟩


/-! ### laws_heldSemigroup: function 47 -/
def laws_heldSemigroup.f (k : Nat) (l0_0 : List Int) (a1 : Int) : Option (Int) := (laws_heldIntS.f k l0_0 a1).bind fun t893 => (if t893 < 0 then (some (-1)) else (some t893))
set_option maxHeartbeats 8000000 in
set_option maxRecDepth 100000 in
theorem laws_heldSemigroup.calls (k : Nat) (A0_0 : Option Addr) (c0_0 : Nat) (l0_0 : List Int) (a1 : Int) (r : Int) (w : World) (hr0_0 : Kd.C (Kd.int .i64) w A0_0 l0_0.length l0_0) (hc0_0 : l0_0.length ≤ c0_0) (h : laws_heldSemigroup.f k l0_0 a1 = some r) :
  Calls Try.prog 47 #[.agg #[.slice A0_0 l0_0.length c0_0], .int .i64 a1] w fun e w' => e = .returned (.int .i64 r) ∧ Below w.heap.size w w' := by
 have hu27 := Try.underlying27
 have HR0_0 := Aside0.mk hr0_0
 have HC0_0 := Aside0.mk hc0_0
 clear hr0_0 hc0_0
 have HB := Aside0.mk (Below.refl w.heap.size w)
 have H : ((laws_heldIntS.f k l0_0 a1).bind fun t893 => (if t893 < 0 then (some (-1)) else (some t893))) = some r := h
 clear h
 replace H := ga H; obtain ⟨t893, A3, H⟩ := H
 replace H := gi H; obtain ⟨c4b0, H⟩ | ⟨c4b0, H⟩ := H
 ·obtain rfl := Option.some.inj H
  go_enter Try.func47, Try.ntmps47
  go_wp2_with (first | ((with_reducible refine gate_dst (N := 2) rfl ?_); refine bx 2 #[.slice A0_0 l0_0.length c0_0] 27 ?_; intro gb892 hg w5 hbox hb; have BK892 := Aside0.mk (hbox); have GW892 := Aside0.mk (gs hg : w.heap.size ≤ gb892); have GE892 := Aside0.mk (gs hg : w.heap.size ≤ gb892); replace HB := Aside0.mk (below_step bw hb); clear hb hbox hg; have hcz6_0 := bc BK892 0 (.slice A0_0 l0_0.length c0_0); have hfz6_0 := blk_frozen BK892.out 0) | ((with_reducible refine gate_callee (f := 24) rfl ?_); refine gl (some 8) Try.func24 #[.slice A0_0 l0_0.length c0_0, .int .i64 a1] ?_; (with_reducible refine (laws_heldIntS.calls k _ _ l0_0 a1 t893 _ ?side1 ?side2 A3.out).mono ?_); (case side1 => exact co (Kd.C_below HR0_0.out HB.out)); (case side2 => exact HC0_0.out); rintro e w' ⟨rfl, ⟨nd, rfl⟩⟩; refine ⟨_, rfl, ?_⟩))
  go_ret
  exact ⟨re, bw⟩
 ·obtain rfl := Option.some.inj H
  go_enter Try.func47, Try.ntmps47
  go_wp2_with (first | ((with_reducible refine gate_dst (N := 2) rfl ?_); refine bx 2 #[.slice A0_0 l0_0.length c0_0] 27 ?_; intro gb892 hg w7 hbox hb; have BK892 := Aside0.mk (hbox); have GW892 := Aside0.mk (gs hg : w.heap.size ≤ gb892); have GE892 := Aside0.mk (gs hg : w.heap.size ≤ gb892); replace HB := Aside0.mk (below_step bw hb); clear hb hbox hg; have hcz8_0 := bc BK892 0 (.slice A0_0 l0_0.length c0_0); have hfz8_0 := blk_frozen BK892.out 0) | ((with_reducible refine gate_callee (f := 24) rfl ?_); refine gl (some 8) Try.func24 #[.slice A0_0 l0_0.length c0_0, .int .i64 a1] ?_; (with_reducible refine (laws_heldIntS.calls k _ _ l0_0 a1 t893 _ ?side1 ?side2 A3.out).mono ?_); (case side1 => exact co (Kd.C_below HR0_0.out HB.out)); (case side2 => exact HC0_0.out); rintro e w' ⟨rfl, ⟨nd, rfl⟩⟩; refine ⟨_, rfl, ?_⟩))
  go_ret
  exact ⟨re, bw⟩

end Go.Proofs.Ytiejmnnnjmmifaa.C
