/- Contracts of functions of the program: impl_FromGaps, impl_ParentOf, slices_Clone_int_int, impl_GenusOf, impl_Semigroup, impl_PathTo. -/
import Derived.Test.YtlfdipnhlmjiaaaC0
import Derived.Test.YtlfdipnhlmjiaaaC5
import Derived.Test.YtlfdipnhlmjiaaaC6
namespace Go.Proofs.Ytlfdipnhlmjiaaa.C
open Go.RowKit Go.Proofs.YtlfdipnhlmjiaaaW.PrintWords Go.Proofs.YtlfdipnhlmjiaaaW.PrintLast Go.Proofs.YtlfdipnhlmjiaaaW.PrintMore
attribute [local go_sem] max2_int min2_int max_two min_two max_three min_three max_four min_four
set_option linter.unusedVariables false
set_option linter.unusedSimpArgs false

/-! ### impl_FromGaps: function 76 -/
mutual
def impl_FromGaps.j0 : Nat → List Int → Bool → Option (List Int × Bool)
 | 0, _, _ => none
 | k + 1, x0, x23 => if x23 = true then (some (([] : List Int), false)) else (if 401 ≤ 281474976710656 then (impl_FromGaps.l0 k x0 (List.replicate 401 false) x0 (x0.length : Int) 0) else (none))
def impl_FromGaps.l0 : Nat → List Int → List Bool → List Int → Int → Int → Option (List Int × Bool)
 | 0, _, _, _, _, _ => none
 | k + 1, x0, x6, x26, x27, x28 => if x28 < x27 then (if 0 ≤ x28 then (if x28 < (x26.length : Int) then (if 0 ≤ (rd x26 x28) then (if (rd x26 x28) < (x6.length : Int) then (impl_FromGaps.l0 k x0 (x6.set ((rd x26 x28) : Int).toNat true) x26 x27 (wrap64 (x28 + 1))) else (none)) else (none)) else (none)) else (none)) else (impl_FromGaps.l1 k x0 x6 1 ([] : List Int))
def impl_FromGaps.l1 : Nat → List Int → List Bool → Int → List Int → Option (List Int × Bool)
 | 0, _, _, _, _ => none
 | k + 1, x0, x6, x10, x445000 => if x10 < (x6.length : Int) then (if 0 ≤ x10 then (impl_FromGaps.l2 k x0 x6 x10 (rdOf false x6 x10) 1 x445000) else (none)) else ((impl_IsSemigroup.f k x445000).bind fun t451 => (if t451 = true then ((impl_Gaps.f k x445000).bind fun t452 => ((slices_Equal_int_int.f k t452 x0).bind fun t455 => (if t455 = true then (some (x445000, true)) else (some (([] : List Int), false))))) else (some (([] : List Int), false))))
def impl_FromGaps.l2 : Nat → List Int → List Bool → Int → Bool → Int → List Int → Option (List Int × Bool)
 | 0, _, _, _, _, _, _ => none
 | k + 1, x0, x6, x10, x11, x12, x445000 => if (wrap64 (2 * x12)) ≤ x10 then (if x11 = true then (impl_FromGaps.l1 k x0 x6 (wrap64 (x10 + 1)) x445000) else (if 0 ≤ x12 then (if x12 < (x6.length : Int) then (if rdOf false x6 x12 = true then (impl_FromGaps.l2 k x0 x6 x10 false (wrap64 (x12 + 1)) x445000) else (if 0 ≤ (wrap64 (x10 - x12)) then (if (wrap64 (x10 - x12)) < (x6.length : Int) then (impl_FromGaps.l2 k x0 x6 x10 (!(rdOf false x6 (wrap64 (x10 - x12)))) (wrap64 (x12 + 1)) x445000) else (none)) else (none))) else (none)) else (none))) else (if x11 = true then (impl_FromGaps.l1 k x0 x6 (wrap64 (x10 + 1)) x445000) else (if x445000.length < 17592186044416 then (impl_FromGaps.l1 k x0 x6 (wrap64 (x10 + 1)) (x445000 ++ [x10])) else (none)))
end
def impl_FromGaps.f (k : Nat) (l0 : List Int) : Option (List Int × Bool) := (impl_GapClash.f k l0).bind fun bt434 => (if bt434.2.2 = true then (impl_FromGaps.j0 k l0 true) else ((impl_gapList.f k l0).bind fun t438 => (impl_FromGaps.j0 k l0 (!t438))))
set_option maxHeartbeats 8000000 in
set_option maxRecDepth 100000 in
theorem impl_FromGaps.calls (k : Nat) (A0 : Option Addr) (c0 : Nat) (l0 : List Int) (r1 : List Int) (r2 : Bool) (w : World) (hr0 : Kd.C (Kd.int .i64) w A0 l0.length l0) (hc0 : l0.length ≤ c0) (h : impl_FromGaps.f k l0 = some (r1, r2)) :
  Calls Try.prog 76 #[.slice A0 l0.length c0] w fun e w' => ∃ v0_ : Value, e = .returned (.tuple #[.agg #[v0_], .bool r2]) ∧ Kd.R (Kd.int .i64) 3 w' w.heap.size (fun _ => True) v0_ r1 ∧ Below w.heap.size w w' := by
 have hu27 := Try.underlying27
 have hu94 := Try.underlying94
 have HR0 := am hr0
 have HC0 := am hc0
 clear hr0 hc0
 have HB := am (Below.refl w.heap.size w)
 have H : ((impl_GapClash.f k l0).bind fun bt434 => (if bt434.2.2 = true then (impl_FromGaps.j0 k l0 true) else ((impl_gapList.f k l0).bind fun t438 => (impl_FromGaps.j0 k l0 (!t438))))) = some (r1, r2) := h
 clear h
 replace H := ga H; obtain ⟨⟨t434, t435, t436⟩, A2, H⟩ := H
 replace H : (if t436 = true then (impl_FromGaps.j0 k l0 true) else ((impl_gapList.f k l0).bind fun t438 => (impl_FromGaps.j0 k l0 (!t438)))) = some (r1, r2) := H
 have HC3 := am H
 clear H
 go_enter Try.func76, Try.ntmps76
 go_upto_region 2 with (first | ((with_reducible refine gate_dst (N := 2) rfl ?_); refine bx 2 #[.slice none 0 0] 27 ?_; intro gb433 hg w4 hbox hb; have BK433 := am (hbox); have GW433 := am (gs hg : w.heap.size ≤ gb433); have GE433 := GW433; replace HB := am (below_step bw hb); clear hb hbox hg) | ((with_reducible refine gate_callee (f := 128) rfl ?_); refine gl (some 15) Try.func128 #[.slice A0 l0.length c0] ?_; (with_reducible refine (impl_GapClash.calls k _ _ l0 t434 t435 t436 _ ?side1 ?side2 A2.out).mono ?_); (case side1 => exact co (Kd.C_below HR0.out HB.out)); (case side2 => exact HC0.out); rintro e w5 ⟨rfl, hb⟩; refine ⟨_, rfl, ?_⟩; replace BK433 := kb BK433 hb; replace HB := am (below_step bw hb); clear hb) | ((with_reducible refine gate_dst (N := 4) rfl ?_); refine bx 4 #[.int .i64 0, .int .i64 0] 94 ?_; intro gb437 hg w6 hbox hb; have BK437 := am (hbox); have GW437 := am (gs hg : w.heap.size ≤ gb437); have GE437 := GW437; replace HB := am (below_step bw hb); have NB433_437 := nl hg BK433; have NB437_433 := ns NB433_437; replace BK433 := kb BK433 hb; clear hb hbox hg; have hnb7 := NB437_433.out; have hnc7 := NB433_437.out; have hcz8_0 := bc BK437 0 (.int .i64 0); have hcz8_1 := bc BK437 1 (.int .i64 0); have hfz8_0 := blk_frozen BK437.out 0; have hfz8_1 := blk_frozen BK437.out 1))
 (try simp only [Act.put, List.setIfInBounds_toArray, List.set_cons_zero, List.set_cons_succ])
 go_cut [23] (fun v23 wc => ∃ (kq : Nat) (x23_2 : Bool), v23 = .bool x23_2 ∧ Aside0 (impl_FromGaps.j0 kq l0 x23_2 = some (r1, r2)) ∧ Aside0 (kq ≤ k) ∧ Aside0 (wc.heap[gb433]? = some (.cells #[(.slice none 0 0)] 27 (0, 0))) ∧ Aside0 (wc.heap[gb437]? = some (.cells #[.int .i64 t434, .int .i64 t435] 94 (0, 0))) ∧ Aside0 (Below w.heap.size w wc))
 case first =>
  have H := HC3.out
  clear HC3
  replace H := gb H; obtain ⟨rfl, H⟩ | ⟨rfl, H⟩ := H
  ·have H' := am H
   clear H
   go_wp2
   go_meet
   case rel => exact ⟨_, (true), rr, H', ⟨om⟩, ⟨bf BK433.out⟩, ⟨by (with_reducible repeat (first | refine blk_drewN ?_ _ | refine blk_drew ?_ | refine blk_alloc ?_ _)); refine blk_put (cs := #[.int .i64 t434, .int .i64 0]) ?_ 1 _ rfl; (with_reducible repeat (first | refine blk_drewN ?_ _ | refine blk_drew ?_ | refine blk_alloc ?_ _)); refine blk_put (cs := #[.int .i64 0, .int .i64 0]) ?_ 0 _ rfl; (with_reducible repeat (first | refine blk_drewN ?_ _ | refine blk_drew ?_ | refine blk_alloc ?_ _)); exact BK437.out⟩, ⟨bw⟩⟩
  replace H := ga H; obtain ⟨t438, A10, H⟩ := H
  have H' := am H
  clear H
  go_wp2_with (first | (go_at_call 129; (with_reducible refine (impl_gapList.calls k _ _ l0 t438 _ ?side1 ?side2 A10.out).mono ?_); (case side1 => exact Kd.C_below HR0.out bw); (case side2 => exact HC0.out); rintro e w' ⟨rfl, ⟨nd, rfl⟩⟩))
  go_meet
  case rel => exact ⟨_, (!t438), rr, H', ⟨om⟩, ⟨bf BK433.out⟩, ⟨by (with_reducible repeat (first | refine blk_drewN ?_ _ | refine blk_drew ?_ | refine blk_alloc ?_ _)); refine blk_put (cs := #[.int .i64 t434, .int .i64 0]) ?_ 1 _ rfl; (with_reducible repeat (first | refine blk_drewN ?_ _ | refine blk_drew ?_ | refine blk_alloc ?_ _)); refine blk_put (cs := #[.int .i64 0, .int .i64 0]) ?_ 0 _ rfl; (with_reducible repeat (first | refine blk_drewN ?_ _ | refine blk_drew ?_ | refine blk_alloc ?_ _)); exact BK437.out⟩, ⟨bw⟩⟩
 case rest =>
  clear HC3
  try clear hcz8_0; try clear hcz8_1; try clear hfz8_0; try clear hfz8_1
  obtain ⟨kq, x23_2, rfl, HA, HJ2, BK433, BK437, HB⟩ := hcut
  cases kq with
  | zero => exact absurd HA.out (by simp [impl_FromGaps.j0])
  | succ kj2 =>
   have H := HA.out
   clear HA
   simp only [impl_FromGaps.j0] at H
   replace H := gb H; obtain ⟨rfl, H⟩ | ⟨rfl, H⟩ := H
   ·simp only [Option.some.injEq, Prod.mk.injEq] at H
    obtain ⟨rfl, rfl⟩ := H
    have hnb12 := NB433_437.out
    have hnc12 := NB437_433.out
    have hcz13_0 := bc BK433 0 (.slice none 0 0)
    have hfz13_0 := blk_frozen BK433.out 0
    go_wp2
    refine bodyPost_ret (results_ct rfl _ _ gb433 27 #[.slice none 0 0] (0, 0) _ rfl (by (with_reducible repeat (first | refine blk_drewN ?_ _ | refine blk_drew ?_ | refine blk_alloc ?_ _)); refine blk_put (cs := #[.slice none 0 0]) ?_ 0 _ rfl; (with_reducible repeat (first | refine blk_drewN ?_ _ | refine blk_drew ?_ | refine blk_alloc ?_ _)); exact BK433.out) Try.underlying27 rfl (by kernel_rfl)) rfl ?_
    exact ⟨_, re, by first | exact Kd.R_nil _ _ _ _ _ | exact Kd.N_nil _ _ _ _ _ | exact Kd.V_nil _ _ _ _ _ | exact Kd.Q_nil _ _ _ _ _ | exact Kd.S_nil _ _ _ _ _, bw⟩
   replace H := gp H; obtain ⟨c14, H⟩ := H
   have c14b0 := eq_true c14
   have c14b1 : decide (401 ≤ 281474976710656) = true := decide_eq_true c14
   clear c14
   obtain ⟨y439, hy439⟩ : ∃ y_ : List Bool, y_ = (List.replicate 401 false) := ⟨_, rfl⟩
   replace H : (impl_FromGaps.l0 kj2 l0 y439 l0 (l0.length : Int) 0) = some (r1, r2) := by first | (rw [hy439]; with_reducible first | exact H | exact bs H) | (with_reducible first | exact bs H | exact H) | (rw [hy439]; exact H) | exact H
   have Ny439 := am hy439
   clear hy439
   have H' := am H
   clear H
   go_wp2_with (first | ((with_reducible refine gate_dst (N := 25) rfl ?_); refine Kd.R_make Kd.bool _ 4 rfl (N := 25) rfl 90 _ _ rfl 401 rfl rfl Try.underlying90 (.bool false) 1 info4 rfl (by decide) (by omega) false (ok := fun _ => True) (okp := fun _ => True) rfl (fun _ hk => hk) trivial (by omega) (by omega) (Below.refl _ _) (Nat.le_refl _) ?_; intro v440 w15 ho16 hb hg_ hnew_; clear hg_ hnew_; (first | rw [← Ny439.out] at ho16 | (simp only [Int.reduceToNat] at ho16; rw [← Ny439.out] at ho16)); have HO441 := am (Kd.R_lower ho16 (below_size bw)); replace BK433 := kb BK433 hb; replace BK437 := kb BK437 hb; replace HB := am (below_step bw hb); clear hb ho16))
   go_loopg [28] kj2 (fun kq v28 w' => ∃ (x6_2 : List Bool) (x28_2 : Int), v28 = .int .i64 x28_2 ∧ Aside0 (impl_FromGaps.l0 kq l0 x6_2 l0 (l0.length : Int) x28_2 = some (r1, r2)) ∧ Aside0 (kq ≤ kj2) ∧ Aside0 (Kd.R Kd.bool 4 w' w.heap.size (fun _ => True) v440 x6_2) ∧ Aside0 (w'.heap[gb433]? = some (.cells #[(.slice none 0 0)] 27 (0, 0))) ∧ Aside0 (w'.heap[gb437]? = some (.cells #[.int .i64 t434, .int .i64 t435] 94 (0, 0))) ∧ Aside0 (Below w.heap.size w w'))
   case atStart => exact ⟨(y439), (0), rr, H', ⟨Nat.le_refl _⟩, ⟨ro HO441.out⟩, ⟨bo BK433.out⟩, ⟨bo BK437.out⟩, ⟨bw⟩⟩
   case round =>
    clear H'
    try clear c14; try clear c14b0; try clear c14b1; try clear hcz13_0; try clear hcz8_0; try clear hcz8_1; try clear hfz13_0; try clear hfz8_0; try clear hfz8_1
    obtain ⟨x6_2, x28_2, rfl, HA, HK2, HO_6, BK433, BK437, HB⟩ := hrel
    cases gk with
    | zero => exact absurd HA.out (by simp [impl_FromGaps.l0])
    | succ k2 =>
     have H := HA.out
     clear HA
     simp only [impl_FromGaps.l0] at H
     replace H := gi H; obtain ⟨c17b0, H⟩ | ⟨c17b0, H⟩ := H
     ·replace H := gd H; obtain ⟨c18b0, H⟩ := H
      replace H := gd H; obtain ⟨c19b0, H⟩ := H
      replace H := gd H; obtain ⟨c20b0, H⟩ := H
      replace H := gd H; obtain ⟨c21b0, H⟩ := H
      obtain ⟨y443, hy443⟩ : ∃ y_ : List Bool, y_ = (x6_2.set ((rd l0 x28_2) : Int).toNat true) := ⟨_, rfl⟩
      replace H : (impl_FromGaps.l0 k2 l0 y443 l0 (l0.length : Int) (wrap64 (x28_2 + 1))) = some (r1, r2) := by first | (rw [hy443]; with_reducible first | exact H | exact bs H) | (with_reducible first | exact bs H | exact H) | (rw [hy443]; exact H) | exact H
      have Ny443 := am hy443
      clear hy443
      have H' := am H
      clear H
      obtain ⟨⟨ad442, e442, hx442_0⟩, p442, q442⟩ := pq (Kd.at_int HR0.out x28_2)
      cases e442
      replace hx442_0 := hw HB hx442_0
      have p22 : 0 ≤ ((rd l0 x28_2) : Int) := of_decide_eq_true (by first | (with_reducible assumption) | assumption)
      have q22 : ((rd l0 x28_2) : Int) < ((x6_2.length : Int) : Int) := of_decide_eq_true (by first | (with_reducible assumption) | assumption)
      obtain ⟨go22, co22, eo22, gb22, gl22, cl22, HG22⟩ := Kd.R_form HO_6.out (by omega)
      (first | cases eo22 | (injection eo22 with ea_ en_ ec_; (first | subst ea_ | (injection ea_ with ea_; subst ea_)); subst ec_; clear en_))
      have GB22 := am gb22
      have GG22 := am HG22
      clear gb22 gl22 HG22
      obtain ⟨hx22_0, hf22_0⟩ := Kd.R_celln false HO_6.out ((rd l0 x28_2) : Int) p22 q22
      replace p22 := eq_true p22
      replace q22 := eq_true q22
      have HP23 := Kd.R_putg HO_6.out ((rd l0 x28_2) : Int) true
      go_wp2_with (first | ((with_reducible refine gate_store (t := 4) (p := 34) rfl ?_); refine store_event (t := 4) (p := 34) (v := ?vo_w24) (w1 := (wr.setCell ⟨go22, ((rd l0 x28_2) : Int).toNat, none⟩ (.bool true))) ?hg ?ho ?hn ?hr ?_; (case ho => rfl); (case hg => rfl); (case hn => rfl); (case hr => first | (go_simp; done) | (go_simp; rfl)); intro w24 hw; have hg : wr.grownBy w24 (some go22) := (by rw [hw]; exact HP23.2); have hp_ : Kd.R Kd.bool 4 w24 w.heap.size (fun _ => True) (.slice (some ⟨go22, 0, none⟩) x6_2.length co22) y443 := (by rw [hw, Ny443.out]; exact HP23.1); clear HP23; replace BK433 := am (blk_grown (g := gb433) (o := .cells #[.slice none 0 0] 27 (0, 0)) (bo BK433.out) hg (Kd.R_ne HO_6.out BK433.out (by decide))); replace BK437 := am (blk_grown (g := gb437) (o := .cells #[.int .i64 t434, .int .i64 t435] 94 (0, 0)) (bo BK437.out) hg (Kd.R_ne HO_6.out BK437.out (by decide))); replace HO_6 := am (hp_); replace HB := am ((by rw [hw]; exact below_set (HB.out) GB22.out : Below w.heap.size w w24)); clear hg hw hp_))
      go_roundg k2
      case measure => have := HJ2.out; have := HK2.out; omega
      case rel => exact ⟨(y443), (wrap64 (x28_2 + 1)), rr, H', ⟨by have := HJ2.out; have := HK2.out; omega⟩, ⟨ro HO_6.out⟩, ⟨bo BK433.out⟩, ⟨bo BK437.out⟩, ⟨bw⟩⟩
     have H' := am H
     clear H
     go_wp2_with (first | ((with_reducible refine gate_dst (N := 9) rfl ?_); refine bx 9 #[.slice none 0 0] 27 ?_; intro gb444 hg w25 hbox hb; replace HO_6 := rK HO_6 hb; have BK444 := am (hbox); have GW444 := am (gs hg : w.heap.size ≤ gb444); have GE444 := GW444; replace HB := am (below_step bw hb); have NB433_444 := nl hg BK433; have NB444_433 := ns NB433_444; replace BK433 := kb BK433 hb; have NB437_444 := nl hg BK437; have NB444_437 := ns NB437_444; replace BK437 := kb BK437 hb; clear hb hbox hg; have hnb26 := NB444_433.out; have hnc26 := NB433_444.out; have hnb27 := NB444_437.out; have hnc27 := NB437_444.out; have hcz28_0 := bc BK444 0 (.slice none 0 0); have hfz28_0 := blk_frozen BK444.out 0))
     go_loopg [10] k2 (fun kq v10 w' => ∃ (x10_3 : Int) (x445000_3 : List Int) (u445000 : Value), v10 = .int .i64 x10_3 ∧ Aside0 (impl_FromGaps.l1 kq l0 x6_2 x10_3 x445000_3 = some (r1, r2)) ∧ Aside0 (kq ≤ k2) ∧ Aside0 (Kd.R Kd.bool 4 w' w.heap.size (fun _ => True) v440 x6_2) ∧ Aside0 (Kd.R (Kd.int .i64) 3 w' w.heap.size (fun _ => True) u445000 x445000_3) ∧ Aside0 (w'.heap[gb433]? = some (.cells #[(.slice none 0 0)] 27 (0, 0))) ∧ Aside0 (w'.heap[gb437]? = some (.cells #[.int .i64 t434, .int .i64 t435] 94 (0, 0))) ∧ Aside0 (w'.heap[gb444]? = some (.cells #[u445000] 27 (0, 0))) ∧ Aside0 (Below w.heap.size w w'))
     case atStart => exact ⟨(1), (([] : List Int)), (.slice none 0 0), rr, H', ⟨Nat.le_refl _⟩, ⟨by (with_reducible repeat (first | apply Kd.R_alloc | apply Kd.R_drewN | apply Kd.R_drew)); exact Kd.R_mono (Kd.R_far (p := ⟨gb444, 0, none⟩) (Kd.R_types HO_6.out BK444.out (by decide)) (fun _ hk => hk.2) (.slice none 0 0)) (fun _ hk => trivial)⟩, ⟨by first | exact Kd.R_nil _ _ _ _ _ | exact Kd.N_nil _ _ _ _ _ | exact Kd.V_nil _ _ _ _ _ | exact Kd.Q_nil _ _ _ _ _ | exact Kd.S_nil _ _ _ _ _⟩, ⟨bf BK433.out⟩, ⟨bf BK437.out⟩, ⟨by (with_reducible repeat (first | refine blk_drewN ?_ _ | refine blk_drew ?_ | refine blk_alloc ?_ _)); refine blk_put (cs := #[.slice none 0 0]) ?_ 0 _ rfl; (with_reducible repeat (first | refine blk_drewN ?_ _ | refine blk_drew ?_ | refine blk_alloc ?_ _)); exact BK444.out⟩, ⟨bw⟩⟩
     case round =>
      clear H'
      try clear c14; try clear c14b0; try clear c14b1; try clear c17b0; try clear c18b0; try clear c19b0; try clear c20b0; try clear c21b0; try clear p22; try clear q22; try clear hcz13_0; try clear hcz28_0; try clear hcz8_0; try clear hcz8_1; try clear hfz13_0; try clear hfz28_0; try clear hfz8_0; try clear hfz8_1; try clear hx22_0; try clear hx442_0; try clear p442; try clear q442
      obtain ⟨x10_3, x445000_3, u445000, rfl, HA, HK3, HO_6, HO_445000, BK433, BK437, BK444, HB⟩ := hrel
      cases gk with
      | zero => exact absurd HA.out (by simp [impl_FromGaps.l1])
      | succ k3 =>
       have H := HA.out
       clear HA
       simp only [impl_FromGaps.l1] at H
       replace H := gi H; obtain ⟨c29b0, H⟩ | ⟨c29b0, H⟩ := H
       ·replace H := gd H; obtain ⟨c30b0, H⟩ := H
        have H' := am H
        clear H
        obtain ⟨Ao31, co31, eo31⟩ := Kd.R_slice HO_6.out
        subst eo31
        obtain ⟨⟨ad445, e445, hx445_0⟩, p445, q445⟩ := pq (Kd.at_bool (Kd.R_reads' HO_6.out).2.2 x10_3)
        cases e445
        go_wp2
        go_loopg [11, 12] k3 (fun kq v11 v12 w' => ∃ (x11_4 : Bool) (x12_4 : Int), v11 = .bool x11_4 ∧ v12 = .int .i64 x12_4 ∧ Aside0 (impl_FromGaps.l2 kq l0 x6_2 x10_3 x11_4 x12_4 x445000_3 = some (r1, r2)) ∧ Aside0 (kq ≤ k3) ∧ Aside0 (Kd.R Kd.bool 4 w' w.heap.size (fun _ => True) (.slice (some ad445) x6_2.length co31) x6_2) ∧ Aside0 (Kd.R (Kd.int .i64) 3 w' w.heap.size (fun _ => True) u445000 x445000_3) ∧ Aside0 (w'.heap[gb433]? = some (.cells #[(.slice none 0 0)] 27 (0, 0))) ∧ Aside0 (w'.heap[gb437]? = some (.cells #[.int .i64 t434, .int .i64 t435] 94 (0, 0))) ∧ Aside0 (w'.heap[gb444]? = some (.cells #[u445000] 27 (0, 0))) ∧ Aside0 (Below w.heap.size w w'))
        case atStart => exact ⟨(rdOf false x6_2 x10_3), (1), rr, rr, H', ⟨Nat.le_refl _⟩, ⟨ro HO_6.out⟩, ⟨ro HO_445000.out⟩, ⟨bo BK433.out⟩, ⟨bo BK437.out⟩, ⟨bo BK444.out⟩, ⟨bw⟩⟩
        case round =>
         clear H'
         try clear c14; try clear c14b0; try clear c14b1; try clear c17b0; try clear c18b0; try clear c19b0; try clear c20b0; try clear c21b0; try clear p22; try clear q22; try clear c29b0; try clear c30b0; try clear hcz13_0; try clear hcz28_0; try clear hcz8_0; try clear hcz8_1; try clear hfz13_0; try clear hfz28_0; try clear hfz8_0; try clear hfz8_1; try clear hx22_0; try clear hx442_0; try clear hx445_0; try clear p442; try clear p445; try clear q442; try clear q445
         obtain ⟨x11_4, x12_4, rfl, rfl, HA, HK4, HO_6, HO_445000, BK433, BK437, BK444, HB⟩ := hrel
         cases gk with
         | zero => exact absurd HA.out (by simp [impl_FromGaps.l2])
         | succ k4 =>
          have H := HA.out
          clear HA
          simp only [impl_FromGaps.l2] at H
          replace H := gi H; obtain ⟨c32b0, H⟩ | ⟨c32b0, H⟩ := H
          ·replace H := gb H; obtain ⟨rfl, H⟩ | ⟨rfl, H⟩ := H
           ·have H' := am H
            clear H
            go_wp2
            go_roundg k4
            case measure => have := HJ2.out; have := HK2.out; have := HK3.out; have := HK4.out; omega
            case rel => exact ⟨(wrap64 (x10_3 + 1)), (x445000_3), (u445000), rr, H', ⟨by have := HJ2.out; have := HK2.out; have := HK3.out; have := HK4.out; omega⟩, ⟨ro HO_6.out⟩, ⟨ro HO_445000.out⟩, ⟨bo BK433.out⟩, ⟨bo BK437.out⟩, ⟨bo BK444.out⟩, ⟨bw⟩⟩
           replace H := gd H; obtain ⟨c34b0, H⟩ := H
           replace H := gd H; obtain ⟨c35b0, H⟩ := H
           obtain ⟨bq36, hbq36⟩ : ∃ b_ : Bool, b_ = (rdOf false x6_2 x12_4) := ⟨_, rfl⟩
           replace H : (if bq36 = true then (impl_FromGaps.l2 k4 l0 x6_2 x10_3 false (wrap64 (x12_4 + 1)) x445000_3) else (if 0 ≤ (wrap64 (x10_3 - x12_4)) then (if (wrap64 (x10_3 - x12_4)) < (x6_2.length : Int) then (impl_FromGaps.l2 k4 l0 x6_2 x10_3 (!(rdOf false x6_2 (wrap64 (x10_3 - x12_4)))) (wrap64 (x12_4 + 1)) x445000_3) else (none)) else (none))) = some (r1, r2) := by rw [← hbq36] at H; exact H
           have Nbq36 := am hbq36
           clear hbq36
           replace H := gb H; obtain ⟨rfl, H⟩ | ⟨rfl, H⟩ := H
           ·have H' := am H
            clear H
            obtain ⟨⟨ad446, e446, hx446_0⟩, p446, q446⟩ := pq (Kd.at_bool (Kd.R_reads' HO_6.out).2.2 x12_4)
            (try rw [← Nbq36.out] at hx446_0)
            obtain rfl : ad445 = ad446 := (by injection e446)
            go_wp2
            go_roundg k4
            case measure => have := HJ2.out; have := HK2.out; have := HK3.out; have := HK4.out; omega
            case rel => exact ⟨(false), (wrap64 (x12_4 + 1)), rr, rr, H', ⟨by have := HJ2.out; have := HK2.out; have := HK3.out; have := HK4.out; omega⟩, ⟨ro HO_6.out⟩, ⟨ro HO_445000.out⟩, ⟨bo BK433.out⟩, ⟨bo BK437.out⟩, ⟨bo BK444.out⟩, ⟨bw⟩⟩
           obtain ⟨ji38, hji38⟩ : ∃ j_ : Int, (wrap64 (x10_3 - x12_4)) = j_ := ⟨_, rfl⟩
           replace H : (if 0 ≤ (ji38) then (if (ji38) < (x6_2.length : Int) then (impl_FromGaps.l2 k4 l0 x6_2 x10_3 (!(rdOf false x6_2 (ji38))) (wrap64 (x12_4 + 1)) x445000_3) else (none)) else (none)) = some (r1, r2) := by first | (rw [hji38] at H; exact H) | (simp only [hji38] at H ⊢; exact H)
           have hji38w : (IntKind.i64.wrap (x10_3 - x12_4)) = ji38 := (i64_w _).trans hji38
           replace H := gd H; obtain ⟨c39b0, H⟩ := H
           replace H := gd H; obtain ⟨c40b0, H⟩ := H
           have H' := am H
           clear H
           obtain ⟨⟨ad446, e446, hx446_0⟩, p446, q446⟩ := pq (Kd.at_bool (Kd.R_reads' HO_6.out).2.2 x12_4)
           (try rw [← Nbq36.out] at hx446_0)
           obtain rfl : ad445 = ad446 := (by injection e446)
           obtain ⟨⟨ad447, e447, hx447_0⟩, p447, q447⟩ := pq (Kd.at_bool (Kd.R_reads' HO_6.out).2.2 (ji38))
           (try rw [← Nbq36.out] at hx447_0)
           obtain rfl : ad445 = ad447 := (by injection e447)
           go_wp2
           go_roundg k4
           case measure => have := HJ2.out; have := HK2.out; have := HK3.out; have := HK4.out; omega
           case rel => exact ⟨(!(rdOf false x6_2 (ji38))), (wrap64 (x12_4 + 1)), (by first | rfl | (simp; done) | (simp only [← hji38] <;> (first | rfl | simp)) | (simp [*]; done)), rr, H', ⟨by have := HJ2.out; have := HK2.out; have := HK3.out; have := HK4.out; omega⟩, ⟨ro HO_6.out⟩, ⟨ro HO_445000.out⟩, ⟨bo BK433.out⟩, ⟨bo BK437.out⟩, ⟨bo BK444.out⟩, ⟨bw⟩⟩
          replace H := gb H; obtain ⟨rfl, H⟩ | ⟨rfl, H⟩ := H
          ·have H' := am H
           clear H
           go_wp2
           go_roundg k4
           case measure => have := HJ2.out; have := HK2.out; have := HK3.out; have := HK4.out; omega
           case rel => exact ⟨(wrap64 (x10_3 + 1)), (x445000_3), (u445000), rr, H', ⟨by have := HJ2.out; have := HK2.out; have := HK3.out; have := HK4.out; omega⟩, ⟨ro HO_6.out⟩, ⟨ro HO_445000.out⟩, ⟨bo BK433.out⟩, ⟨bo BK437.out⟩, ⟨bo BK444.out⟩, ⟨bw⟩⟩
          by_cases c42 : x445000_3.length < 17592186044416
          rotate_left
          ·rw [if_neg c42] at H
           exact absurd H (by simp)
          rw [if_pos c42] at H
          have LMc42 := am c42
          clear c42
          obtain ⟨y448, hy448⟩ : ∃ y_ : List Int, y_ = (x445000_3 ++ [x10_3]) := ⟨_, rfl⟩
          replace H : (impl_FromGaps.l1 k4 l0 x6_2 (wrap64 (x10_3 + 1)) y448) = some (r1, r2) := by first | (rw [hy448]; with_reducible first | exact H | exact bs H) | (with_reducible first | exact bs H | exact H) | (rw [hy448]; exact H) | exact H
          have Ny448 := am hy448
          clear hy448
          have H' := am H
          clear H
          have hnb43 := NB444_433.out
          have hnc43 := NB433_444.out
          have hnb44 := NB444_437.out
          have hnc44 := NB437_444.out
          have hcz45_0 := bc BK444 0 (u445000)
          have hfz45_0 := blk_frozen BK444.out 0
          go_wp2_with (first | ((with_reducible refine gate_builtin (b := .append) (xs := #[.tmp 74, .tmp 76]) rfl ?_); at_builtin; refine Kd.R_append (Kd.int .i64) (w0 := w) w.heap.size rfl (.tmp 74) (.tmp 76) 22 3 (.int .i64 0) 8 rfl Try.underlying22 info3 rfl (by decide) (by omega) u445000 x445000_3 x10_3 [.int .i64 x10_3] (fun _ => True) (fun _ => False) rfl rfl ?aP (fun _ hk => hk.elim) ?aF ?aO ?aB ?aS ?aL ?_; (case aP => exact rfl); (case aB => exact bw); (case aF => exact (fun _ _ => trivial)); (case aO => exact (ro HO_445000.out)); (case aS => exact (below_size bw)); (case aL => have := LMc42.out; omega); intro v449 w46 ho hb hg hat; rw [← Ny448.out] at ho; replace HO_6 := am (Kd.R_over' (ro HO_6.out) (Kd.R_typed (ro HO_445000.out)) (by decide) hg); replace BK433 := am (blk_grown (g := gb433) (o := .cells #[.slice none 0 0] 27 (0, 0)) (bo BK433.out) hg (Kd.R_ne HO_445000.out BK433.out (by decide))); replace BK437 := am (blk_grown (g := gb437) (o := .cells #[.int .i64 t434, .int .i64 t435] 94 (0, 0)) (bo BK437.out) hg (Kd.R_ne HO_445000.out BK437.out (by decide))); replace BK444 := am (blk_grown (g := gb444) (o := .cells #[u445000] 27 (0, 0)) (bo BK444.out) hg (Kd.R_ne HO_445000.out BK444.out (by decide))); replace HB := am (hb); have HO450 := am (ho); clear HO_445000 ho hb hg hat; obtain ⟨Ao47, co47, eo47⟩ := Kd.R_slice HO450.out; subst eo47; have hcz48_0 := bc BK444 0 (u445000); have hfz48_0 := blk_frozen BK444.out 0))
          go_roundg k4
          case measure => have := HJ2.out; have := HK2.out; have := HK3.out; have := HK4.out; omega
          case rel => exact ⟨(wrap64 (x10_3 + 1)), (y448), (.slice Ao47 y448.length co47), rr, H', ⟨by have := HJ2.out; have := HK2.out; have := HK3.out; have := HK4.out; omega⟩, ⟨by (with_reducible repeat (first | apply Kd.R_alloc | apply Kd.R_drewN | apply Kd.R_drew)); exact Kd.R_mono (Kd.R_far (p := ⟨gb444, 0, none⟩) (Kd.R_types HO_6.out BK444.out (by decide)) (fun _ hk => hk.2) (.slice Ao47 y448.length co47)) (fun _ hk => trivial)⟩, ⟨by (with_reducible repeat (first | apply Kd.R_alloc | apply Kd.R_drewN | apply Kd.R_drew)); exact Kd.R_mono (Kd.R_far (p := ⟨gb444, 0, none⟩) (Kd.R_types HO450.out BK444.out (by decide)) (fun _ hk => hk.2) (.slice Ao47 y448.length co47)) (fun _ hk => trivial)⟩, ⟨bf BK433.out⟩, ⟨bf BK437.out⟩, ⟨by (with_reducible repeat (first | refine blk_drewN ?_ _ | refine blk_drew ?_ | refine blk_alloc ?_ _)); refine blk_put (cs := #[u445000]) ?_ 0 _ rfl; (with_reducible repeat (first | refine blk_drewN ?_ _ | refine blk_drew ?_ | refine blk_alloc ?_ _)); exact BK444.out⟩, ⟨bw⟩⟩
       replace H := ga H; obtain ⟨t451, A49, H⟩ := H
       replace H := gb H; obtain ⟨rfl, H⟩ | ⟨rfl, H⟩ := H
       ·replace H := ga H; obtain ⟨t452, A51, H⟩ := H
        replace H := ga H; obtain ⟨t455, A52, H⟩ := H
        replace H := gb H; obtain ⟨rfl, H⟩ | ⟨rfl, H⟩ := H
        ·simp only [Option.some.injEq, Prod.mk.injEq] at H
         obtain ⟨rfl, rfl⟩ := H
         obtain ⟨Ao54, co54, eo54⟩ := Kd.R_slice HO_6.out
         subst eo54
         have hnb55 := NB444_433.out
         have hnc55 := NB433_444.out
         have hnb56 := NB444_437.out
         have hnc56 := NB437_444.out
         have hcz57_0 := bc BK444 0 (u445000)
         have hfz57_0 := blk_frozen BK444.out 0
         obtain ⟨Ao58, co58, eo58⟩ := Kd.R_slice HO_445000.out
         subst eo58
         go_wp2_with (first | ((with_reducible refine gate_callee (f := 62) rfl ?_); refine gl (some 80) Try.func62 #[.agg #[.slice Ao58 x445000_3.length co58]] ?_; (with_reducible refine (impl_IsSemigroup.calls k3 _ _ x445000_3 true _ ?side1 ?side2 A49.out).mono ?_); (case side1 => exact co (Kd.R_reads' HO_445000.out).2.2); (case side2 => exact (Kd.R_reads' HO_445000.out).2.1); rintro e w59 ⟨rfl, hb⟩; refine ⟨_, rfl, ?_⟩; replace HO_6 := rK HO_6 hb; replace HO_445000 := rK HO_445000 hb; replace BK433 := kb BK433 hb; replace BK437 := kb BK437 hb; replace BK444 := kb BK444 hb; replace HB := am (below_step bw hb); clear hb; have hcz60_0 := bc BK444 0 (.slice Ao58 x445000_3.length co58); have hfz60_0 := blk_frozen BK444.out 0) | (go_at_call 79; (with_reducible refine (impl_Gaps.calls k3 _ _ x445000_3 t452 _ ?side1 ?side2 A51.out).mono ?_); (case side1 => exact co (Kd.R_reads' HO_445000.out).2.2); (case side2 => exact (Kd.R_reads' HO_445000.out).2.1); rintro e w61 ⟨v453, rfl, ho0, hb⟩; replace HO_6 := rK HO_6 hb; have HO454 := am (Kd.R_lower (Kd.R_new' ho0 (Kd.R_lt (ro HO_445000.out))) (below_size bw)); replace HO_445000 := am (Kd.R_elder' (ro HO_445000.out) (Kd.R_base ho0) hb); replace BK433 := kb BK433 hb; replace BK437 := kb BK437 hb; replace BK444 := kb BK444 hb; replace HB := am (below_step bw hb); clear hb ho0; obtain ⟨Ao62, co62, eo62⟩ := Kd.R_slice HO454.out; subst eo62) | (go_at_call 95; (with_reducible refine (slices_Equal_int_int.calls k3 _ _ t452 _ _ l0 true _ ?side1 ?side2 ?side3 ?side4 A52.out).mono ?_); (case side1 => exact co (Kd.R_reads' HO454.out).2.2); (case side2 => exact (Kd.R_reads' HO454.out).2.1); (case side3 => exact co (Kd.C_below HR0.out HB.out)); (case side4 => exact HC0.out); rintro e w' ⟨rfl, ⟨nd, rfl⟩⟩; (try (rw [drewN_self w61]; generalize hq_ : World.drewN w61 _ = w61; have n0_ : Aside0 (Kd.R (Kd.int .i64) 3 w61 w.heap.size (fun k_ => nb k_ Ao58 x445000_3 co58) (.slice Ao62 t452.length co62) t452) := ⟨by rw [← hq_]; exact (by (with_reducible repeat (first | apply Kd.R_alloc | apply Kd.R_drewN | apply Kd.R_drew)); exact Kd.R_mono HO454.out (fun _ hk => hk.2))⟩; have n1_ : Aside0 (Kd.R (Kd.int .i64) 3 w61 w.heap.size (fun k_ => nb k_ Ao62 t452 co62) (.slice Ao58 x445000_3.length co58) x445000_3) := ⟨by rw [← hq_]; exact (by (with_reducible repeat (first | apply Kd.R_alloc | apply Kd.R_drewN | apply Kd.R_drew)); exact Kd.R_mono HO_445000.out (fun _ hk => hk.2))⟩; have n2_ : Aside0 (Kd.R Kd.bool 4 w61 w.heap.size (fun _ => True) (.slice Ao54 x6_2.length co54) x6_2) := ⟨by rw [← hq_]; exact (ro HO_6.out)⟩; have n3_ : Aside0 (w61.heap[gb433]? = some (.cells #[.slice none 0 0] 27 (0, 0))) := ⟨by rw [← hq_]; exact (bo BK433.out)⟩; have n4_ : Aside0 (w61.heap[gb437]? = some (.cells #[.int .i64 t434, .int .i64 t435] 94 (0, 0))) := ⟨by rw [← hq_]; exact (bo BK437.out)⟩; have n5_ : Aside0 (w61.heap[gb444]? = some (.cells #[.slice Ao58 x445000_3.length co58] 27 (0, 0))) := ⟨by rw [← hq_]; exact (bo BK444.out)⟩; have n6_ : Aside0 (Below w.heap.size w w61) := ⟨by rw [← hq_]; exact bw⟩; clear HO454 HO_445000 HO_6 BK433 BK437 BK444 HB hq_; have HO454 := n0_; have HO_445000 := n1_; have HO_6 := n2_; have BK433 := n3_; have BK437 := n4_; have BK444 := n5_; have HB := n6_; clear n0_ n1_ n2_ n3_ n4_ n5_ n6_)); have hcz63_0 := bc BK444 0 (.slice Ao58 x445000_3.length co58); have hfz63_0 := blk_frozen BK444.out 0; have hnb64 := NB433_437.out; have hnc64 := NB437_433.out; have hcz65_0 := bc BK433 0 (.slice none 0 0); have hfz65_0 := blk_frozen BK433.out 0))
         refine bodyPost_ret (results_ct rfl _ _ gb433 27 #[.slice Ao58 x445000_3.length co58] (0, 0) _ rfl (by (with_reducible repeat (first | refine blk_drewN ?_ _ | refine blk_drew ?_ | refine blk_alloc ?_ _)); refine blk_put (cs := #[.slice none 0 0]) ?_ 0 _ rfl; (with_reducible repeat (first | refine blk_drewN ?_ _ | refine blk_drew ?_ | refine blk_alloc ?_ _)); exact BK433.out) Try.underlying27 rfl (by kernel_rfl)) rfl ?_
         exact ⟨_, re, by (with_reducible repeat (first | apply Kd.R_alloc | apply Kd.R_drewN | apply Kd.R_drew)); exact Kd.R_mono (Kd.R_far (p := ⟨gb433, 0, none⟩) (Kd.R_types HO_445000.out BK433.out (by decide)) (fun _ hk => hk.2) (.slice Ao58 x445000_3.length co58)) (fun _ hk => trivial), bw⟩
        simp only [Option.some.injEq, Prod.mk.injEq] at H
        obtain ⟨rfl, rfl⟩ := H
        obtain ⟨Ao66, co66, eo66⟩ := Kd.R_slice HO_6.out
        subst eo66
        have hnb67 := NB444_433.out
        have hnc67 := NB433_444.out
        have hnb68 := NB444_437.out
        have hnc68 := NB437_444.out
        have hcz69_0 := bc BK444 0 (u445000)
        have hfz69_0 := blk_frozen BK444.out 0
        obtain ⟨Ao70, co70, eo70⟩ := Kd.R_slice HO_445000.out
        subst eo70
        go_wp2_with (first | ((with_reducible refine gate_callee (f := 62) rfl ?_); refine gl (some 80) Try.func62 #[.agg #[.slice Ao70 x445000_3.length co70]] ?_; (with_reducible refine (impl_IsSemigroup.calls k3 _ _ x445000_3 true _ ?side1 ?side2 A49.out).mono ?_); (case side1 => exact co (Kd.R_reads' HO_445000.out).2.2); (case side2 => exact (Kd.R_reads' HO_445000.out).2.1); rintro e w71 ⟨rfl, hb⟩; refine ⟨_, rfl, ?_⟩; replace HO_6 := rK HO_6 hb; replace HO_445000 := rK HO_445000 hb; replace BK433 := kb BK433 hb; replace BK437 := kb BK437 hb; replace BK444 := kb BK444 hb; replace HB := am (below_step bw hb); clear hb; have hcz72_0 := bc BK444 0 (.slice Ao70 x445000_3.length co70); have hfz72_0 := blk_frozen BK444.out 0) | (go_at_call 79; (with_reducible refine (impl_Gaps.calls k3 _ _ x445000_3 t452 _ ?side1 ?side2 A51.out).mono ?_); (case side1 => exact co (Kd.R_reads' HO_445000.out).2.2); (case side2 => exact (Kd.R_reads' HO_445000.out).2.1); rintro e w73 ⟨v453, rfl, ho0, hb⟩; replace HO_6 := rK HO_6 hb; have HO454 := am (Kd.R_lower (Kd.R_new' ho0 (Kd.R_lt (ro HO_445000.out))) (below_size bw)); replace HO_445000 := am (Kd.R_elder' (ro HO_445000.out) (Kd.R_base ho0) hb); replace BK433 := kb BK433 hb; replace BK437 := kb BK437 hb; replace BK444 := kb BK444 hb; replace HB := am (below_step bw hb); clear hb ho0; obtain ⟨Ao74, co74, eo74⟩ := Kd.R_slice HO454.out; subst eo74) | (go_at_call 95; (with_reducible refine (slices_Equal_int_int.calls k3 _ _ t452 _ _ l0 false _ ?side1 ?side2 ?side3 ?side4 A52.out).mono ?_); (case side1 => exact co (Kd.R_reads' HO454.out).2.2); (case side2 => exact (Kd.R_reads' HO454.out).2.1); (case side3 => exact co (Kd.C_below HR0.out HB.out)); (case side4 => exact HC0.out); rintro e w' ⟨rfl, ⟨nd, rfl⟩⟩; (try (rw [drewN_self w73]; generalize hq_ : World.drewN w73 _ = w73; have n0_ : Aside0 (Kd.R (Kd.int .i64) 3 w73 w.heap.size (fun k_ => nb k_ Ao70 x445000_3 co70) (.slice Ao74 t452.length co74) t452) := ⟨by rw [← hq_]; exact (by (with_reducible repeat (first | apply Kd.R_alloc | apply Kd.R_drewN | apply Kd.R_drew)); exact Kd.R_mono HO454.out (fun _ hk => hk.2))⟩; have n1_ : Aside0 (Kd.R (Kd.int .i64) 3 w73 w.heap.size (fun k_ => nb k_ Ao74 t452 co74) (.slice Ao70 x445000_3.length co70) x445000_3) := ⟨by rw [← hq_]; exact (by (with_reducible repeat (first | apply Kd.R_alloc | apply Kd.R_drewN | apply Kd.R_drew)); exact Kd.R_mono HO_445000.out (fun _ hk => hk.2))⟩; have n2_ : Aside0 (Kd.R Kd.bool 4 w73 w.heap.size (fun _ => True) (.slice Ao66 x6_2.length co66) x6_2) := ⟨by rw [← hq_]; exact (ro HO_6.out)⟩; have n3_ : Aside0 (w73.heap[gb433]? = some (.cells #[.slice none 0 0] 27 (0, 0))) := ⟨by rw [← hq_]; exact (bo BK433.out)⟩; have n4_ : Aside0 (w73.heap[gb437]? = some (.cells #[.int .i64 t434, .int .i64 t435] 94 (0, 0))) := ⟨by rw [← hq_]; exact (bo BK437.out)⟩; have n5_ : Aside0 (w73.heap[gb444]? = some (.cells #[.slice Ao70 x445000_3.length co70] 27 (0, 0))) := ⟨by rw [← hq_]; exact (bo BK444.out)⟩; have n6_ : Aside0 (Below w.heap.size w w73) := ⟨by rw [← hq_]; exact bw⟩; clear HO454 HO_445000 HO_6 BK433 BK437 BK444 HB hq_; have HO454 := n0_; have HO_445000 := n1_; have HO_6 := n2_; have BK433 := n3_; have BK437 := n4_; have BK444 := n5_; have HB := n6_; clear n0_ n1_ n2_ n3_ n4_ n5_ n6_)); have hnb75 := NB433_437.out; have hnc75 := NB437_433.out; have hcz76_0 := bc BK433 0 (.slice none 0 0); have hfz76_0 := blk_frozen BK433.out 0))
        refine bodyPost_ret (results_ct rfl _ _ gb433 27 #[.slice none 0 0] (0, 0) _ rfl (by (with_reducible repeat (first | refine blk_drewN ?_ _ | refine blk_drew ?_ | refine blk_alloc ?_ _)); refine blk_put (cs := #[.slice none 0 0]) ?_ 0 _ rfl; (with_reducible repeat (first | refine blk_drewN ?_ _ | refine blk_drew ?_ | refine blk_alloc ?_ _)); exact BK433.out) Try.underlying27 rfl (by kernel_rfl)) rfl ?_
        exact ⟨_, re, by first | exact Kd.R_nil _ _ _ _ _ | exact Kd.N_nil _ _ _ _ _ | exact Kd.V_nil _ _ _ _ _ | exact Kd.Q_nil _ _ _ _ _ | exact Kd.S_nil _ _ _ _ _, bw⟩
       simp only [Option.some.injEq, Prod.mk.injEq] at H
       obtain ⟨rfl, rfl⟩ := H
       obtain ⟨Ao77, co77, eo77⟩ := Kd.R_slice HO_6.out
       subst eo77
       have hnb78 := NB444_433.out
       have hnc78 := NB433_444.out
       have hnb79 := NB444_437.out
       have hnc79 := NB437_444.out
       have hcz80_0 := bc BK444 0 (u445000)
       have hfz80_0 := blk_frozen BK444.out 0
       obtain ⟨Ao81, co81, eo81⟩ := Kd.R_slice HO_445000.out
       subst eo81
       go_wp2_with (first | ((with_reducible refine gate_callee (f := 62) rfl ?_); refine gl (some 80) Try.func62 #[.agg #[.slice Ao81 x445000_3.length co81]] ?_; (with_reducible refine (impl_IsSemigroup.calls k3 _ _ x445000_3 false _ ?side1 ?side2 A49.out).mono ?_); (case side1 => exact co (Kd.R_reads' HO_445000.out).2.2); (case side2 => exact (Kd.R_reads' HO_445000.out).2.1); rintro e w82 ⟨rfl, hb⟩; refine ⟨_, rfl, ?_⟩; replace HO_6 := rK HO_6 hb; replace HO_445000 := rK HO_445000 hb; replace BK433 := kb BK433 hb; replace BK437 := kb BK437 hb; replace BK444 := kb BK444 hb; replace HB := am (below_step bw hb); clear hb; have hnb83 := NB433_437.out; have hnc83 := NB437_433.out; have hcz84_0 := bc BK433 0 (.slice none 0 0); have hfz84_0 := blk_frozen BK433.out 0))
       refine bodyPost_ret (results_ct rfl _ _ gb433 27 #[.slice none 0 0] (0, 0) _ rfl (by (with_reducible repeat (first | refine blk_drewN ?_ _ | refine blk_drew ?_ | refine blk_alloc ?_ _)); refine blk_put (cs := #[.slice none 0 0]) ?_ 0 _ rfl; (with_reducible repeat (first | refine blk_drewN ?_ _ | refine blk_drew ?_ | refine blk_alloc ?_ _)); exact BK433.out) Try.underlying27 rfl (by kernel_rfl)) rfl ?_
       exact ⟨_, re, by first | exact Kd.R_nil _ _ _ _ _ | exact Kd.N_nil _ _ _ _ _ | exact Kd.V_nil _ _ _ _ _ | exact Kd.Q_nil _ _ _ _ _ | exact Kd.S_nil _ _ _ _ _, bw⟩


/-! ### impl_ParentOf: function 29 -/
def impl_ParentOf.f (k : Nat) (l0_0 : List Int) : Option (List Int × Bool) := (impl_Gaps.f k l0_0).bind fun t458 => (if (t458.length : Int) = 0 then (some (([] : List Int), false)) else (if 0 ≤ (wrap64 ((t458.length : Int) - 1)) then (if (wrap64 ((t458.length : Int) - 1)) ≤ (t458.length : Int) then ((impl_FromGaps.f k (t458.take ((wrap64 ((t458.length : Int) - 1)) : Int).toNat)).bind fun bt465 => (some (bt465.1, bt465.2))) else (none)) else (none)))
set_option maxHeartbeats 8000000 in
set_option maxRecDepth 100000 in
theorem impl_ParentOf.calls (k : Nat) (A0_0 : Option Addr) (c0_0 : Nat) (l0_0 : List Int) (r1 : List Int) (r2 : Bool) (w : World) (hr0_0 : Kd.C (Kd.int .i64) w A0_0 l0_0.length l0_0) (hc0_0 : l0_0.length ≤ c0_0) (h : impl_ParentOf.f k l0_0 = some (r1, r2)) :
  Calls Try.prog 29 #[.agg #[.slice A0_0 l0_0.length c0_0]] w fun e w' => ∃ v0_ : Value, e = .returned (.tuple #[.agg #[v0_], .bool r2]) ∧ Kd.R (Kd.int .i64) 3 w' w.heap.size (fun _ => True) v0_ r1 ∧ Below w.heap.size w w' := by
 have hu27 := Try.underlying27
 have HR0_0 := am hr0_0
 have HC0_0 := am hc0_0
 clear hr0_0 hc0_0
 have HB := am (Below.refl w.heap.size w)
 have H : ((impl_Gaps.f k l0_0).bind fun t458 => (if (t458.length : Int) = 0 then (some (([] : List Int), false)) else (if 0 ≤ (wrap64 ((t458.length : Int) - 1)) then (if (wrap64 ((t458.length : Int) - 1)) ≤ (t458.length : Int) then ((impl_FromGaps.f k (t458.take ((wrap64 ((t458.length : Int) - 1)) : Int).toNat)).bind fun bt465 => (some (bt465.1, bt465.2))) else (none)) else (none)))) = some (r1, r2) := h
 clear h
 replace H := ga H; obtain ⟨t458, A2, H⟩ := H
 by_cases c3 : (t458.length : Int) = 0
 ·rw [if_pos c3] at H
  have c3b0 : ((t458.length : Int) == 0) = true := beq_iff_eq.mpr c3
  have c3b1 : ((t458.length : Int) != 0) = false := bne_eq_false_iff_eq.mpr c3
  clear c3
  simp only [Option.some.injEq, Prod.mk.injEq] at H
  obtain ⟨rfl, rfl⟩ := H
  go_enter Try.func29, Try.ntmps29
  go_wp2_with (first | ((with_reducible refine gate_dst (N := 1) rfl ?_); refine bx 1 #[.slice A0_0 l0_0.length c0_0] 27 ?_; intro gb456 hg w4 hbox hb; have BK456 := am (hbox); have GW456 := am (gs hg : w.heap.size ≤ gb456); have GE456 := GW456; replace HB := am (below_step bw hb); clear hb hbox hg) | ((with_reducible refine gate_dst (N := 2) rfl ?_); refine bx 2 #[.slice none 0 0] 27 ?_; intro gb457 hg w5 hbox hb; have BK457 := am (hbox); have GW457 := am (gs hg : w.heap.size ≤ gb457); have GE457 := GW457; replace HB := am (below_step bw hb); have NB456_457 := nl hg BK456; have NB457_456 := ns NB456_457; replace BK456 := kb BK456 hb; clear hb hbox hg; have hnb6 := NB456_457.out; have hnc6 := NB457_456.out; have hcz7_0 := bc BK456 0 (.slice A0_0 l0_0.length c0_0); have hfz7_0 := blk_frozen BK456.out 0) | ((with_reducible refine gate_callee (f := 79) rfl ?_); refine gl (some 6) Try.func79 #[.agg #[.slice A0_0 l0_0.length c0_0]] ?_; (with_reducible refine (impl_Gaps.calls k _ _ l0_0 t458 _ ?side1 ?side2 A2.out).mono ?_); (case side1 => exact co (Kd.C_below HR0_0.out HB.out)); (case side2 => exact HC0_0.out); rintro e w8 ⟨v459, rfl, ho0, hb⟩; refine ⟨_, rfl, ?_⟩; have HO460 := am (Kd.R_lower ho0 (below_size bw)); replace BK456 := kb BK456 hb; replace BK457 := kb BK457 hb; replace HB := am (below_step bw hb); clear hb ho0; obtain ⟨Ao9, co9, eo9⟩ := Kd.R_slice HO460.out; subst eo9; have hcz10_0 := bc BK457 0 (.slice none 0 0); have hfz10_0 := blk_frozen BK457.out 0))
  refine bodyPost_ret (results_ct rfl _ _ gb457 27 #[.slice none 0 0] (0, 0) _ rfl (by (with_reducible repeat (first | refine blk_drewN ?_ _ | refine blk_drew ?_ | refine blk_alloc ?_ _)); refine blk_put (cs := #[.slice none 0 0]) ?_ 0 _ rfl; (with_reducible repeat (first | refine blk_drewN ?_ _ | refine blk_drew ?_ | refine blk_alloc ?_ _)); exact BK457.out) Try.underlying27 rfl (by kernel_rfl)) rfl ?_
  exact ⟨_, re, by first | exact Kd.R_nil _ _ _ _ _ | exact Kd.N_nil _ _ _ _ _ | exact Kd.V_nil _ _ _ _ _ | exact Kd.Q_nil _ _ _ _ _ | exact Kd.S_nil _ _ _ _ _, bw⟩
 rw [if_neg c3] at H
 have c3b0 : ((t458.length : Int) == 0) = false := beq_eq_false_iff_ne.mpr c3
 have c3b1 : ((t458.length : Int) != 0) = true := bne_iff_ne.mpr c3
 have c3b2 : ¬ (t458 = []) := fun h_ => c3 (by rw [h_]; rfl)
 obtain ⟨ji11, hji11⟩ : ∃ j_ : Int, (wrap64 ((t458.length : Int) - 1)) = j_ := ⟨_, rfl⟩
 replace H : (if 0 ≤ (ji11) then (if (ji11) ≤ (t458.length : Int) then ((impl_FromGaps.f k (t458.take ((ji11) : Int).toNat)).bind fun bt465 => (some (bt465.1, bt465.2))) else (none)) else (none)) = some (r1, r2) := by first | (rw [hji11] at H; exact H) | (simp only [hji11] at H ⊢; exact H)
 (try rw [hji11] at A2)
 have hji11w : (IntKind.i64.wrap ((t458.length : Int) - 1)) = ji11 := (i64_w _).trans hji11
 replace H := gp H; obtain ⟨c12, H⟩ := H
 have c12b0 := eq_true c12
 have c12b1 : decide (0 ≤ (ji11)) = true := decide_eq_true c12
 clear c12
 replace H := gp H; obtain ⟨c13, H⟩ := H
 have c13b0 := eq_true c13
 have c13b1 : decide ((ji11) ≤ (t458.length : Int)) = true := decide_eq_true c13
 clear c13
 obtain ⟨y461, hy461⟩ : ∃ y_ : List Int, y_ = (t458.take ((ji11) : Int).toNat) := ⟨_, rfl⟩
 replace H : ((impl_FromGaps.f k y461).bind fun bt465 => (some (bt465.1, bt465.2))) = some (r1, r2) := by first | (rw [hy461]; with_reducible first | exact H | exact bs H) | (with_reducible first | exact bs H | exact H) | (rw [hy461]; exact H) | exact H
 have Ny461 := am hy461
 clear hy461
 replace H := ga H; obtain ⟨⟨t465, t468⟩, A14, H⟩ := H
 replace H : (some (t465, t468)) = some (r1, r2) := H
 simp only [Option.some.injEq, Prod.mk.injEq] at H
 obtain ⟨rfl, rfl⟩ := H
 go_enter Try.func29, Try.ntmps29
 go_wp2_with (first | ((with_reducible refine gate_dst (N := 1) rfl ?_); refine bx 1 #[.slice A0_0 l0_0.length c0_0] 27 ?_; intro gb456 hg w15 hbox hb; have BK456 := am (hbox); have GW456 := am (gs hg : w.heap.size ≤ gb456); have GE456 := GW456; replace HB := am (below_step bw hb); clear hb hbox hg) | ((with_reducible refine gate_dst (N := 2) rfl ?_); refine bx 2 #[.slice none 0 0] 27 ?_; intro gb457 hg w16 hbox hb; have BK457 := am (hbox); have GW457 := am (gs hg : w.heap.size ≤ gb457); have GE457 := GW457; replace HB := am (below_step bw hb); have NB456_457 := nl hg BK456; have NB457_456 := ns NB456_457; replace BK456 := kb BK456 hb; clear hb hbox hg; have hnb17 := NB456_457.out; have hnc17 := NB457_456.out; have hcz18_0 := bc BK456 0 (.slice A0_0 l0_0.length c0_0); have hfz18_0 := blk_frozen BK456.out 0) | ((with_reducible refine gate_callee (f := 79) rfl ?_); refine gl (some 6) Try.func79 #[.agg #[.slice A0_0 l0_0.length c0_0]] ?_; (with_reducible refine (impl_Gaps.calls k _ _ l0_0 t458 _ ?side1 ?side2 A2.out).mono ?_); (case side1 => exact co (Kd.C_below HR0_0.out HB.out)); (case side2 => exact HC0_0.out); rintro e w19 ⟨v459, rfl, ho0, hb⟩; refine ⟨_, rfl, ?_⟩; have HO460 := am (Kd.R_lower ho0 (below_size bw)); replace BK456 := kb BK456 hb; replace BK457 := kb BK457 hb; replace HB := am (below_step bw hb); clear hb ho0; obtain ⟨Ao20, co20, eo20⟩ := Kd.R_slice HO460.out; subst eo20; have q21 : ((ji11) : Int) ≤ ((t458.length : Int) : Int) := of_decide_eq_true (by first | (with_reducible assumption) | assumption); obtain ⟨i021, hi021, _, hsz21, _⟩ := info_parts info3; have hroom21 : t458.length ≤ co20 := (Kd.R_reads' HO460.out).2.1; have hC21 : Kd.C (Kd.int .i64) _ Ao20 t458.length t458 := (Kd.R_reads' HO460.out).2.2; have hcut21 := cut_to (P := Try.prog) 22 3 .i64 Try.underlying22 hi021 Ao20 t458.length co20 (ji11) (of_decide_eq_true (by first | (with_reducible assumption) | assumption)) q21 hroom21; have hr21 := Kd.C_take (m := ((ji11) : Int).toNat) hC21 (by omega); have hy21 : y461.length = ((ji11) : Int).toNat := (by rw [Ny461.out, List.length_take]; omega); rw [← Ny461.out] at hr21; rw [← hy21] at hcut21; have HR464 := am hr21; have HC464 := am (show y461.length ≤ co20 from by omega); clear hr21 hC21 hroom21 hi021 hsz21; have KY21 := am hy21; clear hy21; have KL21 := am (show ((ji11) : Int).toNat ≤ t458.length from by omega); replace q21 := eq_true q21) | ((with_reducible refine gate_callee (f := 76) rfl ?_); refine gl (some 16) Try.func76 #[.slice Ao20 y461.length co20] ?_; (with_reducible refine (impl_FromGaps.calls k _ _ y461 t465 t468 _ ?side1 ?side2 A14.out).mono ?_); (case side1 => repeat (first | exact (by repeat (first | (with_reducible exact HR464.out) | (with_reducible refine Kd.C_alloc ?_ _) | (with_reducible refine Kd.C_drewN ?_ _) | (with_reducible refine Kd.C_drew ?_) | exact HR464.out)) | (with_reducible refine Kd.C_alloc ?_ _) | (with_reducible refine Kd.C_drewN ?_ _) | (with_reducible refine Kd.C_drew ?_))); (case side2 => exact HC464.out); rintro e w22 ⟨v466, rfl, ho0, hb⟩; refine ⟨_, rfl, ?_⟩; have HO467 := am (Kd.R_lower (Kd.R_new' ho0 (Kd.R_lt (ro HO460.out))) (below_size bw)); replace HO460 := am (Kd.R_elder' (ro HO460.out) (Kd.R_base ho0) hb); replace BK456 := kb BK456 hb; replace BK457 := kb BK457 hb; replace HR464 := am (Kd.C_below (by repeat (first | (with_reducible exact HR464.out) | (with_reducible refine Kd.C_alloc ?_ _) | (with_reducible refine Kd.C_drewN ?_ _) | (with_reducible refine Kd.C_drew ?_) | exact HR464.out)) hb); replace HB := am (below_step bw hb); clear hb ho0; obtain ⟨Ao23, co23, eo23⟩ := Kd.R_slice HO467.out; subst eo23; have hcz24_0 := bc BK457 0 (.slice none 0 0); have hfz24_0 := blk_frozen BK457.out 0))
 refine bodyPost_ret (results_ct rfl _ _ gb457 27 #[.slice Ao23 t465.length co23] (0, 0) _ rfl (by (with_reducible repeat (first | refine blk_drewN ?_ _ | refine blk_drew ?_ | refine blk_alloc ?_ _)); refine blk_put (cs := #[.slice none 0 0]) ?_ 0 _ rfl; (with_reducible repeat (first | refine blk_drewN ?_ _ | refine blk_drew ?_ | refine blk_alloc ?_ _)); exact BK457.out) Try.underlying27 rfl (by kernel_rfl)) rfl ?_
 exact ⟨_, by first | rfl | (simp [errW_none, errW_some] <;> rfl) | (simp only [← hji11]; first | rfl | (simp [errW_none, errW_some] <;> rfl)) | (simp [*, errW_none, errW_some] <;> rfl), by (with_reducible repeat (first | apply Kd.R_alloc | apply Kd.R_drewN | apply Kd.R_drew)); exact Kd.R_mono (Kd.R_far (p := ⟨gb457, 0, none⟩) (Kd.R_types HO467.out BK457.out (by decide)) (fun _ hk => hk.2) (.slice Ao23 t465.length co23)) (fun _ hk => trivial), bw⟩


/-! ### slices_Clone_int_int: function 84 -/
def slices_Clone_int_int.f (l0 : List Int) : Option (List Int) := if l0.length < 17592186044416 then some l0 else none
theorem slices_Clone_int_int.calls (A0 : Option Addr) (c0 : Nat) (l0 : List Int) (r : List Int) (w : World) (hr0 : Kd.C (Kd.int .i64) w A0 l0.length l0) (hc0 : l0.length ≤ c0) (h : slices_Clone_int_int.f l0 = some r) :
  Calls Try.prog 84 #[.slice A0 l0.length c0] w fun e w' => ∃ v0_ : Value, e = .returned (v0_) ∧ Kd.R (Kd.int .i64) 3 w' w.heap.size (fun _ => True) v0_ r ∧ Below w.heap.size w w' := by
 unfold slices_Clone_int_int.f at h
 by_cases c : l0.length < 17592186044416
 rotate_left
 ·rw [if_neg c] at h
  cases h
 rw [if_pos c] at h
 obtain rfl := Option.some.inj h
 rcases Nat.eq_zero_or_pos l0.length with e0 | hp
 ·have e1 : l0 = [] := List.eq_nil_of_length_eq_zero e0
  subst e1
  cases A0 with
  | none =>
   refine (Try.slices_Clone_int_nil 0 c0 w).mono ?_
   rintro e w' ⟨rfl, rfl⟩
   exact ⟨_, rfl, Kd.R_nil .., Below.refl _ _⟩
  | some a =>
   refine (Try.slices_Clone_int_zero a c0 w).mono ?_
   rintro e w' ⟨v', rfl, ho, _, hb⟩
   exact ⟨_, rfl, Kd.R_of_own ho (fun _ _ => trivial), hb⟩
 ·obtain ⟨ad, rfl, hc⟩ := hr0.2.2 hp
  obtain ⟨b, off, sp⟩ := ad
  have hcell : ∀ j (hj : j < l0.length), w.cell? (Addr.add ⟨b, off, sp⟩ j) = some (.int .i64 l0[j]) := fun j hj => by
   obtain ⟨c, _, e2, h2⟩ := hc j l0[j] (List.getElem?_eq_getElem hj)
   have := h2 0 (.int .i64 l0[j]) (by rw [show c = [.int .i64 l0[j]] from e2]; rfl)
   rwa [show (Kd.int .i64).sz = 1 from rfl, Nat.mul_one, Nat.add_zero] at this
  have hsp : sp = none := by
   have h1 := hcell 0 hp
   rw [Addr.add, if_pos rfl] at h1
   cases sp with
   | none => rfl
   | some x =>
    unfold World.cell? at h1
    simp only [Option.isSome_some, if_true] at h1
    split at h1 <;> cases h1
  subst hsp
  refine (Try.slices_Clone_int b off l0.length c0 l0 w (Nat.le_refl _) (by omega) (fun j hj => ?_)).mono ?_
  ·have := hcell j hj
   rw [Addr.add] at this
   rw [List.getD_eq_getElem?_getD, List.getElem?_eq_getElem hj, Option.getD_some]
   split at this
   ·rename_i hz
    subst hz
    exact this
   ·exact this
  ·rintro e w' ⟨v', rfl, ho, _, hb⟩
   rw [List.take_length] at ho
   exact ⟨_, rfl, Kd.R_of_own ho (fun _ _ => trivial), hb⟩


/-! ### impl_GenusOf: function 86 -/
def impl_GenusOf.f (k : Nat) (l0_0 : List Int) : Option (Int) := (impl_IsSemigroup.f k l0_0).bind fun t470 => (if t470 = true then ((impl_Gaps.f k l0_0).bind fun t471 => (some (t471.length : Int))) else (some (-1)))
set_option maxHeartbeats 8000000 in
set_option maxRecDepth 100000 in
theorem impl_GenusOf.calls (k : Nat) (A0_0 : Option Addr) (c0_0 : Nat) (l0_0 : List Int) (r : Int) (w : World) (hr0_0 : Kd.C (Kd.int .i64) w A0_0 l0_0.length l0_0) (hc0_0 : l0_0.length ≤ c0_0) (h : impl_GenusOf.f k l0_0 = some r) :
  Calls Try.prog 86 #[.agg #[.slice A0_0 l0_0.length c0_0]] w fun e w' => e = .returned (.int .i64 r) ∧ Below w.heap.size w w' := by
 have hu27 := Try.underlying27
 have HR0_0 := am hr0_0
 have HC0_0 := am hc0_0
 clear hr0_0 hc0_0
 have HB := am (Below.refl w.heap.size w)
 have H : ((impl_IsSemigroup.f k l0_0).bind fun t470 => (if t470 = true then ((impl_Gaps.f k l0_0).bind fun t471 => (some (t471.length : Int))) else (some (-1)))) = some r := h
 clear h
 replace H := ga H; obtain ⟨t470, A2, H⟩ := H
 replace H := gb H; obtain ⟨rfl, H⟩ | ⟨rfl, H⟩ := H
 ·replace H := ga H; obtain ⟨t471, A4, H⟩ := H
  obtain rfl := Option.some.inj H
  go_enter Try.func86, Try.ntmps86
  go_wp2_with (first | ((with_reducible refine gate_dst (N := 1) rfl ?_); refine bx 1 #[.slice A0_0 l0_0.length c0_0] 27 ?_; intro gb469 hg w5 hbox hb; have BK469 := am (hbox); have GW469 := am (gs hg : w.heap.size ≤ gb469); have GE469 := GW469; replace HB := am (below_step bw hb); clear hb hbox hg; have hcz6_0 := bc BK469 0 (.slice A0_0 l0_0.length c0_0); have hfz6_0 := blk_frozen BK469.out 0) | ((with_reducible refine gate_callee (f := 62) rfl ?_); refine gl (some 4) Try.func62 #[.agg #[.slice A0_0 l0_0.length c0_0]] ?_; (with_reducible refine (impl_IsSemigroup.calls k _ _ l0_0 true _ ?side1 ?side2 A2.out).mono ?_); (case side1 => exact co (Kd.C_below HR0_0.out HB.out)); (case side2 => exact HC0_0.out); rintro e w7 ⟨rfl, hb⟩; refine ⟨_, rfl, ?_⟩; replace BK469 := kb BK469 hb; replace HB := am (below_step bw hb); clear hb; have hcz8_0 := bc BK469 0 (.slice A0_0 l0_0.length c0_0); have hfz8_0 := blk_frozen BK469.out 0) | ((with_reducible refine gate_callee (f := 79) rfl ?_); refine gl (some 7) Try.func79 #[.agg #[.slice A0_0 l0_0.length c0_0]] ?_; (with_reducible refine (impl_Gaps.calls k _ _ l0_0 t471 _ ?side1 ?side2 A4.out).mono ?_); (case side1 => exact co (Kd.C_below HR0_0.out HB.out)); (case side2 => exact HC0_0.out); rintro e w9 ⟨v472, rfl, ho0, hb⟩; refine ⟨_, rfl, ?_⟩; have HO473 := am (Kd.R_lower ho0 (below_size bw)); replace BK469 := kb BK469 hb; replace HB := am (below_step bw hb); clear hb ho0; obtain ⟨Ao10, co10, eo10⟩ := Kd.R_slice HO473.out; subst eo10))
  go_ret
  exact ⟨re, bw⟩
 obtain rfl := Option.some.inj H
 go_enter Try.func86, Try.ntmps86
 go_wp2_with (first | ((with_reducible refine gate_dst (N := 1) rfl ?_); refine bx 1 #[.slice A0_0 l0_0.length c0_0] 27 ?_; intro gb469 hg w11 hbox hb; have BK469 := am (hbox); have GW469 := am (gs hg : w.heap.size ≤ gb469); have GE469 := GW469; replace HB := am (below_step bw hb); clear hb hbox hg; have hcz12_0 := bc BK469 0 (.slice A0_0 l0_0.length c0_0); have hfz12_0 := blk_frozen BK469.out 0) | ((with_reducible refine gate_callee (f := 62) rfl ?_); refine gl (some 4) Try.func62 #[.agg #[.slice A0_0 l0_0.length c0_0]] ?_; (with_reducible refine (impl_IsSemigroup.calls k _ _ l0_0 false _ ?side1 ?side2 A2.out).mono ?_); (case side1 => exact co (Kd.C_below HR0_0.out HB.out)); (case side2 => exact HC0_0.out); rintro e w13 ⟨rfl, hb⟩; refine ⟨_, rfl, ?_⟩; replace BK469 := kb BK469 hb; replace HB := am (below_step bw hb); clear hb))
 go_ret
 exact ⟨re, bw⟩


/-! ### impl_Semigroup: function 87 -/
def sl3 (t : Option Addr × Nat × Nat) : Value := .slice t.1 t.2.1 t.2.2
theorem sl3_of : ∀ l : List Value, (∀ x ∈ l, ∃ t, x = sl3 t) → ∃ zs : List (Option Addr × Nat × Nat), l = zs.map sl3
 | [], _ => ⟨[], rfl⟩
 | x :: r, h => by
  obtain ⟨t, ht⟩ := h x List.mem_cons_self
  obtain ⟨zs, hz⟩ := sl3_of r (fun y hy => h y (List.mem_cons_of_mem _ hy))
  exact ⟨t :: zs, by rw [ht, hz]; rfl⟩
set_option maxHeartbeats 3200000 in
set_option maxRecDepth 1000000 in
theorem impl_Semigroup.arr (blk cap : Nat) (d : Array (Option Addr × Nat × Nat)) (w : World) (hH : Go.Sort.Holds sl3 w blk 0 d) (hsz : d.size ≤ 9223372036854775807) :
  Calls Try.prog 87 #[.slice (some ⟨blk, 0, none⟩) d.size cap] w fun e w' => e = .returned (.tuple #[]) ∧ ∃ n, w' = Go.Sort.putRow sl3 (Go.Sort.ahead w n) blk 0 d.reverse := by
 have hu27 := Try.underlying27
 go_enter Try.func87, Try.ntmps87
 go_wp2
 go_loopg [2, 3] d.size (fun k s2 s3 wr => ∃ (i jn : Nat) (jz : Int) (dk : Array (Option Addr × Nat × Nat)) (n : Nat), s2 = .int .i64 i ∧ s3 = .int .i64 jz ∧ ((i : Int) < jz → jz = jn ∧ jn < d.size) ∧ (¬ (i : Int) < jz → ¬ i < jn) ∧ jn - i ≤ k ∧ dk.size = d.size ∧ wr = Go.Sort.putRow sl3 (Go.Sort.ahead w n) blk 0 dk ∧ Go.Sort.reverseLoop i jn dk = Go.Sort.reverseLoop 0 (d.size - 1) d)
 case atStart => exact ⟨0, d.size - 1, (d.size : Int) - 1, d, 0, rfl, rfl, fun h => ⟨by omega, by omega⟩, fun h => by omega, by omega, rfl, (Go.Sort.putRow_self sl3 w blk 0 d hH).symm, rfl⟩
 case round =>
  obtain ⟨i, jn, jz, dk, n, rfl, rfl, h1, h2, hk, hds, hwr, heq⟩ := hrel
  by_cases hlt : (i : Int) < jz
  ·obtain ⟨rfl, hjn⟩ := h1 hlt
   have hij : i < jn := by omega
   have hHk : Go.Sort.Holds sl3 wr blk 0 dk := by rw [hwr]; exact Go.Sort.holds_putRow sl3 _ blk 0 d dk (Go.Sort.holds_ahead sl3 w n blk 0 d hH) hds
   obtain ⟨ci, fi⟩ := hHk i (by omega)
   obtain ⟨cj, fj⟩ := hHk jn (by omega)
   have A : Aside (wr = Go.Sort.putRow sl3 (Go.Sort.ahead w n) blk 0 dk) := hwr
   clear hwr hHk hH h1 h2
   rw [Nat.zero_add] at ci fi cj fj
   generalize hyi : dk[i]! = yi at ci
   generalize hyj : dk[jn]! = yj at cj
   obtain ⟨Ai, ni, qi⟩ := yi
   obtain ⟨Aj, nj, qj⟩ := yj
   replace ci : wr.cell? ⟨blk, i, none⟩ = some (.slice Ai ni qi) := ci
   replace cj : wr.cell? ⟨blk, jn, none⟩ = some (.slice Aj nj qj) := cj
   have B : Aside (dk[i]! = (Ai, ni, qi) ∧ dk[jn]! = (Aj, nj, qj)) := ⟨hyi, hyj⟩
   clear hyi hyj
   have hid : i < d.size := by omega
   go_wp2_with fail
   go_region
   go_wp2
   go_roundg (jn - 1 - (i + 1))
   case measure => omega
   case rel =>
    have hsw := Go.Proofs.swap_world sl3 (x := .slice Aj nj qj) (y := .slice Ai ni qi) (by omega : i < dk.size) (by omega : jn < dk.size) A.out (by rw [B.out.2]; rfl) (by rw [B.out.1]; rfl)
    rw [Nat.zero_add, Nat.zero_add] at hsw
    rw [Go.Sort.reverseLoop, if_pos hij] at heq
    exact ⟨i + 1, jn - 1, (jn : Int) - 1, Go.Sort.swp dk i jn, n + 1, by simp, rfl, fun h => ⟨by omega, by omega⟩, fun h => by omega, Nat.le_refl _, by rw [Go.Sort.size_swp]; exact hds, hsw, heq⟩
  ·have hnot := h2 hlt
   go_wp2
   go_end0
   refine ⟨rfl, n, ?_⟩
   rw [Go.Sort.reverseLoop, if_neg hnot] at heq
   rw [← Go.Lib.reverseLoop_reverse, ← heq]
   try exact hwr
set_option maxHeartbeats 3200000 in
theorem impl_Semigroup.zero (cap : Nat) (w : World) : Calls Try.prog 87 #[.slice none 0 cap] w fun e w' => e = .returned (.tuple #[]) ∧ w' = w := by
 go_enter Try.func87, Try.ntmps87
 go_wp2
 go_loopg [2, 3] 0 (fun _ s2 s3 wr => s2 = .int .i64 0 ∧ s3 = .int .i64 (-1) ∧ wr = w)
 case atStart => exact ⟨rfl, rfl, rfl⟩
 case round =>
  obtain ⟨rfl, rfl, rfl⟩ := hrel
  go_wp2
  go_end0
  exact ⟨rfl, rfl⟩
def impl_Semigroup.f (l0 : List S27) : Option (List S27) := if l0.length < 4611686018427387904 then some l0.reverse else none
theorem impl_Semigroup.calls (P0_ : Nat → Prop) (u9000_ : Value) (l0 : List S27) (r : List S27) (w0 w : World) (hB : Below w0.heap.size w0 w) (ho0 : Kd.S k27 27 w w0.heap.size P0_ u9000_ l0) (h : impl_Semigroup.f l0 = some r) :
  Calls Try.prog 87 #[u9000_] w fun e w' => e = .returned (.tuple #[]) ∧ Kd.S k27 27 w' w0.heap.size (fun k_ => (P0_ k_ ∨ w.heap.size ≤ k_)) u9000_ r ∧ Below w0.heap.size w0 w' ∧ Kept w w' (fun k_ => P0_ k_) := by
 unfold impl_Semigroup.f at h
 by_cases c : l0.length < 4611686018427387904
 rotate_left
 ·rw [if_neg c] at h
  cases h
 rw [if_pos c] at h
 obtain rfl := Option.some.inj h
 by_cases hv : u9000_ = .slice none 0 0
 ·subst hv
  have e0 : l0 = [] := List.eq_nil_of_length_eq_zero (Kd.S_reads' ho0).1.symm
  subst e0
  refine (impl_Semigroup.zero 0 w).mono ?_
  rintro e w' ⟨rfl, rfl⟩
  exact ⟨rfl, Kd.S_mono ho0 (fun k hk => .inl hk), hB, Kept.refl _ _⟩
 obtain ⟨f, h0, inner, ho, hr⟩ := ho0
 have hlz : l0.zipIdx.length = l0.length := List.length_zipIdx ..
 rw [hlz] at ho
 have hil : inner.length = l0.length := by rw [ho.1]; exact Nat.mul_one _
 have cell : ∀ j (hj : j < l0.length), ∃ t, inner[j]? = some (sl3 t) := fun j hj => by
  have h1 := hr.2 j (l0[j], j) (by rw [List.getElem?_zipIdx, List.getElem?_eq_getElem hj, Option.map_some, Nat.zero_add])
  obtain ⟨v0, e0, hR⟩ := k27_openM h1
  obtain ⟨A, q, rfl⟩ := Kd.R_slice hR
  refine ⟨(A, l0[j].f0.length, q), ?_⟩
  have e1 : ((inner.drop (j * 1)).take 1)[0]? = some (Value.slice A l0[j].f0.length q) := by
   have e2 : (inner.drop (j * 1)).take 1 = [Value.slice A l0[j].f0.length q] := e0
   rw [e2]
   rfl
  rw [List.getElem?_take_of_lt (by omega), List.getElem?_drop, Nat.mul_one, Nat.add_zero] at e1
  exact e1
 obtain ⟨zs, rfl⟩ := sl3_of inner (fun x hx => by
  obtain ⟨j, hj, rfl⟩ := List.getElem_of_mem hx
  obtain ⟨t, ht⟩ := cell j (by omega)
  rw [List.getElem?_eq_getElem hj] at ht
  exact ⟨t, Option.some.inj ht⟩)
 rw [List.length_map] at hil
 obtain ⟨g, cap, rfl, hb, hg, hn, hm, hz, hH⟩ := Go.Lib.holds_of_ownsRow ho hv
 have hcall := impl_Semigroup.arr g cap zs.toArray w hH (by simp; omega)
 rw [show zs.toArray.size = l0.length from by simp [hil]] at hcall
 refine hcall.mono ?_
 rintro e w' ⟨rfl, q, hw⟩
 rw [show zs.toArray.reverse = zs.reverse.toArray from by simp] at hw
 subst hw
 have hown := Go.Lib.ownsRow_putRow (q := q) (ys := zs.reverse) ho (by simp [hil]) (Nat.le_refl _)
 rw [List.take_of_length_le (by simp [hil])] at hown
 have hblk : ∀ k, k ≠ g → (Go.Sort.putRow sl3 (Go.Sort.ahead w q) g 0 zs.reverse.toArray).heap[k]? = w.heap[k]? := fun k hk => by
  simp [Go.Sort.putRow, Go.Sort.mapBlock, Go.Sort.ahead, Array.getElem?_modify, show g ≠ k from fun e => hk e.symm]
 have hP : P0_ g := h0 g rfl
 refine ⟨rfl, ⟨fun k => l0.length - 1 - f k, fun k hk => .inl (h0 k hk), zs.reverse.map sl3, ?_, ?_, ?_⟩, Go.Lib.below_putRow hB hb, ?_, ?_⟩
 ·rw [List.length_zipIdx, List.length_reverse]
  exact hown
 ·rw [List.length_zipIdx, List.length_reverse, List.length_map, List.length_reverse, hil]
  exact (Nat.mul_one _).symm
 ·intro j p hp
  rw [List.getElem?_zipIdx] at hp
  obtain ⟨x, hx, rfl⟩ := Option.map_eq_some_iff.1 hp
  have hj : j < l0.length := by
   have := (List.getElem?_eq_some_iff.1 hx).1
   simpa using this
  rw [List.getElem?_reverse hj] at hx
  have h1 := hr.2 (l0.length - 1 - j) (x, l0.length - 1 - j) (by rw [List.getElem?_zipIdx, hx, Option.map_some, Nat.zero_add])
  have h2 : k27.M w w0.heap.size (fun k => (P0_ k ∧ some k ≠ (Value.slice (some ⟨g, 0, none⟩) l0.length cap).ownBlock) ∧ f k = l0.length - 1 - j) x (((zs.map sl3).drop ((l0.length - 1 - j) * 1)).take 1) := h1
  have ec : ((zs.reverse.map sl3).drop (j * 1)).take 1 = ((zs.map sl3).drop ((l0.length - 1 - j) * 1)).take 1 := by
   apply List.ext_getElem?
   intro m
   by_cases hm0 : m = 0
   ·subst hm0
    rw [List.getElem?_take_of_lt (by omega), List.getElem?_take_of_lt (by omega), List.getElem?_drop, List.getElem?_drop, Nat.mul_one, Nat.mul_one, Nat.add_zero, Nat.add_zero, List.map_reverse, List.getElem?_reverse (by rw [List.length_map]; omega), List.length_map, hil]
   ·rw [List.getElem?_eq_none (by rw [List.length_take]; omega), List.getElem?_eq_none (by rw [List.length_take]; omega)]
  show k27.M _ w0.heap.size (fun k => ((P0_ k ∨ w.heap.size ≤ k) ∧ some k ≠ _) ∧ l0.length - 1 - f k = 0 + j) x (((zs.reverse.map sl3).drop (j * 1)).take 1)
  rw [ec]
  refine k27.M_mono (fun k hk => ?_) (k27.M_move (fun k hk => hblk k (fun e => hk.1.2 (by rw [e]; rfl))) h2)
  exact ⟨⟨.inl hk.1.1, hk.1.2⟩, by omega⟩
 ·simp [Go.Sort.putRow, Go.Sort.mapBlock, Go.Sort.ahead]
 ·intro k hk hS
  exact hblk k (fun e => hS (e ▸ hP))


/-! ### impl_PathTo: function 38 -/
def impl_PathTo.l0 : Nat → List S27 → List Int → Option (List (S27) × Bool)
 | 0, _, _ => none
 | k + 1, x4, l => ((impl_GenusOf.f k l).bind fun t => (if 0 < t then ((impl_ParentOf.f k l).bind fun bt => (if bt.2 = true then (if x4.length < 5864062014805 then (impl_PathTo.l0 k (x4 ++ [(⟨bt.1⟩ : S27)]) bt.1) else none) else (some (([] : List (S27)), false)))) else ((impl_Semigroup.f x4).bind fun y => some (y, true))))
def impl_PathTo.f (k : Nat) (l0_0 : List Int) : Option (List (S27) × Bool) := (impl_IsSemigroup.f k l0_0).bind fun t => (if t = true then ((slices_Clone_int_int.f l0_0).bind fun c => impl_PathTo.l0 k [(⟨c⟩ : S27)] l0_0) else (some (([] : List (S27)), false)))
set_option maxHeartbeats 8000000 in
set_option maxRecDepth 100000 in
theorem impl_PathTo.calls (k : Nat) (A0_0 : Option Addr) (c0_0 : Nat) (l0_0 : List Int) (r1 : List (S27)) (r2 : Bool) (w : World) (hr0_0 : Kd.C (Kd.int .i64) w A0_0 l0_0.length l0_0) (hc0_0 : l0_0.length ≤ c0_0) (h : impl_PathTo.f k l0_0 = some (r1, r2)) :
  Calls Try.prog 38 #[.agg #[.slice A0_0 l0_0.length c0_0]] w fun e w' => ∃ v0_ : Value, e = .returned (.tuple #[v0_, .bool r2]) ∧ Kd.S k27 27 w' w.heap.size (fun _ => True) v0_ r1 ∧ Below w.heap.size w w' := by
 have hu27 := Try.underlying27
 have HR0_0 := am hr0_0
 have HC0_0 := am hc0_0
 clear hr0_0 hc0_0
 have HB := am (Below.refl w.heap.size w)
 have H : ((impl_IsSemigroup.f k l0_0).bind fun t => (if t = true then ((slices_Clone_int_int.f l0_0).bind fun c => impl_PathTo.l0 k [(⟨c⟩ : S27)] l0_0) else (some (([] : List (S27)), false)))) = some (r1, r2) := h
 clear h
 replace H := ga H; obtain ⟨t0, A0, H⟩ := H
 replace H := gb H; obtain ⟨rfl, H⟩ | ⟨rfl, H⟩ := H
 rotate_left
 ·simp only [Option.some.injEq, Prod.mk.injEq] at H
  obtain ⟨rfl, rfl⟩ := H
  go_enter Try.func38, Try.ntmps38
  go_wp2_with (first | ((with_reducible refine gate_dst (N := 1) rfl ?_); refine bx 1 #[.slice A0_0 l0_0.length c0_0] 27 ?_; intro gb1 hg w3 hbox hb; have BK1 := am (hbox); have GE1 := am (gs hg : w.heap.size ≤ gb1); replace HB := am (below_step bw hb); clear hb hbox hg; have hcz_ := bc BK1 0 (.slice A0_0 l0_0.length c0_0); have hfz_ := blk_frozen BK1.out 0) | ((with_reducible refine gate_callee (f := 62) rfl ?_); refine gl (some 8) Try.func62 #[.agg #[.slice A0_0 l0_0.length c0_0]] ?_; (with_reducible refine (impl_IsSemigroup.calls k _ _ l0_0 false _ ?side1 ?side2 A0.out).mono ?_); (case side1 => exact co (Kd.C_below HR0_0.out HB.out)); (case side2 => exact HC0_0.out); rintro e w5 ⟨rfl, hb⟩; refine ⟨_, rfl, ?_⟩; clear hcz_ hfz_; replace HB := am (below_step bw hb); clear hb BK1))
  go_ret2
  exact ⟨_, re, Kd.S_nil _ _ _ _ _, bw⟩
 replace H := ga H; obtain ⟨cl, Ac, H⟩ := H
 obtain ⟨y0, hy0⟩ : ∃ y_ : List (S27), y_ = [(⟨cl⟩ : S27)] := ⟨_, rfl⟩
 rw [← hy0] at H
 have Ny0 := am hy0
 clear hy0
 have H' := am H
 clear H
 go_enter Try.func38, Try.ntmps38
 go_wp2_with (first | ((with_reducible refine gate_dst (N := 1) rfl ?_); refine bx 1 #[.slice A0_0 l0_0.length c0_0] 27 ?_; intro gb1 hg w3 hbox hb; have BK1 := am (hbox); have GE1 := am (gs hg : w.heap.size ≤ gb1); replace HB := am (below_step bw hb); clear hb hbox hg; have hcz_ := bc BK1 0 (.slice A0_0 l0_0.length c0_0); have hfz_ := blk_frozen BK1.out 0) | ((with_reducible refine gate_callee (f := 62) rfl ?_); refine gl (some 8) Try.func62 #[.agg #[.slice A0_0 l0_0.length c0_0]] ?_; (with_reducible refine (impl_IsSemigroup.calls k _ _ l0_0 true _ ?side1 ?side2 A0.out).mono ?_); (case side1 => exact co (Kd.C_below HR0_0.out HB.out)); (case side2 => exact HC0_0.out); rintro e w5 ⟨rfl, hb⟩; refine ⟨_, rfl, ?_⟩; clear hcz_ hfz_; replace BK1 := kb BK1 hb; replace HB := am (below_step bw hb); clear hb; have hcz_ := bc BK1 0 (.slice A0_0 l0_0.length c0_0); have hfz_ := blk_frozen BK1.out 0) | ((with_reducible refine gate_callee (f := 84) rfl ?_); refine gl (some 12) Try.func84 #[.slice A0_0 l0_0.length c0_0] ?_; (with_reducible refine (slices_Clone_int_int.calls _ _ l0_0 cl _ ?side1 ?side2 Ac.out).mono ?_); (case side1 => exact co (Kd.C_below HR0_0.out HB.out)); (case side2 => exact HC0_0.out); rintro e w7 ⟨v1, rfl, ho0, hb⟩; refine ⟨_, rfl, ?_⟩; clear hcz_ hfz_; have HT := am (Kd.R_lower ho0 (below_size bw)); replace BK1 := kb BK1 hb; replace HB := am (below_step bw hb); clear hb ho0; obtain ⟨Ao, co_, eo⟩ := Kd.R_slice HT.out; subst eo) | ((with_reducible refine gate_dst (N := 14) rfl ?_); refine Kd.S_lits k27 (w0 := w) w.heap.size 27 ?hg (N := 14) ?hd (xs := [(⟨cl⟩ : S27)]) (inner := [.slice Ao cl.length co_]) (ok := fun k_ => k_ ≠ gb1) (fun j k_ => j = 0 ∧ k_ ≠ gb1) ?hr ?hl ?hrep ?hap ?hok ?hfr bw (below_size bw) (by simp) ?_; (case hd => rfl); (case hg => rfl); (case hr => first | (go_simp; done) | (go_simp; rfl)); (case hl => rfl); (case hrep => (intro j x hj; cases j with | zero => (obtain rfl : (⟨cl⟩ : S27) = x := (by simpa using hj); exact k27_mkM _ _ _ (⟨cl⟩ : S27) (Kd.R_mono (Kd.R_types HT.out BK1.out (by decide)) (fun _ hk => ⟨rfl, hk.2⟩))) | succ j => simp at hj)); (case hap => exact fun i j k_ h1 h2 => h1.1.trans h2.1.symm); (case hok => exact fun j k_ h1 => h1.2); (case hfr => exact Kd.freshB (g := gb1) (o := .cells #[.slice A0_0 l0_0.length c0_0] 27 (0, 0)) (bo BK1.out) _ (Nat.le_refl _)); intro v2 w9 ho hb hg hnew; rw [← Ny0.out] at ho; have HO1 := am ho; replace BK1 := am (blk_grown (g := gb1) (o := .cells #[.slice A0_0 l0_0.length c0_0] 27 (0, 0)) (bo BK1.out) hg (by simp)); replace HB := am hb; clear HT ho hb hg hnew))
 go_loopg [4] k (fun kq v4 w' => ∃ (x4_1 : List (S27)) (A : Option Addr) (c : Nat) (l : List Int), Aside0 (impl_PathTo.l0 kq x4_1 l = some (r1, r2)) ∧ Aside0 (kq ≤ k) ∧ Aside0 (Kd.S k27 27 w' w.heap.size (fun k_ => k_ ≠ gb1) v4 x4_1) ∧ Aside0 (w'.heap[gb1]? = some (.cells #[(.slice A l.length c)] 27 (0, 0))) ∧ Aside0 (Kd.C (Kd.int .i64) w' A l.length l) ∧ Aside0 (l.length ≤ c) ∧ Aside0 (Below w.heap.size w w'))
 case atStart => exact ⟨y0, A0_0, c0_0, l0_0, H', ⟨Nat.le_refl _⟩, ⟨so HO1.out⟩, ⟨bo BK1.out⟩, ⟨co (Kd.C_below HR0_0.out HB.out)⟩, HC0_0, ⟨bw⟩⟩
 case round =>
  clear H'
  try clear hcz_
  try clear hfz_
  obtain ⟨x4_1, A, c, l, HA, HK1, HO_4, BK1, HRs, HCs, HB⟩ := hrel
  cases gk with
  | zero => exact absurd HA.out (by simp [impl_PathTo.l0])
  | succ k1 =>
   have H := HA.out
   clear HA
   simp only [impl_PathTo.l0] at H
   replace H := ga H; obtain ⟨t1, A1, H⟩ := H
   have hcz_ := bc BK1 0 (.slice A l.length c)
   have hfz_ := blk_frozen BK1.out 0
   replace H := gi H; obtain ⟨c1, H⟩ | ⟨c1, H⟩ := H
   ·replace H := ga H; obtain ⟨⟨t2, b2⟩, A2, H⟩ := H
    replace H : (if b2 = true then (if x4_1.length < 5864062014805 then (impl_PathTo.l0 k1 (x4_1 ++ [(⟨t2⟩ : S27)]) t2) else none) else (some (([] : List (S27)), false))) = some (r1, r2) := H
    replace H := gb H; obtain ⟨rfl, H⟩ | ⟨rfl, H⟩ := H
    ·by_cases c2 : x4_1.length < 5864062014805
     rotate_left
     ·rw [if_neg c2] at H
      exact absurd H (by simp)
     rw [if_pos c2] at H
     have LM := am c2
     clear c2
     obtain ⟨y, hy⟩ : ∃ y_ : List (S27), y_ = x4_1 ++ [(⟨t2⟩ : S27)] := ⟨_, rfl⟩
     rw [← hy] at H
     have Ny := am hy
     clear hy
     have H' := am H
     clear H
     go_wp2_with (first | ((with_reducible refine gate_callee (f := 86) rfl ?_); refine gl (some 16) Try.func86 #[.agg #[.slice A l.length c]] ?_; (with_reducible refine (impl_GenusOf.calls k1 _ _ l t1 _ ?side1 ?side2 A1.out).mono ?_); (case side1 => exact co HRs.out); (case side2 => exact HCs.out); rintro e w7 ⟨rfl, hb⟩; refine ⟨_, rfl, ?_⟩; clear hcz_ hfz_; replace HRs := am (Kd.C_below (co HRs.out) hb); replace HO_4 := am (Kd.S_below (so HO_4.out) hb); replace BK1 := kb BK1 hb; replace HB := am (below_step bw hb); clear hb; have hcz_ := bc BK1 0 (.slice A l.length c); have hfz_ := blk_frozen BK1.out 0) | ((with_reducible refine gate_callee (f := 29) rfl ?_); refine gl (some 20) Try.func29 #[.agg #[.slice A l.length c]] ?_; (with_reducible refine (impl_ParentOf.calls k1 _ _ l t2 true _ ?side1 ?side2 A2.out).mono ?_); (case side1 => exact co HRs.out); (case side2 => exact HCs.out); rintro e w9 ⟨v2, rfl, ho0, hb⟩; refine ⟨_, rfl, ?_⟩; clear hcz_ hfz_ HRs; replace HO_4 := am (Kd.S_elder' (so HO_4.out) (Kd.R_base ho0) hb); have HT := am (Kd.R_lower ho0 (below_size bw)); replace BK1 := kb BK1 hb; replace HB := am (below_step bw hb); clear hb ho0) | ((with_reducible refine gate_dst (N := 5) rfl ?_); refine bx 5 #[.slice none 0 0] 27 ?_; intro gb2 hg w11 hbox hb; replace HO_4 := am (Kd.S_below (Kd.S_elderB (so HO_4.out) gb2 (Nat.le_of_eq hg.symm)) hb); replace HT := rK HT hb; have BK2 := am (hbox); have GE2 := am (gs hg : w.heap.size ≤ gb2); replace HB := am (below_step bw hb); have NB12 := nl hg BK1; have NB21 := ns NB12; replace BK1 := kb BK1 hb; clear hb hbox hg; obtain ⟨Ao, co_, eo⟩ := Kd.R_slice HT.out; subst eo; have hnb_ := NB21.out; have hnc_ := NB12.out; have hcy_ := bc BK2 0 (.slice none 0 0); have hfy_ := blk_frozen BK2.out 0) | ((with_reducible refine gate_store (t := 27) (p := 5) rfl ?_); refine store_event (t := 27) (p := 5) (v := ?vo_w13) (w1 := (w11.setCell ⟨gb2, 0, none⟩ (.slice Ao t2.length co_))) ?hg ?ho ?hn ?hr ?_; (case ho => rfl); (case hg => rfl); (case hn => rfl); (case hr => first | (go_simp; done) | (go_simp; rfl)); intro w13 hw; have n0_ : Aside0 (Kd.S k27 27 w13 w.heap.size (fun k_ => some k_ ≠ (.slice Ao t2.length co_ : Value).ownBlock ∧ k_ ≠ gb1 ∧ k_ ≠ gb2) u4 x4_1) := ⟨(by rw [hw]; exact Kd.S_mono (Kd.S_far (p := ⟨gb2, 0, none⟩) (Kd.S_mono HO_4.out (fun k_ hk => (⟨hk, hk.2⟩ : _ ∧ k_ ≠ gb2))) (fun _ hk => hk.2) (.slice Ao t2.length co_)) (fun _ hk => ⟨hk.1.1.2, ⟨hk.1.1.1, hk.1.2⟩⟩))⟩; have n1_ : Aside0 (Kd.R (Kd.int .i64) 3 w13 w.heap.size (fun _ => True) (.slice Ao t2.length co_) t2) := ⟨(by rw [hw]; exact Kd.R_mono (Kd.R_far (p := ⟨gb2, 0, none⟩) (Kd.R_types HT.out BK2.out (by decide)) (fun _ hk => hk.2) (.slice Ao t2.length co_)) (fun _ hk => trivial))⟩; have n2_ : Aside0 (w13.heap[gb1]? = some (.cells #[.slice A l.length c] 27 (0, 0))) := ⟨(by rw [hw]; exact (bf BK1.out))⟩; have n3_ : Aside0 (w13.heap[gb2]? = some (.cells #[.slice Ao t2.length co_] 27 (0, 0))) := ⟨(by rw [hw]; exact blk_put (cs := #[.slice none 0 0]) BK2.out 0 _ rfl)⟩; have n4_ : Aside0 (Below w.heap.size w w13) := ⟨(by rw [hw]; exact bw)⟩; clear hw HO_4 HT BK1 BK2 HB hcy_ hfy_; have HO_4 := n0_; have HT := n1_; have BK1 := n2_; have BK2 := n3_; have HB := n4_; clear n0_ n1_ n2_ n3_ n4_; have hcy_ := bc BK2 0 (.slice Ao t2.length co_); have hfy_ := blk_frozen BK2.out 0; have hcz_ := bc BK1 0 (.slice A l.length c); have hfz_ := blk_frozen BK1.out 0) | ((with_reducible refine gate_builtin (b := .append) (xs := #[.tmp 25, .tmp 27]) rfl ?_); at_builtin; refine Kd.S_append k27 (w0 := w) w.heap.size rfl (.tmp 25) (.tmp 27) 44 27 (.agg #[(.slice none 0 0)]) 24 rfl Try.underlying44 info27 rfl (by decide) (by omega) u4 x4_1 (⟨t2⟩ : S27) [.slice Ao t2.length co_] (fun k_ => k_ ≠ gb1 ∧ k_ ≠ gb2) (fun k_ => some k_ = (.slice Ao t2.length co_ : Value).ownBlock) rfl rfl ?aP (fun k_ hk_ => ((Kd.R_mono (ok' := fun k_ => ((fun k_ => k_ ≠ gb1 ∧ k_ ≠ gb2)) k_ ∧ some k_ ≠ (u4 : Value).ownBlock) (Kd.R_types (Kd.R_types (Kd.R_apart' (HT.out) (Kd.S_typed HO_4.out) (by decide)) BK1.out (by decide)) BK2.out (by decide)) (fun k_ hk => ⟨⟨hk.1.2, hk.2⟩, hk.1.1.2⟩))).1 k_ hk_.symm) ?aF ?aO ?aB ?aS ?aL ?_; (case aP => exact k27_mkM _ _ _ (⟨t2⟩ : S27) (Kd.R_mono (Kd.R_tight rfl (Kd.R_mono (ok' := fun k_ => ((fun k_ => k_ ≠ gb1 ∧ k_ ≠ gb2)) k_ ∧ some k_ ≠ (u4 : Value).ownBlock) (Kd.R_types (Kd.R_types (Kd.R_apart' (HT.out) (Kd.S_typed HO_4.out) (by decide)) BK1.out (by decide)) BK2.out (by decide)) (fun k_ hk => ⟨⟨hk.1.2, hk.2⟩, hk.1.1.2⟩))) (fun _ h_ => h_))); (case aB => exact bw); (case aF => exact (fun k_ hk => ⟨Kd.freshB (g := gb1) (o := .cells #[.slice A l.length c] 27 (0, 0)) (bo BK1.out) k_ hk, Kd.freshB (g := gb2) (o := .cells #[.slice Ao t2.length co_] 27 (0, 0)) (bo BK2.out) k_ hk⟩)); (case aO => exact (by (with_reducible repeat (first | apply Kd.S_alloc | apply Kd.S_drewN | apply Kd.S_drew)); exact Kd.S_mono HO_4.out (fun k_ hk => ⟨⟨hk.2.1, hk.2.2⟩, fun e_ => hk.1 e_⟩))); (case aS => exact (below_size bw)); (case aL => have := LM.out; omega); intro v5 w15 ho hb hg hat; rw [← Ny.out] at ho; clear hcz_ hfz_ hcy_ hfy_; replace HT := am (Kd.R_over' (ro HT.out) (Kd.S_typed (so HO_4.out)) (by decide) hg); replace BK1 := am (blk_grown (g := gb1) (o := .cells #[.slice A l.length c] 27 (0, 0)) (bo BK1.out) hg (Kd.S_away HO_4.out (fun _ hk => by first | exact hk.2.1 | simp_all))); replace BK2 := am (blk_grown (g := gb2) (o := .cells #[.slice Ao t2.length co_] 27 (0, 0)) (bo BK2.out) hg (Kd.S_away HO_4.out (fun _ hk => by first | exact hk.2.2 | simp_all))); replace HB := am (hb); have HO5 := am (ho); clear HO_4 ho hb hg hat; have hcy_ := bc BK2 0 (.slice Ao t2.length co_); have hfy_ := blk_frozen BK2.out 0; have hcz_ := bc BK1 0 (.slice A l.length c); have hfz_ := blk_frozen BK1.out 0))
     go_roundg k1
     case measure => have := HK1.out; omega
     case rel => exact ⟨y, Ao, co_, t2, H', ⟨by have := HK1.out; omega⟩, ⟨Kd.S_mono (Kd.S_far (p := ⟨gb1, 0, none⟩) HO5.out (fun _ hk => hk.1) _) (fun _ hk => hk.1)⟩, ⟨blk_put (cs := #[.slice A l.length c]) (bo BK1.out) 0 _ rfl⟩, ⟨(Kd.R_reads' (Kd.R_far (p := ⟨gb1, 0, none⟩) (Kd.R_types (ro HT.out) (bo BK1.out) (by decide)) (fun _ hk => hk.2) _)).2.2⟩, ⟨(Kd.R_reads' HT.out).2.1⟩, ⟨bw⟩⟩
    ·simp only [Option.some.injEq, Prod.mk.injEq] at H
     obtain ⟨rfl, rfl⟩ := H
     go_wp2_with (first | ((with_reducible refine gate_callee (f := 86) rfl ?_); refine gl (some 16) Try.func86 #[.agg #[.slice A l.length c]] ?_; (with_reducible refine (impl_GenusOf.calls k1 _ _ l t1 _ ?side1 ?side2 A1.out).mono ?_); (case side1 => exact co HRs.out); (case side2 => exact HCs.out); rintro e w7 ⟨rfl, hb⟩; refine ⟨_, rfl, ?_⟩; clear hcz_ hfz_; replace HRs := am (Kd.C_below (co HRs.out) hb); replace HO_4 := am (Kd.S_below (so HO_4.out) hb); replace BK1 := kb BK1 hb; replace HB := am (below_step bw hb); clear hb; have hcz_ := bc BK1 0 (.slice A l.length c); have hfz_ := blk_frozen BK1.out 0) | ((with_reducible refine gate_callee (f := 29) rfl ?_); refine gl (some 20) Try.func29 #[.agg #[.slice A l.length c]] ?_; (with_reducible refine (impl_ParentOf.calls k1 _ _ l t2 false _ ?side1 ?side2 A2.out).mono ?_); (case side1 => exact co HRs.out); (case side2 => exact HCs.out); rintro e w9 ⟨v2, rfl, ho0, hb⟩; refine ⟨_, rfl, ?_⟩; clear hcz_ hfz_ HRs; replace HO_4 := am (Kd.S_elder' (so HO_4.out) (Kd.R_base ho0) hb); have HT := am (Kd.R_lower ho0 (below_size bw)); replace BK1 := kb BK1 hb; replace HB := am (below_step bw hb); clear hb ho0) | ((with_reducible refine gate_dst (N := 5) rfl ?_); refine bx 5 #[.slice none 0 0] 27 ?_; intro gb2 hg w11 hbox hb; replace HO_4 := am (Kd.S_below (Kd.S_elderB (so HO_4.out) gb2 (Nat.le_of_eq hg.symm)) hb); replace HT := rK HT hb; have BK2 := am (hbox); have GE2 := am (gs hg : w.heap.size ≤ gb2); replace HB := am (below_step bw hb); have NB12 := nl hg BK1; have NB21 := ns NB12; replace BK1 := kb BK1 hb; clear hb hbox hg; obtain ⟨Ao, co_, eo⟩ := Kd.R_slice HT.out; subst eo; have hnb_ := NB21.out; have hnc_ := NB12.out; have hcy_ := bc BK2 0 (.slice none 0 0); have hfy_ := blk_frozen BK2.out 0))
     go_ret2
     exact ⟨_, re, Kd.S_nil _ _ _ _ _, bw⟩
   ·replace H := ga H; obtain ⟨y, A3, H⟩ := H
    simp only [Option.some.injEq, Prod.mk.injEq] at H
    obtain ⟨rfl, rfl⟩ := H
    obtain ⟨Ao, co_, eo⟩ := Kd.S_slice HO_4.out
    subst eo
    go_wp2_with (first | ((with_reducible refine gate_callee (f := 86) rfl ?_); refine gl (some 16) Try.func86 #[.agg #[.slice A l.length c]] ?_; (with_reducible refine (impl_GenusOf.calls k1 _ _ l t1 _ ?side1 ?side2 A1.out).mono ?_); (case side1 => exact co HRs.out); (case side2 => exact HCs.out); rintro e w7 ⟨rfl, hb⟩; refine ⟨_, rfl, ?_⟩; clear hcz_ hfz_; replace HRs := am (Kd.C_below (co HRs.out) hb); replace HO_4 := am (Kd.S_below (so HO_4.out) hb); replace BK1 := kb BK1 hb; replace HB := am (below_step bw hb); clear hb; have hcz_ := bc BK1 0 (.slice A l.length c); have hfz_ := blk_frozen BK1.out 0) | ((with_reducible refine gate_callee (f := 87) rfl ?_); refine gl (some 31) Try.func87 #[.slice Ao x4_1.length co_] ?_; (with_reducible refine (impl_Semigroup.calls (fun k_ => k_ ≠ gb1) (.slice Ao x4_1.length co_) x4_1 y w _ ?side1 ?side2 A3.out).mono ?_); (case side1 => exact bw); (case side2 => exact so HO_4.out); rintro e w9 ⟨rfl, ho, hb, hk⟩; refine ⟨_, rfl, ?_⟩; have HOr := am ho; replace HB := am hb; clear ho hb hk))
    go_ret2
    exact ⟨_, re, Kd.S_mono (so HOr.out) (fun _ _ => trivial), bw⟩

end Go.Proofs.Ytlfdipnhlmjiaaa.C
