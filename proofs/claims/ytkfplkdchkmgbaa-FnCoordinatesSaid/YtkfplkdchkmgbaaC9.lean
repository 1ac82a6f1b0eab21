/- Contracts of functions of the program: impl_GapClash, impl_FromGaps. -/
import Derived.Test.YtkfplkdchkmgbaaC0
import Derived.Test.YtkfplkdchkmgbaaC7
import Derived.Test.YtkfplkdchkmgbaaC8
namespace Go.Proofs.Ytkfplkdchkmgbaa.C
open Go.RowKit Go.Proofs.YtkfplkdchkmgbaaW.PrintWords Go.Proofs.YtkfplkdchkmgbaaW.PrintLast Go.Proofs.YtkfplkdchkmgbaaW.PrintMore
attribute [local go_sem] max2_int min2_int max_two min_two max_three min_three max_four min_four
set_option linter.unusedVariables false
set_option linter.unusedSimpArgs false

/-! ### impl_GapClash: function 220 -/
mutual
def impl_GapClash.j0 : Nat → List Int → Bool → Option (Int × Int × Bool)
 | 0, _, _ => none
 | k + 1, x0, x17 => if x17 = true then (some (0, 0, false)) else (if 201 ≤ 281474976710656 then (impl_GapClash.l0 k x0 (List.replicate 201 false) x0 (x0.length : Int) 0) else (none))
def impl_GapClash.l0 : Nat → List Int → List Bool → List Int → Int → Int → Option (Int × Int × Bool)
 | 0, _, _, _, _, _ => none
 | k + 1, x0, x4, x20, x21, x22 => if x22 < x21 then (if 0 ≤ x22 then (if x22 < (x20.length : Int) then (if 0 ≤ (rd x20 x22) then (if (rd x20 x22) < (x4.length : Int) then (impl_GapClash.l0 k x0 (x4.set ((rd x20 x22) : Int).toNat true) x20 x21 (wrap64 (x22 + 1))) else (none)) else (none)) else (none)) else (none)) else (if 0 ≤ (wrap64 ((x0.length : Int) - 1)) then (if (wrap64 ((x0.length : Int) - 1)) < (x0.length : Int) then (impl_GapClash.l1 k x4 (rd x0 (wrap64 ((x0.length : Int) - 1))) 1) else (none)) else (none))
def impl_GapClash.l1 : Nat → List Bool → Int → Int → Option (Int × Int × Bool)
 | 0, _, _, _ => none
 | k + 1, x4, x7, x8 => if x8 ≤ x7 then (impl_GapClash.l2 k x4 x7 x8 x8) else (some (0, 0, false))
def impl_GapClash.l2 : Nat → List Bool → Int → Int → Int → Option (Int × Int × Bool)
 | 0, _, _, _, _ => none
 | k + 1, x4, x7, x8, x9 => if (wrap64 (x8 + x9)) ≤ x7 then (if 0 ≤ x8 then (if x8 < (x4.length : Int) then (if rdOf false x4 x8 = true then (impl_GapClash.l2 k x4 x7 x8 (wrap64 (x9 + 1))) else (if 0 ≤ x9 then (if x9 < (x4.length : Int) then (if rdOf false x4 x9 = true then (impl_GapClash.l2 k x4 x7 x8 (wrap64 (x9 + 1))) else (if 0 ≤ (wrap64 (x8 + x9)) then (if (wrap64 (x8 + x9)) < (x4.length : Int) then (if rdOf false x4 (wrap64 (x8 + x9)) = true then (some (x8, x9, true)) else (impl_GapClash.l2 k x4 x7 x8 (wrap64 (x9 + 1)))) else (none)) else (none))) else (none)) else (none))) else (none)) else (none)) else (impl_GapClash.l1 k x4 x7 (wrap64 (x8 + 1)))
end
def impl_GapClash.f (k : Nat) (l0 : List Int) : Option (Int × Int × Bool) := (impl_gapList.f k l0).bind fun t666 => (if t666 = true then (impl_GapClash.j0 k l0 ((l0.length : Int) == 0)) else (impl_GapClash.j0 k l0 true))
set_option maxHeartbeats 8000000 in
set_option maxRecDepth 100000 in
theorem impl_GapClash.calls (k : Nat) (A0 : Option Addr) (c0 : Nat) (l0 : List Int) (r1 : Int) (r2 : Int) (r3 : Bool) (w : World) (hr0 : Kd.C (Kd.int .i64) w A0 l0.length l0) (hc0 : l0.length ≤ c0) (h : impl_GapClash.f k l0 = some (r1, r2, r3)) :
  Calls Try.prog 220 #[.slice A0 l0.length c0] w fun e w' => e = .returned (.tuple #[.agg #[.int .i64 r1, .int .i64 r2], .bool r3]) ∧ Below w.heap.size w w' := by
 have hu33 := Try.underlying33
 have HR0 := am hr0
 have HC0 := am hc0
 clear hr0 hc0
 have HB := am (Below.refl w.heap.size w)
 have H : ((impl_gapList.f k l0).bind fun t666 => (if t666 = true then (impl_GapClash.j0 k l0 ((l0.length : Int) == 0)) else (impl_GapClash.j0 k l0 true))) = some (r1, r2, r3) := h
 clear h
 have HC2 := am H
 clear H
 go_enter Try.func220, Try.ntmps220
 go_upto_region 1 with (first | ((with_reducible refine gate_dst (N := 2) rfl ?_); (try (refine gate_guard (by rfl) ?_; dsimp only)); refine bx 2 #[.int .i64 0, .int .i64 0] 33 ?_; intro gb665 hg w3 hbox hb; have BK665 := am (hbox); have GW665 := am (gs hg : w.heap.size ≤ gb665); have GE665 := GW665; replace HB := am (below_step bw hb); clear hb hbox hg))
 (try simp only [Act.put, List.setIfInBounds_toArray, List.set_cons_zero, List.set_cons_succ])
 go_cut [17] (fun v17 wc => ∃ (kq : Nat) (x17_1 : Bool), v17 = .bool x17_1 ∧ Aside0 (impl_GapClash.j0 kq l0 x17_1 = some (r1, r2, r3)) ∧ Aside0 (kq ≤ k) ∧ Aside0 (wc.heap[gb665]? = some (.cells #[.int .i64 0, .int .i64 0] 33 (0, 0))) ∧ Aside0 (Below w.heap.size w wc))
 case first =>
  have H := HC2.out
  clear HC2
  replace H := ga H; obtain ⟨t666, A4, H⟩ := H
  replace H := gb H; obtain ⟨rfl, H⟩ | ⟨rfl, H⟩ := H
  ·have H' := am H
   clear H
   go_wp2_with (first | ((with_reducible refine gate_callee (f := 221) rfl ?_); refine gl (some 11) Try.func221 #[.slice A0 l0.length c0] ?_; (with_reducible refine (impl_gapList.calls k _ _ l0 true _ ?side1 ?side2 A4.out).mono ?_); (case side1 => exact co (Kd.C_below HR0.out HB.out)); (case side2 => exact HC0.out); rintro e w' ⟨rfl, ⟨nd, rfl⟩⟩; refine ⟨_, rfl, ?_⟩))
   go_meet
   case rel => exact ⟨_, (((l0.length : Int) == 0)), rr, H', ⟨om⟩, ⟨bo BK665.out⟩, ⟨bw⟩⟩
  have H' := am H
  clear H
  go_wp2_with (first | ((with_reducible refine gate_callee (f := 221) rfl ?_); refine gl (some 11) Try.func221 #[.slice A0 l0.length c0] ?_; (with_reducible refine (impl_gapList.calls k _ _ l0 false _ ?side1 ?side2 A4.out).mono ?_); (case side1 => exact co (Kd.C_below HR0.out HB.out)); (case side2 => exact HC0.out); rintro e w' ⟨rfl, ⟨nd, rfl⟩⟩; refine ⟨_, rfl, ?_⟩))
  go_meet
  case rel => exact ⟨_, (true), rr, H', ⟨om⟩, ⟨bo BK665.out⟩, ⟨bw⟩⟩
 case rest =>
  clear HC2
  obtain ⟨kq, x17_1, rfl, HA, HJ1, BK665, HB⟩ := hcut
  cases kq with
  | zero => exact absurd HA.out (by simp [impl_GapClash.j0])
  | succ kj1 =>
   have H := HA.out
   clear HA
   simp only [impl_GapClash.j0] at H
   replace H := gb H; obtain ⟨rfl, H⟩ | ⟨rfl, H⟩ := H
   ·simp only [Option.some.injEq, Prod.mk.injEq] at H
    obtain ⟨rfl, rfl, rfl⟩ := H
    have hcz7_0 := bc BK665 0 (.int .i64 0)
    have hcz7_1 := bc BK665 1 (.int .i64 0)
    have hfz7_0 := blk_frozen BK665.out 0
    have hfz7_1 := blk_frozen BK665.out 1
    go_wp2
    refine bodyPost_ret (results_ct rfl _ _ gb665 33 #[.int .i64 0, .int .i64 0] (0, 0) _ rfl (by (with_reducible repeat (first | refine blk_drewN ?_ _ | refine blk_drew ?_ | refine blk_alloc ?_ _)); refine blk_put (cs := #[.int .i64 0, .int .i64 0]) ?_ 1 _ rfl; (with_reducible repeat (first | refine blk_drewN ?_ _ | refine blk_drew ?_ | refine blk_alloc ?_ _)); refine blk_put (cs := #[.int .i64 0, .int .i64 0]) ?_ 0 _ rfl; (with_reducible repeat (first | refine blk_drewN ?_ _ | refine blk_drew ?_ | refine blk_alloc ?_ _)); exact BK665.out) Try.underlying33 rfl (by kernel_rfl)) rfl ?_
    exact ⟨re, bw⟩
   replace H := gp H; obtain ⟨c8, H⟩ := H
   have c8b0 := eq_true c8
   have c8b1 : decide (201 ≤ 281474976710656) = true := decide_eq_true c8
   clear c8
   obtain ⟨y667, hy667⟩ : ∃ y_ : List Bool, y_ = (List.replicate 201 false) := ⟨_, rfl⟩
   replace H : (impl_GapClash.l0 kj1 l0 y667 l0 (l0.length : Int) 0) = some (r1, r2, r3) := by first | (rw [hy667]; with_reducible first | exact H | exact bs H) | (with_reducible first | exact bs H | exact H) | (rw [hy667]; exact H) | exact H
   have Ny667 := am hy667
   clear hy667
   have H' := am H
   clear H
   go_wp2_with (first | ((with_reducible refine gate_dst (N := 19) rfl ?_); (try (refine gate_guard (by rfl) ?_; dsimp only)); refine Kd.R_make Kd.bool _ 4 rfl (N := 19) rfl 109 _ _ rfl 201 rfl rfl Try.underlying109 (.bool false) 1 info4 rfl (by decide) (by omega) false (ok := fun _ => True) (okp := fun _ => True) rfl (fun _ hk => hk) trivial (by omega) (by omega) (Below.refl _ _) (Nat.le_refl _) ?_; intro v668 w9 ho10 hb hg_ hnew_; clear hg_ hnew_; (first | rw [← Ny667.out] at ho10 | (simp only [Int.reduceToNat] at ho10; rw [← Ny667.out] at ho10)); have HO669 := am (Kd.R_lower ho10 (below_size bw)); replace BK665 := kb BK665 hb; replace HB := am (below_step bw hb); clear hb ho10))
   go_loopg [22] kj1 (fun kq v22 w' => ∃ (x4_2 : List Bool) (x22_2 : Int), v22 = .int .i64 x22_2 ∧ Aside0 (impl_GapClash.l0 kq l0 x4_2 l0 (l0.length : Int) x22_2 = some (r1, r2, r3)) ∧ Aside0 (kq ≤ kj1) ∧ Aside0 (Kd.R Kd.bool 4 w' w.heap.size (fun _ => True) v668 x4_2) ∧ Aside0 (w'.heap[gb665]? = some (.cells #[.int .i64 0, .int .i64 0] 33 (0, 0))) ∧ Aside0 (Below w.heap.size w w'))
   case atStart => exact ⟨(y667), (0), rr, H', ⟨Nat.le_refl _⟩, ⟨ro HO669.out⟩, ⟨bo BK665.out⟩, ⟨bw⟩⟩
   case round =>
    clear H'
    try clear c8; try clear c8b0; try clear c8b1; try clear hcz7_0; try clear hcz7_1; try clear hfz7_0; try clear hfz7_1
    obtain ⟨x4_2, x22_2, rfl, HA, HK2, HO_4, BK665, HB⟩ := hrel
    cases gk with
    | zero => exact absurd HA.out (by simp [impl_GapClash.l0])
    | succ k2 =>
     have H := HA.out
     clear HA
     simp only [impl_GapClash.l0] at H
     replace H := gi H; obtain ⟨c11b0, H⟩ | ⟨c11b0, H⟩ := H
     ·replace H := gd H; obtain ⟨c12b0, H⟩ := H
      replace H := gd H; obtain ⟨c13b0, H⟩ := H
      replace H := gd H; obtain ⟨c14b0, H⟩ := H
      replace H := gd H; obtain ⟨c15b0, H⟩ := H
      obtain ⟨y671, hy671⟩ : ∃ y_ : List Bool, y_ = (x4_2.set ((rd l0 x22_2) : Int).toNat true) := ⟨_, rfl⟩
      replace H : (impl_GapClash.l0 k2 l0 y671 l0 (l0.length : Int) (wrap64 (x22_2 + 1))) = some (r1, r2, r3) := by first | (rw [hy671]; with_reducible first | exact H | exact bs H) | (with_reducible first | exact bs H | exact H) | (rw [hy671]; exact H) | exact H
      have Ny671 := am hy671
      clear hy671
      have H' := am H
      clear H
      obtain ⟨⟨ad670, e670, hx670_0⟩, p670, q670⟩ := pq (Kd.at_int HR0.out x22_2)
      cases e670
      replace hx670_0 := hw HB hx670_0
      have p16 : 0 ≤ ((rd l0 x22_2) : Int) := of_decide_eq_true (by first | (with_reducible assumption) | assumption)
      have q16 : ((rd l0 x22_2) : Int) < ((x4_2.length : Int) : Int) := of_decide_eq_true (by first | (with_reducible assumption) | assumption)
      obtain ⟨go16, co16, eo16, gb16, gl16, cl16, HG16⟩ := Kd.R_form HO_4.out (by omega)
      (first | cases eo16 | (injection eo16 with ea_ en_ ec_; (first | subst ea_ | (injection ea_ with ea_; subst ea_)); subst ec_; clear en_))
      have GB16 := am gb16
      have GG16 := am HG16
      clear gb16 gl16 HG16
      obtain ⟨hx16_0, hf16_0⟩ := Kd.R_celln false HO_4.out ((rd l0 x22_2) : Int) p16 q16
      replace p16 := eq_true p16
      replace q16 := eq_true q16
      have HP17 := Kd.R_putg HO_4.out ((rd l0 x22_2) : Int) true
      go_wp2_with (first | ((with_reducible refine gate_store (t := 4) (p := 28) rfl ?_); refine store_event (t := 4) (p := 28) (v := ?vo_w18) (w1 := (wr.setCell ⟨go16, ((rd l0 x22_2) : Int).toNat, none⟩ (.bool true))) ?hg ?ho ?hn ?hr ?_; (case ho => rfl); (case hg => rfl); (case hn => rfl); (case hr => first | (go_simp; done) | (go_simp; rfl)); intro w18 hw; have hg : wr.grownBy w18 (some go16) := (by rw [hw]; exact HP17.2); have hp_ : Kd.R Kd.bool 4 w18 w.heap.size (fun _ => True) (.slice (some ⟨go16, 0, none⟩) x4_2.length co16) y671 := (by rw [hw, Ny671.out]; exact HP17.1); clear HP17; replace BK665 := am (blk_grown (g := gb665) (o := .cells #[.int .i64 0, .int .i64 0] 33 (0, 0)) (bo BK665.out) hg (Kd.R_ne HO_4.out BK665.out (by decide))); replace HO_4 := am (hp_); replace HB := am ((by rw [hw]; exact below_set (HB.out) GB16.out : Below w.heap.size w w18)); clear hg hw hp_))
      go_roundg k2
      case measure => have := HJ1.out; have := HK2.out; omega
      case rel => exact ⟨(y671), (wrap64 (x22_2 + 1)), rr, H', ⟨by have := HJ1.out; have := HK2.out; omega⟩, ⟨ro HO_4.out⟩, ⟨bo BK665.out⟩, ⟨bw⟩⟩
     obtain ⟨ji19, hji19⟩ : ∃ j_ : Int, (wrap64 ((l0.length : Int) - 1)) = j_ := ⟨_, rfl⟩
     replace H : (if 0 ≤ (ji19) then (if (ji19) < (l0.length : Int) then (impl_GapClash.l1 k2 x4_2 (rd l0 (ji19)) 1) else (none)) else (none)) = some (r1, r2, r3) := by first | (rw [hji19] at H; exact H) | (simp only [hji19] at H ⊢; exact H)
     have hji19w : (IntKind.i64.wrap ((l0.length : Int) - 1)) = ji19 := (i64_w _).trans hji19
     replace H := gd H; obtain ⟨c20b0, H⟩ := H
     replace H := gd H; obtain ⟨c21b0, H⟩ := H
     have H' := am H
     clear H
     obtain ⟨⟨ad672, e672, hx672_0⟩, p672, q672⟩ := pq (Kd.at_int HR0.out (ji19))
     cases e672
     replace hx672_0 := hw HB hx672_0
     go_wp2
     go_loopg [8] k2 (fun kq v8 w' => ∃ (x8_3 : Int) (x666000_3 : Int) (x666001_3 : Int), v8 = .int .i64 x8_3 ∧ Aside0 (impl_GapClash.l1 kq x4_2 (rd l0 (ji19)) x8_3 = some (r1, r2, r3)) ∧ Aside0 (kq ≤ k2) ∧ Aside0 (Kd.R Kd.bool 4 w' w.heap.size (fun _ => True) v668 x4_2) ∧ Aside0 (w'.heap[gb665]? = some (.cells #[.int .i64 x666000_3, .int .i64 x666001_3] 33 (0, 0))) ∧ Aside0 (Below w.heap.size w w'))
     case atStart => exact ⟨(1), (0), (0), rr, H', ⟨Nat.le_refl _⟩, ⟨ro HO_4.out⟩, ⟨bo BK665.out⟩, ⟨bw⟩⟩
     case round =>
      clear H'
      try clear c8; try clear c8b0; try clear c8b1; try clear c11b0; try clear c12b0; try clear c13b0; try clear c14b0; try clear c15b0; try clear p16; try clear q16; try clear c20b0; try clear c21b0; try clear hcz7_0; try clear hcz7_1; try clear hfz7_0; try clear hfz7_1; try clear hx16_0; try clear hx670_0; try clear hx672_0; try clear p670; try clear p672; try clear q670; try clear q672
      obtain ⟨x8_3, x666000_3, x666001_3, rfl, HA, HK3, HO_4, BK665, HB⟩ := hrel
      cases gk with
      | zero => exact absurd HA.out (by simp [impl_GapClash.l1])
      | succ k3 =>
       have H := HA.out
       clear HA
       simp only [impl_GapClash.l1] at H
       replace H := gi H; obtain ⟨c22b0, H⟩ | ⟨c22b0, H⟩ := H
       ·have H' := am H
        clear H
        go_wp2
        go_loopg [9] k3 (fun kq v9 w' => ∃ (x9_4 : Int) (x666000_4 : Int) (x666001_4 : Int), v9 = .int .i64 x9_4 ∧ Aside0 (impl_GapClash.l2 kq x4_2 (rd l0 (ji19)) x8_3 x9_4 = some (r1, r2, r3)) ∧ Aside0 (kq ≤ k3) ∧ Aside0 (Kd.R Kd.bool 4 w' w.heap.size (fun _ => True) v668 x4_2) ∧ Aside0 (w'.heap[gb665]? = some (.cells #[.int .i64 x666000_4, .int .i64 x666001_4] 33 (0, 0))) ∧ Aside0 (Below w.heap.size w w'))
        case atStart => exact ⟨(x8_3), (x666000_3), (x666001_3), rr, H', ⟨Nat.le_refl _⟩, ⟨ro HO_4.out⟩, ⟨bo BK665.out⟩, ⟨bw⟩⟩
        case round =>
         clear H'
         try clear c8; try clear c8b0; try clear c8b1; try clear c11b0; try clear c12b0; try clear c13b0; try clear c14b0; try clear c15b0; try clear p16; try clear q16; try clear c20b0; try clear c21b0; try clear c22b0; try clear hcz7_0; try clear hcz7_1; try clear hfz7_0; try clear hfz7_1; try clear hx16_0; try clear hx670_0; try clear hx672_0; try clear p670; try clear p672; try clear q670; try clear q672
         obtain ⟨x9_4, x666000_4, x666001_4, rfl, HA, HK4, HO_4, BK665, HB⟩ := hrel
         cases gk with
         | zero => exact absurd HA.out (by simp [impl_GapClash.l2])
         | succ k4 =>
          have H := HA.out
          clear HA
          simp only [impl_GapClash.l2] at H
          replace H := gi H; obtain ⟨c23b0, H⟩ | ⟨c23b0, H⟩ := H
          ·replace H := gd H; obtain ⟨c24b0, H⟩ := H
           replace H := gd H; obtain ⟨c25b0, H⟩ := H
           obtain ⟨bq26, hbq26⟩ : ∃ b_ : Bool, b_ = (rdOf false x4_2 x8_3) := ⟨_, rfl⟩
           replace H : (if bq26 = true then (impl_GapClash.l2 k4 x4_2 (rd l0 (ji19)) x8_3 (wrap64 (x9_4 + 1))) else (if 0 ≤ x9_4 then (if x9_4 < (x4_2.length : Int) then (if rdOf false x4_2 x9_4 = true then (impl_GapClash.l2 k4 x4_2 (rd l0 (ji19)) x8_3 (wrap64 (x9_4 + 1))) else (if 0 ≤ (wrap64 (x8_3 + x9_4)) then (if (wrap64 (x8_3 + x9_4)) < (x4_2.length : Int) then (if rdOf false x4_2 (wrap64 (x8_3 + x9_4)) = true then (some (x8_3, x9_4, true)) else (impl_GapClash.l2 k4 x4_2 (rd l0 (ji19)) x8_3 (wrap64 (x9_4 + 1)))) else (none)) else (none))) else (none)) else (none))) = some (r1, r2, r3) := by rw [← hbq26] at H; exact H
           have Nbq26 := am hbq26
           clear hbq26
           replace H := gb H; obtain ⟨rfl, H⟩ | ⟨rfl, H⟩ := H
           ·have H' := am H
            clear H
            obtain ⟨Ao28, co28, eo28⟩ := Kd.R_slice HO_4.out
            subst eo28
            obtain ⟨⟨ad673, e673, hx673_0⟩, p673, q673⟩ := pq (Kd.at_bool (Kd.R_reads' HO_4.out).2.2 x8_3)
            (try rw [← Nbq26.out] at hx673_0)
            cases e673
            go_wp2
            go_roundg k4
            case measure => have := HJ1.out; have := HK2.out; have := HK3.out; have := HK4.out; omega
            case rel => exact ⟨(wrap64 (x9_4 + 1)), (x666000_4), (x666001_4), rr, H', ⟨by have := HJ1.out; have := HK2.out; have := HK3.out; have := HK4.out; omega⟩, ⟨ro HO_4.out⟩, ⟨bo BK665.out⟩, ⟨bw⟩⟩
           replace H := gd H; obtain ⟨c29b0, H⟩ := H
           replace H := gd H; obtain ⟨c30b0, H⟩ := H
           obtain ⟨bq31, hbq31⟩ : ∃ b_ : Bool, b_ = (rdOf false x4_2 x9_4) := ⟨_, rfl⟩
           replace H : (if bq31 = true then (impl_GapClash.l2 k4 x4_2 (rd l0 (ji19)) x8_3 (wrap64 (x9_4 + 1))) else (if 0 ≤ (wrap64 (x8_3 + x9_4)) then (if (wrap64 (x8_3 + x9_4)) < (x4_2.length : Int) then (if rdOf false x4_2 (wrap64 (x8_3 + x9_4)) = true then (some (x8_3, x9_4, true)) else (impl_GapClash.l2 k4 x4_2 (rd l0 (ji19)) x8_3 (wrap64 (x9_4 + 1)))) else (none)) else (none))) = some (r1, r2, r3) := by rw [← hbq31] at H; exact H
           have Nbq31 := am hbq31
           clear hbq31
           replace H := gb H; obtain ⟨rfl, H⟩ | ⟨rfl, H⟩ := H
           ·have H' := am H
            clear H
            obtain ⟨Ao33, co33, eo33⟩ := Kd.R_slice HO_4.out
            subst eo33
            obtain ⟨⟨ad673, e673, hx673_0⟩, p673, q673⟩ := pq (Kd.at_bool (Kd.R_reads' HO_4.out).2.2 x8_3)
            (try rw [← Nbq26.out] at hx673_0)
            (try rw [← Nbq31.out] at hx673_0)
            cases e673
            obtain ⟨⟨ad674, e674, hx674_0⟩, p674, q674⟩ := pq (Kd.at_bool (Kd.R_reads' HO_4.out).2.2 x9_4)
            (try rw [← Nbq26.out] at hx674_0)
            (try rw [← Nbq31.out] at hx674_0)
            obtain rfl : ad673 = ad674 := (by injection e674)
            go_wp2
            go_roundg k4
            case measure => have := HJ1.out; have := HK2.out; have := HK3.out; have := HK4.out; omega
            case rel => exact ⟨(wrap64 (x9_4 + 1)), (x666000_4), (x666001_4), rr, H', ⟨by have := HJ1.out; have := HK2.out; have := HK3.out; have := HK4.out; omega⟩, ⟨ro HO_4.out⟩, ⟨bo BK665.out⟩, ⟨bw⟩⟩
           obtain ⟨ji34, hji34⟩ : ∃ j_ : Int, (wrap64 (x8_3 + x9_4)) = j_ := ⟨_, rfl⟩
           replace H : (if 0 ≤ (ji34) then (if (ji34) < (x4_2.length : Int) then (if rdOf false x4_2 (ji34) = true then (some (x8_3, x9_4, true)) else (impl_GapClash.l2 k4 x4_2 (rd l0 (ji19)) x8_3 (wrap64 (x9_4 + 1)))) else (none)) else (none)) = some (r1, r2, r3) := by first | (rw [hji34] at H; exact H) | (simp only [hji34] at H ⊢; exact H)
           (try rw [hji34] at c23b0)
           have hji34w : (IntKind.i64.wrap (x8_3 + x9_4)) = ji34 := (i64_w _).trans hji34
           replace H := gd H; obtain ⟨c35b0, H⟩ := H
           replace H := gd H; obtain ⟨c36b0, H⟩ := H
           obtain ⟨bq37, hbq37⟩ : ∃ b_ : Bool, b_ = (rdOf false x4_2 (ji34)) := ⟨_, rfl⟩
           replace H : (if bq37 = true then (some (x8_3, x9_4, true)) else (impl_GapClash.l2 k4 x4_2 (rd l0 (ji19)) x8_3 (wrap64 (x9_4 + 1)))) = some (r1, r2, r3) := by rw [← hbq37] at H; exact H
           have Nbq37 := am hbq37
           clear hbq37
           replace H := gb H; obtain ⟨rfl, H⟩ | ⟨rfl, H⟩ := H
           ·simp only [Option.some.injEq, Prod.mk.injEq] at H
            obtain ⟨rfl, rfl, rfl⟩ := H
            obtain ⟨Ao39, co39, eo39⟩ := Kd.R_slice HO_4.out
            subst eo39
            obtain ⟨⟨ad673, e673, hx673_0⟩, p673, q673⟩ := pq (Kd.at_bool (Kd.R_reads' HO_4.out).2.2 x8_3)
            (try rw [← Nbq26.out] at hx673_0)
            (try rw [← Nbq31.out] at hx673_0)
            (try rw [← Nbq37.out] at hx673_0)
            cases e673
            obtain ⟨⟨ad674, e674, hx674_0⟩, p674, q674⟩ := pq (Kd.at_bool (Kd.R_reads' HO_4.out).2.2 x9_4)
            (try rw [← Nbq26.out] at hx674_0)
            (try rw [← Nbq31.out] at hx674_0)
            (try rw [← Nbq37.out] at hx674_0)
            obtain rfl : ad673 = ad674 := (by injection e674)
            obtain ⟨⟨ad675, e675, hx675_0⟩, p675, q675⟩ := pq (Kd.at_bool (Kd.R_reads' HO_4.out).2.2 (ji34))
            (try rw [← Nbq26.out] at hx675_0)
            (try rw [← Nbq31.out] at hx675_0)
            (try rw [← Nbq37.out] at hx675_0)
            obtain rfl : ad673 = ad675 := (by injection e675)
            have hcz40_0 := bc BK665 0 (.int .i64 x666000_4)
            have hcz40_1 := bc BK665 1 (.int .i64 x666001_4)
            have hfz40_0 := blk_frozen BK665.out 0
            have hfz40_1 := blk_frozen BK665.out 1
            go_wp2
            refine bodyPost_ret (results_ct rfl _ _ gb665 33 #[.int .i64 x8_3, .int .i64 x9_4] (0, 0) _ rfl (by (with_reducible repeat (first | refine blk_drewN ?_ _ | refine blk_drew ?_ | refine blk_alloc ?_ _)); refine blk_put (cs := #[.int .i64 x8_3, .int .i64 x666001_4]) ?_ 1 _ rfl; (with_reducible repeat (first | refine blk_drewN ?_ _ | refine blk_drew ?_ | refine blk_alloc ?_ _)); refine blk_put (cs := #[.int .i64 x666000_4, .int .i64 x666001_4]) ?_ 0 _ rfl; (with_reducible repeat (first | refine blk_drewN ?_ _ | refine blk_drew ?_ | refine blk_alloc ?_ _)); exact BK665.out) Try.underlying33 rfl (by kernel_rfl)) rfl ?_
            exact ⟨by first | rfl | (simp [errW_none, errW_some] <;> rfl) | (simp only [← hji19, ← hji34]; first | rfl | (simp [errW_none, errW_some] <;> rfl)) | (simp [*, errW_none, errW_some] <;> rfl), bw⟩
           have H' := am H
           clear H
           obtain ⟨Ao41, co41, eo41⟩ := Kd.R_slice HO_4.out
           subst eo41
           obtain ⟨⟨ad673, e673, hx673_0⟩, p673, q673⟩ := pq (Kd.at_bool (Kd.R_reads' HO_4.out).2.2 x8_3)
           (try rw [← Nbq26.out] at hx673_0)
           (try rw [← Nbq31.out] at hx673_0)
           (try rw [← Nbq37.out] at hx673_0)
           cases e673
           obtain ⟨⟨ad674, e674, hx674_0⟩, p674, q674⟩ := pq (Kd.at_bool (Kd.R_reads' HO_4.out).2.2 x9_4)
           (try rw [← Nbq26.out] at hx674_0)
           (try rw [← Nbq31.out] at hx674_0)
           (try rw [← Nbq37.out] at hx674_0)
           obtain rfl : ad673 = ad674 := (by injection e674)
           obtain ⟨⟨ad675, e675, hx675_0⟩, p675, q675⟩ := pq (Kd.at_bool (Kd.R_reads' HO_4.out).2.2 (ji34))
           (try rw [← Nbq26.out] at hx675_0)
           (try rw [← Nbq31.out] at hx675_0)
           (try rw [← Nbq37.out] at hx675_0)
           obtain rfl : ad673 = ad675 := (by injection e675)
           go_wp2
           go_roundg k4
           case measure => have := HJ1.out; have := HK2.out; have := HK3.out; have := HK4.out; omega
           case rel => exact ⟨(wrap64 (x9_4 + 1)), (x666000_4), (x666001_4), rr, H', ⟨by have := HJ1.out; have := HK2.out; have := HK3.out; have := HK4.out; omega⟩, ⟨ro HO_4.out⟩, ⟨bo BK665.out⟩, ⟨bw⟩⟩
          have H' := am H
          clear H
          go_wp2
          go_roundg k4
          case measure => have := HJ1.out; have := HK2.out; have := HK3.out; have := HK4.out; omega
          case rel => exact ⟨(wrap64 (x8_3 + 1)), (x666000_4), (x666001_4), rr, H', ⟨by have := HJ1.out; have := HK2.out; have := HK3.out; have := HK4.out; omega⟩, ⟨ro HO_4.out⟩, ⟨bo BK665.out⟩, ⟨bw⟩⟩
       simp only [Option.some.injEq, Prod.mk.injEq] at H
       obtain ⟨rfl, rfl, rfl⟩ := H
       have hcz42_0 := bc BK665 0 (.int .i64 x666000_3)
       have hcz42_1 := bc BK665 1 (.int .i64 x666001_3)
       have hfz42_0 := blk_frozen BK665.out 0
       have hfz42_1 := blk_frozen BK665.out 1
       go_wp2
       refine bodyPost_ret (results_ct rfl _ _ gb665 33 #[.int .i64 0, .int .i64 0] (0, 0) _ rfl (by (with_reducible repeat (first | refine blk_drewN ?_ _ | refine blk_drew ?_ | refine blk_alloc ?_ _)); refine blk_put (cs := #[.int .i64 0, .int .i64 x666001_3]) ?_ 1 _ rfl; (with_reducible repeat (first | refine blk_drewN ?_ _ | refine blk_drew ?_ | refine blk_alloc ?_ _)); refine blk_put (cs := #[.int .i64 x666000_3, .int .i64 x666001_3]) ?_ 0 _ rfl; (with_reducible repeat (first | refine blk_drewN ?_ _ | refine blk_drew ?_ | refine blk_alloc ?_ _)); exact BK665.out) Try.underlying33 rfl (by kernel_rfl)) rfl ?_
       exact ⟨by first | rfl | (simp [errW_none, errW_some] <;> rfl) | (simp only [← hji19]; first | rfl | (simp [errW_none, errW_some] <;> rfl)) | (simp [*, errW_none, errW_some] <;> rfl), bw⟩


/-! ### impl_FromGaps: function 153 -/
mutual
def impl_FromGaps.j0 : Nat → List Int → Bool → Option (List Int × Bool)
 | 0, _, _ => none
 | k + 1, x0, x23 => if x23 = true then (some (([] : List Int), false)) else (if 401 ≤ 281474976710656 then (impl_FromGaps.l0 k x0 (List.replicate 401 false) x0 (x0.length : Int) 0) else (none))
def impl_FromGaps.l0 : Nat → List Int → List Bool → List Int → Int → Int → Option (List Int × Bool)
 | 0, _, _, _, _, _ => none
 | k + 1, x0, x6, x26, x27, x28 => if x28 < x27 then (if 0 ≤ x28 then (if x28 < (x26.length : Int) then (if 0 ≤ (rd x26 x28) then (if (rd x26 x28) < (x6.length : Int) then (impl_FromGaps.l0 k x0 (x6.set ((rd x26 x28) : Int).toNat true) x26 x27 (wrap64 (x28 + 1))) else (none)) else (none)) else (none)) else (none)) else (impl_FromGaps.l1 k x0 x6 1 ([] : List Int))
def impl_FromGaps.l1 : Nat → List Int → List Bool → Int → List Int → Option (List Int × Bool)
 | 0, _, _, _, _ => none
 | k + 1, x0, x6, x10, x688000 => if x10 < (x6.length : Int) then (if 0 ≤ x10 then (impl_FromGaps.l2 k x0 x6 x10 (rdOf false x6 x10) 1 x688000) else (none)) else ((impl_IsSemigroup.f k x688000).bind fun t694 => (if t694 = true then ((impl_Gaps.f k x688000).bind fun t695 => ((slices_Equal_int_int.f k t695 x0).bind fun t698 => (if t698 = true then (some (x688000, true)) else (some (([] : List Int), false))))) else (some (([] : List Int), false))))
def impl_FromGaps.l2 : Nat → List Int → List Bool → Int → Bool → Int → List Int → Option (List Int × Bool)
 | 0, _, _, _, _, _, _ => none
 | k + 1, x0, x6, x10, x11, x12, x688000 => if (wrap64 (2 * x12)) ≤ x10 then (if x11 = true then (impl_FromGaps.l1 k x0 x6 (wrap64 (x10 + 1)) x688000) else (if 0 ≤ x12 then (if x12 < (x6.length : Int) then (if rdOf false x6 x12 = true then (impl_FromGaps.l2 k x0 x6 x10 false (wrap64 (x12 + 1)) x688000) else (if 0 ≤ (wrap64 (x10 - x12)) then (if (wrap64 (x10 - x12)) < (x6.length : Int) then (impl_FromGaps.l2 k x0 x6 x10 (!(rdOf false x6 (wrap64 (x10 - x12)))) (wrap64 (x12 + 1)) x688000) else (none)) else (none))) else (none)) else (none))) else (if x11 = true then (impl_FromGaps.l1 k x0 x6 (wrap64 (x10 + 1)) x688000) else (if x688000.length < 17592186044416 then (impl_FromGaps.l1 k x0 x6 (wrap64 (x10 + 1)) (x688000 ++ [x10])) else (none)))
end
def impl_FromGaps.f (k : Nat) (l0 : List Int) : Option (List Int × Bool) := (impl_GapClash.f k l0).bind fun bt677 => (if bt677.2.2 = true then (impl_FromGaps.j0 k l0 true) else ((impl_gapList.f k l0).bind fun t681 => (impl_FromGaps.j0 k l0 (!t681))))
set_option maxHeartbeats 8000000 in
set_option maxRecDepth 100000 in
theorem impl_FromGaps.calls (k : Nat) (A0 : Option Addr) (c0 : Nat) (l0 : List Int) (r1 : List Int) (r2 : Bool) (w : World) (hr0 : Kd.C (Kd.int .i64) w A0 l0.length l0) (hc0 : l0.length ≤ c0) (h : impl_FromGaps.f k l0 = some (r1, r2)) :
  Calls Try.prog 153 #[.slice A0 l0.length c0] w fun e w' => ∃ v0_ : Value, e = .returned (.tuple #[.agg #[v0_], .bool r2]) ∧ Kd.R (Kd.int .i64) 3 w' w.heap.size (fun _ => True) v0_ r1 ∧ Below w.heap.size w w' := by
 have hu26 := Try.underlying26
 have hu33 := Try.underlying33
 have HR0 := am hr0
 have HC0 := am hc0
 clear hr0 hc0
 have HB := am (Below.refl w.heap.size w)
 have H : ((impl_GapClash.f k l0).bind fun bt677 => (if bt677.2.2 = true then (impl_FromGaps.j0 k l0 true) else ((impl_gapList.f k l0).bind fun t681 => (impl_FromGaps.j0 k l0 (!t681))))) = some (r1, r2) := h
 clear h
 replace H := ga H; obtain ⟨⟨t677, t678, t679⟩, A2, H⟩ := H
 replace H : (if t679 = true then (impl_FromGaps.j0 k l0 true) else ((impl_gapList.f k l0).bind fun t681 => (impl_FromGaps.j0 k l0 (!t681)))) = some (r1, r2) := H
 have HC3 := am H
 clear H
 go_enter Try.func153, Try.ntmps153
 go_upto_region 2 with (first | ((with_reducible refine gate_dst (N := 2) rfl ?_); refine bx 2 #[.slice none 0 0] 26 ?_; intro gb676 hg w4 hbox hb; have BK676 := am (hbox); have GW676 := am (gs hg : w.heap.size ≤ gb676); have GE676 := GW676; replace HB := am (below_step bw hb); clear hb hbox hg) | ((with_reducible refine gate_callee (f := 220) rfl ?_); refine gl (some 15) Try.func220 #[.slice A0 l0.length c0] ?_; (with_reducible refine (impl_GapClash.calls k _ _ l0 t677 t678 t679 _ ?side1 ?side2 A2.out).mono ?_); (case side1 => exact co (Kd.C_below HR0.out HB.out)); (case side2 => exact HC0.out); rintro e w5 ⟨rfl, hb⟩; refine ⟨_, rfl, ?_⟩; replace BK676 := kb BK676 hb; replace HB := am (below_step bw hb); clear hb) | ((with_reducible refine gate_dst (N := 4) rfl ?_); refine bx 4 #[.int .i64 0, .int .i64 0] 33 ?_; intro gb680 hg w6 hbox hb; have BK680 := am (hbox); have GW680 := am (gs hg : w.heap.size ≤ gb680); have GE680 := GW680; replace HB := am (below_step bw hb); have NB676_680 := nl hg BK676; have NB680_676 := ns NB676_680; replace BK676 := kb BK676 hb; clear hb hbox hg; have hnb7 := NB680_676.out; have hnc7 := NB676_680.out; have hcz8_0 := bc BK680 0 (.int .i64 0); have hcz8_1 := bc BK680 1 (.int .i64 0); have hfz8_0 := blk_frozen BK680.out 0; have hfz8_1 := blk_frozen BK680.out 1))
 (try simp only [Act.put, List.setIfInBounds_toArray, List.set_cons_zero, List.set_cons_succ])
 go_cut [23] (fun v23 wc => ∃ (kq : Nat) (x23_2 : Bool), v23 = .bool x23_2 ∧ Aside0 (impl_FromGaps.j0 kq l0 x23_2 = some (r1, r2)) ∧ Aside0 (kq ≤ k) ∧ Aside0 (wc.heap[gb676]? = some (.cells #[(.slice none 0 0)] 26 (0, 0))) ∧ Aside0 (wc.heap[gb680]? = some (.cells #[.int .i64 t677, .int .i64 t678] 33 (0, 0))) ∧ Aside0 (Below w.heap.size w wc))
 case first =>
  have H := HC3.out
  clear HC3
  replace H := gb H; obtain ⟨rfl, H⟩ | ⟨rfl, H⟩ := H
  ·have H' := am H
   clear H
   go_wp2
   go_meet
   case rel => exact ⟨_, (true), rr, H', ⟨om⟩, ⟨bf BK676.out⟩, ⟨by (with_reducible repeat (first | refine blk_drewN ?_ _ | refine blk_drew ?_ | refine blk_alloc ?_ _)); refine blk_put (cs := #[.int .i64 t677, .int .i64 0]) ?_ 1 _ rfl; (with_reducible repeat (first | refine blk_drewN ?_ _ | refine blk_drew ?_ | refine blk_alloc ?_ _)); refine blk_put (cs := #[.int .i64 0, .int .i64 0]) ?_ 0 _ rfl; (with_reducible repeat (first | refine blk_drewN ?_ _ | refine blk_drew ?_ | refine blk_alloc ?_ _)); exact BK680.out⟩, ⟨bw⟩⟩
  replace H := ga H; obtain ⟨t681, A10, H⟩ := H
  have H' := am H
  clear H
  go_wp2_with (first | (go_at_call 221; (with_reducible refine (impl_gapList.calls k _ _ l0 t681 _ ?side1 ?side2 A10.out).mono ?_); (case side1 => exact Kd.C_below HR0.out bw); (case side2 => exact HC0.out); rintro e w' ⟨rfl, ⟨nd, rfl⟩⟩))
  go_meet
  case rel => exact ⟨_, (!t681), rr, H', ⟨om⟩, ⟨bf BK676.out⟩, ⟨by (with_reducible repeat (first | refine blk_drewN ?_ _ | refine blk_drew ?_ | refine blk_alloc ?_ _)); refine blk_put (cs := #[.int .i64 t677, .int .i64 0]) ?_ 1 _ rfl; (with_reducible repeat (first | refine blk_drewN ?_ _ | refine blk_drew ?_ | refine blk_alloc ?_ _)); refine blk_put (cs := #[.int .i64 0, .int .i64 0]) ?_ 0 _ rfl; (with_reducible repeat (first | refine blk_drewN ?_ _ | refine blk_drew ?_ | refine blk_alloc ?_ _)); exact BK680.out⟩, ⟨bw⟩⟩
 case rest =>
  clear HC3
  try clear hcz8_0; try clear hcz8_1; try clear hfz8_0; try clear hfz8_1
  obtain ⟨kq, x23_2, rfl, HA, HJ2, BK676, BK680, HB⟩ := hcut
  cases kq with
  | zero => exact absurd HA.out (by simp [impl_FromGaps.j0])
  | succ kj2 =>
   have H := HA.out
   clear HA
   simp only [impl_FromGaps.j0] at H
   replace H := gb H; obtain ⟨rfl, H⟩ | ⟨rfl, H⟩ := H
   ·simp only [Option.some.injEq, Prod.mk.injEq] at H
    obtain ⟨rfl, rfl⟩ := H
    have hnb12 := NB676_680.out
    have hnc12 := NB680_676.out
    have hcz13_0 := bc BK676 0 (.slice none 0 0)
    have hfz13_0 := blk_frozen BK676.out 0
    go_wp2
    refine bodyPost_ret (results_ct rfl _ _ gb676 26 #[.slice none 0 0] (0, 0) _ rfl (by (with_reducible repeat (first | refine blk_drewN ?_ _ | refine blk_drew ?_ | refine blk_alloc ?_ _)); refine blk_put (cs := #[.slice none 0 0]) ?_ 0 _ rfl; (with_reducible repeat (first | refine blk_drewN ?_ _ | refine blk_drew ?_ | refine blk_alloc ?_ _)); exact BK676.out) Try.underlying26 rfl (by kernel_rfl)) rfl ?_
    exact ⟨_, re, by first | exact Kd.R_nil _ _ _ _ _ | exact Kd.N_nil _ _ _ _ _ | exact Kd.V_nil _ _ _ _ _ | exact Kd.Q_nil _ _ _ _ _ | exact Kd.S_nil _ _ _ _ _, bw⟩
   replace H := gp H; obtain ⟨c14, H⟩ := H
   have c14b0 := eq_true c14
   have c14b1 : decide (401 ≤ 281474976710656) = true := decide_eq_true c14
   clear c14
   obtain ⟨y682, hy682⟩ : ∃ y_ : List Bool, y_ = (List.replicate 401 false) := ⟨_, rfl⟩
   replace H : (impl_FromGaps.l0 kj2 l0 y682 l0 (l0.length : Int) 0) = some (r1, r2) := by first | (rw [hy682]; with_reducible first | exact H | exact bs H) | (with_reducible first | exact bs H | exact H) | (rw [hy682]; exact H) | exact H
   have Ny682 := am hy682
   clear hy682
   have H' := am H
   clear H
   go_wp2_with (first | ((with_reducible refine gate_dst (N := 25) rfl ?_); refine Kd.R_make Kd.bool _ 4 rfl (N := 25) rfl 109 _ _ rfl 401 rfl rfl Try.underlying109 (.bool false) 1 info4 rfl (by decide) (by omega) false (ok := fun _ => True) (okp := fun _ => True) rfl (fun _ hk => hk) trivial (by omega) (by omega) (Below.refl _ _) (Nat.le_refl _) ?_; intro v683 w15 ho16 hb hg_ hnew_; clear hg_ hnew_; (first | rw [← Ny682.out] at ho16 | (simp only [Int.reduceToNat] at ho16; rw [← Ny682.out] at ho16)); have HO684 := am (Kd.R_lower ho16 (below_size bw)); replace BK676 := kb BK676 hb; replace BK680 := kb BK680 hb; replace HB := am (below_step bw hb); clear hb ho16))
   go_loopg [28] kj2 (fun kq v28 w' => ∃ (x6_2 : List Bool) (x28_2 : Int), v28 = .int .i64 x28_2 ∧ Aside0 (impl_FromGaps.l0 kq l0 x6_2 l0 (l0.length : Int) x28_2 = some (r1, r2)) ∧ Aside0 (kq ≤ kj2) ∧ Aside0 (Kd.R Kd.bool 4 w' w.heap.size (fun _ => True) v683 x6_2) ∧ Aside0 (w'.heap[gb676]? = some (.cells #[(.slice none 0 0)] 26 (0, 0))) ∧ Aside0 (w'.heap[gb680]? = some (.cells #[.int .i64 t677, .int .i64 t678] 33 (0, 0))) ∧ Aside0 (Below w.heap.size w w'))
   case atStart => exact ⟨(y682), (0), rr, H', ⟨Nat.le_refl _⟩, ⟨ro HO684.out⟩, ⟨bo BK676.out⟩, ⟨bo BK680.out⟩, ⟨bw⟩⟩
   case round =>
    clear H'
    try clear c14; try clear c14b0; try clear c14b1; try clear hcz13_0; try clear hcz8_0; try clear hcz8_1; try clear hfz13_0; try clear hfz8_0; try clear hfz8_1
    obtain ⟨x6_2, x28_2, rfl, HA, HK2, HO_6, BK676, BK680, HB⟩ := hrel
    cases gk with
    | zero => exact absurd HA.out (by simp [impl_FromGaps.l0])
    | succ k2 =>
     have H := HA.out
     clear HA
     simp only [impl_FromGaps.l0] at H
     replace H := gi H; obtain ⟨c17b0, H⟩ | ⟨c17b0, H⟩ := H
     ·replace H := gd H; obtain ⟨c18b0, H⟩ := H
      replace H := gd H; obtain ⟨c19b0, H⟩ := H
      replace H := gd H; obtain ⟨c20b0, H⟩ := H
      replace H := gd H; obtain ⟨c21b0, H⟩ := H
      obtain ⟨y686, hy686⟩ : ∃ y_ : List Bool, y_ = (x6_2.set ((rd l0 x28_2) : Int).toNat true) := ⟨_, rfl⟩
      replace H : (impl_FromGaps.l0 k2 l0 y686 l0 (l0.length : Int) (wrap64 (x28_2 + 1))) = some (r1, r2) := by first | (rw [hy686]; with_reducible first | exact H | exact bs H) | (with_reducible first | exact bs H | exact H) | (rw [hy686]; exact H) | exact H
      have Ny686 := am hy686
      clear hy686
      have H' := am H
      clear H
      obtain ⟨⟨ad685, e685, hx685_0⟩, p685, q685⟩ := pq (Kd.at_int HR0.out x28_2)
      cases e685
      replace hx685_0 := hw HB hx685_0
      have p22 : 0 ≤ ((rd l0 x28_2) : Int) := of_decide_eq_true (by first | (with_reducible assumption) | assumption)
      have q22 : ((rd l0 x28_2) : Int) < ((x6_2.length : Int) : Int) := of_decide_eq_true (by first | (with_reducible assumption) | assumption)
      obtain ⟨go22, co22, eo22, gb22, gl22, cl22, HG22⟩ := Kd.R_form HO_6.out (by omega)
      (first | cases eo22 | (injection eo22 with ea_ en_ ec_; (first | subst ea_ | (injection ea_ with ea_; subst ea_)); subst ec_; clear en_))
      have GB22 := am gb22
      have GG22 := am HG22
      clear gb22 gl22 HG22
      obtain ⟨hx22_0, hf22_0⟩ := Kd.R_celln false HO_6.out ((rd l0 x28_2) : Int) p22 q22
      replace p22 := eq_true p22
      replace q22 := eq_true q22
      have HP23 := Kd.R_putg HO_6.out ((rd l0 x28_2) : Int) true
      go_wp2_with (first | ((with_reducible refine gate_store (t := 4) (p := 34) rfl ?_); refine store_event (t := 4) (p := 34) (v := ?vo_w24) (w1 := (wr.setCell ⟨go22, ((rd l0 x28_2) : Int).toNat, none⟩ (.bool true))) ?hg ?ho ?hn ?hr ?_; (case ho => rfl); (case hg => rfl); (case hn => rfl); (case hr => first | (go_simp; done) | (go_simp; rfl)); intro w24 hw; have hg : wr.grownBy w24 (some go22) := (by rw [hw]; exact HP23.2); have hp_ : Kd.R Kd.bool 4 w24 w.heap.size (fun _ => True) (.slice (some ⟨go22, 0, none⟩) x6_2.length co22) y686 := (by rw [hw, Ny686.out]; exact HP23.1); clear HP23; replace BK676 := am (blk_grown (g := gb676) (o := .cells #[.slice none 0 0] 26 (0, 0)) (bo BK676.out) hg (Kd.R_ne HO_6.out BK676.out (by decide))); replace BK680 := am (blk_grown (g := gb680) (o := .cells #[.int .i64 t677, .int .i64 t678] 33 (0, 0)) (bo BK680.out) hg (Kd.R_ne HO_6.out BK680.out (by decide))); replace HO_6 := am (hp_); replace HB := am ((by rw [hw]; exact below_set (HB.out) GB22.out : Below w.heap.size w w24)); clear hg hw hp_))
      go_roundg k2
      case measure => have := HJ2.out; have := HK2.out; omega
      case rel => exact ⟨(y686), (wrap64 (x28_2 + 1)), rr, H', ⟨by have := HJ2.out; have := HK2.out; omega⟩, ⟨ro HO_6.out⟩, ⟨bo BK676.out⟩, ⟨bo BK680.out⟩, ⟨bw⟩⟩
     have H' := am H
     clear H
     go_wp2_with (first | ((with_reducible refine gate_dst (N := 9) rfl ?_); refine bx 9 #[.slice none 0 0] 26 ?_; intro gb687 hg w25 hbox hb; replace HO_6 := rK HO_6 hb; have BK687 := am (hbox); have GW687 := am (gs hg : w.heap.size ≤ gb687); have GE687 := GW687; replace HB := am (below_step bw hb); have NB676_687 := nl hg BK676; have NB687_676 := ns NB676_687; replace BK676 := kb BK676 hb; have NB680_687 := nl hg BK680; have NB687_680 := ns NB680_687; replace BK680 := kb BK680 hb; clear hb hbox hg; have hnb26 := NB687_676.out; have hnc26 := NB676_687.out; have hnb27 := NB687_680.out; have hnc27 := NB680_687.out; have hcz28_0 := bc BK687 0 (.slice none 0 0); have hfz28_0 := blk_frozen BK687.out 0))
     go_loopg [10] k2 (fun kq v10 w' => ∃ (x10_3 : Int) (x688000_3 : List Int) (u688000 : Value), v10 = .int .i64 x10_3 ∧ Aside0 (impl_FromGaps.l1 kq l0 x6_2 x10_3 x688000_3 = some (r1, r2)) ∧ Aside0 (kq ≤ k2) ∧ Aside0 (Kd.R Kd.bool 4 w' w.heap.size (fun _ => True) v683 x6_2) ∧ Aside0 (Kd.R (Kd.int .i64) 3 w' w.heap.size (fun _ => True) u688000 x688000_3) ∧ Aside0 (w'.heap[gb676]? = some (.cells #[(.slice none 0 0)] 26 (0, 0))) ∧ Aside0 (w'.heap[gb680]? = some (.cells #[.int .i64 t677, .int .i64 t678] 33 (0, 0))) ∧ Aside0 (w'.heap[gb687]? = some (.cells #[u688000] 26 (0, 0))) ∧ Aside0 (Below w.heap.size w w'))
     case atStart => exact ⟨(1), (([] : List Int)), (.slice none 0 0), rr, H', ⟨Nat.le_refl _⟩, ⟨by (with_reducible repeat (first | apply Kd.R_alloc | apply Kd.R_drewN | apply Kd.R_drew)); exact Kd.R_mono (Kd.R_far (p := ⟨gb687, 0, none⟩) (Kd.R_types HO_6.out BK687.out (by decide)) (fun _ hk => hk.2) (.slice none 0 0)) (fun _ hk => trivial)⟩, ⟨by first | exact Kd.R_nil _ _ _ _ _ | exact Kd.N_nil _ _ _ _ _ | exact Kd.V_nil _ _ _ _ _ | exact Kd.Q_nil _ _ _ _ _ | exact Kd.S_nil _ _ _ _ _⟩, ⟨bf BK676.out⟩, ⟨bf BK680.out⟩, ⟨by (with_reducible repeat (first | refine blk_drewN ?_ _ | refine blk_drew ?_ | refine blk_alloc ?_ _)); refine blk_put (cs := #[.slice none 0 0]) ?_ 0 _ rfl; (with_reducible repeat (first | refine blk_drewN ?_ _ | refine blk_drew ?_ | refine blk_alloc ?_ _)); exact BK687.out⟩, ⟨bw⟩⟩
     case round =>
      clear H'
      try clear c14; try clear c14b0; try clear c14b1; try clear c17b0; try clear c18b0; try clear c19b0; try clear c20b0; try clear c21b0; try clear p22; try clear q22; try clear hcz13_0; try clear hcz28_0; try clear hcz8_0; try clear hcz8_1; try clear hfz13_0; try clear hfz28_0; try clear hfz8_0; try clear hfz8_1; try clear hx22_0; try clear hx685_0; try clear p685; try clear q685
      obtain ⟨x10_3, x688000_3, u688000, rfl, HA, HK3, HO_6, HO_688000, BK676, BK680, BK687, HB⟩ := hrel
      cases gk with
      | zero => exact absurd HA.out (by simp [impl_FromGaps.l1])
      | succ k3 =>
       have H := HA.out
       clear HA
       simp only [impl_FromGaps.l1] at H
       replace H := gi H; obtain ⟨c29b0, H⟩ | ⟨c29b0, H⟩ := H
       ·replace H := gd H; obtain ⟨c30b0, H⟩ := H
        have H' := am H
        clear H
        obtain ⟨Ao31, co31, eo31⟩ := Kd.R_slice HO_6.out
        subst eo31
        obtain ⟨⟨ad688, e688, hx688_0⟩, p688, q688⟩ := pq (Kd.at_bool (Kd.R_reads' HO_6.out).2.2 x10_3)
        cases e688
        go_wp2
        go_loopg [11, 12] k3 (fun kq v11 v12 w' => ∃ (x11_4 : Bool) (x12_4 : Int), v11 = .bool x11_4 ∧ v12 = .int .i64 x12_4 ∧ Aside0 (impl_FromGaps.l2 kq l0 x6_2 x10_3 x11_4 x12_4 x688000_3 = some (r1, r2)) ∧ Aside0 (kq ≤ k3) ∧ Aside0 (Kd.R Kd.bool 4 w' w.heap.size (fun _ => True) (.slice (some ad688) x6_2.length co31) x6_2) ∧ Aside0 (Kd.R (Kd.int .i64) 3 w' w.heap.size (fun _ => True) u688000 x688000_3) ∧ Aside0 (w'.heap[gb676]? = some (.cells #[(.slice none 0 0)] 26 (0, 0))) ∧ Aside0 (w'.heap[gb680]? = some (.cells #[.int .i64 t677, .int .i64 t678] 33 (0, 0))) ∧ Aside0 (w'.heap[gb687]? = some (.cells #[u688000] 26 (0, 0))) ∧ Aside0 (Below w.heap.size w w'))
        case atStart => exact ⟨(rdOf false x6_2 x10_3), (1), rr, rr, H', ⟨Nat.le_refl _⟩, ⟨ro HO_6.out⟩, ⟨ro HO_688000.out⟩, ⟨bo BK676.out⟩, ⟨bo BK680.out⟩, ⟨bo BK687.out⟩, ⟨bw⟩⟩
        case round =>
         clear H'
         try clear c14; try clear c14b0; try clear c14b1; try clear c17b0; try clear c18b0; try clear c19b0; try clear c20b0; try clear c21b0; try clear p22; try clear q22; try clear c29b0; try clear c30b0; try clear hcz13_0; try clear hcz28_0; try clear hcz8_0; try clear hcz8_1; try clear hfz13_0; try clear hfz28_0; try clear hfz8_0; try clear hfz8_1; try clear hx22_0; try clear hx685_0; try clear hx688_0; try clear p685; try clear p688; try clear q685; try clear q688
         obtain ⟨x11_4, x12_4, rfl, rfl, HA, HK4, HO_6, HO_688000, BK676, BK680, BK687, HB⟩ := hrel
         cases gk with
         | zero => exact absurd HA.out (by simp [impl_FromGaps.l2])
         | succ k4 =>
          have H := HA.out
          clear HA
          simp only [impl_FromGaps.l2] at H
          replace H := gi H; obtain ⟨c32b0, H⟩ | ⟨c32b0, H⟩ := H
          ·replace H := gb H; obtain ⟨rfl, H⟩ | ⟨rfl, H⟩ := H
           ·have H' := am H
            clear H
            go_wp2
            go_roundg k4
            case measure => have := HJ2.out; have := HK2.out; have := HK3.out; have := HK4.out; omega
            case rel => exact ⟨(wrap64 (x10_3 + 1)), (x688000_3), (u688000), rr, H', ⟨by have := HJ2.out; have := HK2.out; have := HK3.out; have := HK4.out; omega⟩, ⟨ro HO_6.out⟩, ⟨ro HO_688000.out⟩, ⟨bo BK676.out⟩, ⟨bo BK680.out⟩, ⟨bo BK687.out⟩, ⟨bw⟩⟩
           replace H := gd H; obtain ⟨c34b0, H⟩ := H
           replace H := gd H; obtain ⟨c35b0, H⟩ := H
           obtain ⟨bq36, hbq36⟩ : ∃ b_ : Bool, b_ = (rdOf false x6_2 x12_4) := ⟨_, rfl⟩
           replace H : (if bq36 = true then (impl_FromGaps.l2 k4 l0 x6_2 x10_3 false (wrap64 (x12_4 + 1)) x688000_3) else (if 0 ≤ (wrap64 (x10_3 - x12_4)) then (if (wrap64 (x10_3 - x12_4)) < (x6_2.length : Int) then (impl_FromGaps.l2 k4 l0 x6_2 x10_3 (!(rdOf false x6_2 (wrap64 (x10_3 - x12_4)))) (wrap64 (x12_4 + 1)) x688000_3) else (none)) else (none))) = some (r1, r2) := by rw [← hbq36] at H; exact H
           have Nbq36 := am hbq36
           clear hbq36
           replace H := gb H; obtain ⟨rfl, H⟩ | ⟨rfl, H⟩ := H
           ·have H' := am H
            clear H
            obtain ⟨⟨ad689, e689, hx689_0⟩, p689, q689⟩ := pq (Kd.at_bool (Kd.R_reads' HO_6.out).2.2 x12_4)
            (try rw [← Nbq36.out] at hx689_0)
            obtain rfl : ad688 = ad689 := (by injection e689)
            go_wp2
            go_roundg k4
            case measure => have := HJ2.out; have := HK2.out; have := HK3.out; have := HK4.out; omega
            case rel => exact ⟨(false), (wrap64 (x12_4 + 1)), rr, rr, H', ⟨by have := HJ2.out; have := HK2.out; have := HK3.out; have := HK4.out; omega⟩, ⟨ro HO_6.out⟩, ⟨ro HO_688000.out⟩, ⟨bo BK676.out⟩, ⟨bo BK680.out⟩, ⟨bo BK687.out⟩, ⟨bw⟩⟩
           obtain ⟨ji38, hji38⟩ : ∃ j_ : Int, (wrap64 (x10_3 - x12_4)) = j_ := ⟨_, rfl⟩
           replace H : (if 0 ≤ (ji38) then (if (ji38) < (x6_2.length : Int) then (impl_FromGaps.l2 k4 l0 x6_2 x10_3 (!(rdOf false x6_2 (ji38))) (wrap64 (x12_4 + 1)) x688000_3) else (none)) else (none)) = some (r1, r2) := by first | (rw [hji38] at H; exact H) | (simp only [hji38] at H ⊢; exact H)
           have hji38w : (IntKind.i64.wrap (x10_3 - x12_4)) = ji38 := (i64_w _).trans hji38
           replace H := gd H; obtain ⟨c39b0, H⟩ := H
           replace H := gd H; obtain ⟨c40b0, H⟩ := H
           have H' := am H
           clear H
           obtain ⟨⟨ad689, e689, hx689_0⟩, p689, q689⟩ := pq (Kd.at_bool (Kd.R_reads' HO_6.out).2.2 x12_4)
           (try rw [← Nbq36.out] at hx689_0)
           obtain rfl : ad688 = ad689 := (by injection e689)
           obtain ⟨⟨ad690, e690, hx690_0⟩, p690, q690⟩ := pq (Kd.at_bool (Kd.R_reads' HO_6.out).2.2 (ji38))
           (try rw [← Nbq36.out] at hx690_0)
           obtain rfl : ad688 = ad690 := (by injection e690)
           go_wp2
           go_roundg k4
           case measure => have := HJ2.out; have := HK2.out; have := HK3.out; have := HK4.out; omega
           case rel => exact ⟨(!(rdOf false x6_2 (ji38))), (wrap64 (x12_4 + 1)), (by first | rfl | (simp; done) | (simp only [← hji38] <;> (first | rfl | simp)) | (simp [*]; done)), rr, H', ⟨by have := HJ2.out; have := HK2.out; have := HK3.out; have := HK4.out; omega⟩, ⟨ro HO_6.out⟩, ⟨ro HO_688000.out⟩, ⟨bo BK676.out⟩, ⟨bo BK680.out⟩, ⟨bo BK687.out⟩, ⟨bw⟩⟩
          replace H := gb H; obtain ⟨rfl, H⟩ | ⟨rfl, H⟩ := H
          ·have H' := am H
           clear H
           go_wp2
           go_roundg k4
           case measure => have := HJ2.out; have := HK2.out; have := HK3.out; have := HK4.out; omega
           case rel => exact ⟨(wrap64 (x10_3 + 1)), (x688000_3), (u688000), rr, H', ⟨by have := HJ2.out; have := HK2.out; have := HK3.out; have := HK4.out; omega⟩, ⟨ro HO_6.out⟩, ⟨ro HO_688000.out⟩, ⟨bo BK676.out⟩, ⟨bo BK680.out⟩, ⟨bo BK687.out⟩, ⟨bw⟩⟩
          by_cases c42 : x688000_3.length < 17592186044416
          rotate_left
          ·rw [if_neg c42] at H
           exact absurd H (by simp)
          rw [if_pos c42] at H
          have LMc42 := am c42
          clear c42
          obtain ⟨y691, hy691⟩ : ∃ y_ : List Int, y_ = (x688000_3 ++ [x10_3]) := ⟨_, rfl⟩
          replace H : (impl_FromGaps.l1 k4 l0 x6_2 (wrap64 (x10_3 + 1)) y691) = some (r1, r2) := by first | (rw [hy691]; with_reducible first | exact H | exact bs H) | (with_reducible first | exact bs H | exact H) | (rw [hy691]; exact H) | exact H
          have Ny691 := am hy691
          clear hy691
          have H' := am H
          clear H
          have hnb43 := NB687_676.out
          have hnc43 := NB676_687.out
          have hnb44 := NB687_680.out
          have hnc44 := NB680_687.out
          have hcz45_0 := bc BK687 0 (u688000)
          have hfz45_0 := blk_frozen BK687.out 0
          go_wp2_with (first | ((with_reducible refine gate_builtin (b := .append) (xs := #[.tmp 74, .tmp 76]) rfl ?_); at_builtin; refine Kd.R_append (Kd.int .i64) (w0 := w) w.heap.size rfl (.tmp 74) (.tmp 76) 24 3 (.int .i64 0) 8 rfl Try.underlying24 info3 rfl (by decide) (by omega) u688000 x688000_3 x10_3 [.int .i64 x10_3] (fun _ => True) (fun _ => False) rfl rfl ?aP (fun _ hk => hk.elim) ?aF ?aO ?aB ?aS ?aL ?_; (case aP => exact rfl); (case aB => exact bw); (case aF => exact (fun _ _ => trivial)); (case aO => exact (ro HO_688000.out)); (case aS => exact (below_size bw)); (case aL => have := LMc42.out; omega); intro v692 w46 ho hb hg hat; rw [← Ny691.out] at ho; replace HO_6 := am (Kd.R_over' (ro HO_6.out) (Kd.R_typed (ro HO_688000.out)) (by decide) hg); replace BK676 := am (blk_grown (g := gb676) (o := .cells #[.slice none 0 0] 26 (0, 0)) (bo BK676.out) hg (Kd.R_ne HO_688000.out BK676.out (by decide))); replace BK680 := am (blk_grown (g := gb680) (o := .cells #[.int .i64 t677, .int .i64 t678] 33 (0, 0)) (bo BK680.out) hg (Kd.R_ne HO_688000.out BK680.out (by decide))); replace BK687 := am (blk_grown (g := gb687) (o := .cells #[u688000] 26 (0, 0)) (bo BK687.out) hg (Kd.R_ne HO_688000.out BK687.out (by decide))); replace HB := am (hb); have HO693 := am (ho); clear HO_688000 ho hb hg hat; obtain ⟨Ao47, co47, eo47⟩ := Kd.R_slice HO693.out; subst eo47; have hcz48_0 := bc BK687 0 (u688000); have hfz48_0 := blk_frozen BK687.out 0))
          go_roundg k4
          case measure => have := HJ2.out; have := HK2.out; have := HK3.out; have := HK4.out; omega
          case rel => exact ⟨(wrap64 (x10_3 + 1)), (y691), (.slice Ao47 y691.length co47), rr, H', ⟨by have := HJ2.out; have := HK2.out; have := HK3.out; have := HK4.out; omega⟩, ⟨by (with_reducible repeat (first | apply Kd.R_alloc | apply Kd.R_drewN | apply Kd.R_drew)); exact Kd.R_mono (Kd.R_far (p := ⟨gb687, 0, none⟩) (Kd.R_types HO_6.out BK687.out (by decide)) (fun _ hk => hk.2) (.slice Ao47 y691.length co47)) (fun _ hk => trivial)⟩, ⟨by (with_reducible repeat (first | apply Kd.R_alloc | apply Kd.R_drewN | apply Kd.R_drew)); exact Kd.R_mono (Kd.R_far (p := ⟨gb687, 0, none⟩) (Kd.R_types HO693.out BK687.out (by decide)) (fun _ hk => hk.2) (.slice Ao47 y691.length co47)) (fun _ hk => trivial)⟩, ⟨bf BK676.out⟩, ⟨bf BK680.out⟩, ⟨by (with_reducible repeat (first | refine blk_drewN ?_ _ | refine blk_drew ?_ | refine blk_alloc ?_ _)); refine blk_put (cs := #[u688000]) ?_ 0 _ rfl; (with_reducible repeat (first | refine blk_drewN ?_ _ | refine blk_drew ?_ | refine blk_alloc ?_ _)); exact BK687.out⟩, ⟨bw⟩⟩
       replace H := ga H; obtain ⟨t694, A49, H⟩ := H
       replace H := gb H; obtain ⟨rfl, H⟩ | ⟨rfl, H⟩ := H
       ·replace H := ga H; obtain ⟨t695, A51, H⟩ := H
        replace H := ga H; obtain ⟨t698, A52, H⟩ := H
        replace H := gb H; obtain ⟨rfl, H⟩ | ⟨rfl, H⟩ := H
        ·simp only [Option.some.injEq, Prod.mk.injEq] at H
         obtain ⟨rfl, rfl⟩ := H
         obtain ⟨Ao54, co54, eo54⟩ := Kd.R_slice HO_6.out
         subst eo54
         have hnb55 := NB687_676.out
         have hnc55 := NB676_687.out
         have hnb56 := NB687_680.out
         have hnc56 := NB680_687.out
         have hcz57_0 := bc BK687 0 (u688000)
         have hfz57_0 := blk_frozen BK687.out 0
         obtain ⟨Ao58, co58, eo58⟩ := Kd.R_slice HO_688000.out
         subst eo58
         go_wp2_with (first | ((with_reducible refine gate_callee (f := 151) rfl ?_); refine gl (some 80) Try.func151 #[.agg #[.slice Ao58 x688000_3.length co58]] ?_; (with_reducible refine (impl_IsSemigroup.calls k3 _ _ x688000_3 true _ ?side1 ?side2 A49.out).mono ?_); (case side1 => exact co (Kd.R_reads' HO_688000.out).2.2); (case side2 => exact (Kd.R_reads' HO_688000.out).2.1); rintro e w59 ⟨rfl, hb⟩; refine ⟨_, rfl, ?_⟩; replace HO_6 := rK HO_6 hb; replace HO_688000 := rK HO_688000 hb; replace BK676 := kb BK676 hb; replace BK680 := kb BK680 hb; replace BK687 := kb BK687 hb; replace HB := am (below_step bw hb); clear hb; have hcz60_0 := bc BK687 0 (.slice Ao58 x688000_3.length co58); have hfz60_0 := blk_frozen BK687.out 0) | (go_at_call 90; (with_reducible refine (impl_Gaps.calls k3 _ _ x688000_3 t695 _ ?side1 ?side2 A51.out).mono ?_); (case side1 => exact co (Kd.R_reads' HO_688000.out).2.2); (case side2 => exact (Kd.R_reads' HO_688000.out).2.1); rintro e w61 ⟨v696, rfl, ho0, hb⟩; replace HO_6 := rK HO_6 hb; have HO697 := am (Kd.R_lower (Kd.R_new' ho0 (Kd.R_lt (ro HO_688000.out))) (below_size bw)); replace HO_688000 := am (Kd.R_elder' (ro HO_688000.out) (Kd.R_base ho0) hb); replace BK676 := kb BK676 hb; replace BK680 := kb BK680 hb; replace BK687 := kb BK687 hb; replace HB := am (below_step bw hb); clear hb ho0; obtain ⟨Ao62, co62, eo62⟩ := Kd.R_slice HO697.out; subst eo62) | (go_at_call 137; (with_reducible refine (slices_Equal_int_int.calls k3 _ _ t695 _ _ l0 true _ ?side1 ?side2 ?side3 ?side4 A52.out).mono ?_); (case side1 => exact co (Kd.R_reads' HO697.out).2.2); (case side2 => exact (Kd.R_reads' HO697.out).2.1); (case side3 => exact co (Kd.C_below HR0.out HB.out)); (case side4 => exact HC0.out); rintro e w' ⟨rfl, ⟨nd, rfl⟩⟩; (try (rw [drewN_self w61]; generalize hq_ : World.drewN w61 _ = w61; have n0_ : Aside0 (Kd.R (Kd.int .i64) 3 w61 w.heap.size (fun k_ => nb k_ Ao58 x688000_3 co58) (.slice Ao62 t695.length co62) t695) := ⟨by rw [← hq_]; exact (by (with_reducible repeat (first | apply Kd.R_alloc | apply Kd.R_drewN | apply Kd.R_drew)); exact Kd.R_mono HO697.out (fun _ hk => hk.2))⟩; have n1_ : Aside0 (Kd.R Kd.bool 4 w61 w.heap.size (fun _ => True) (.slice Ao54 x6_2.length co54) x6_2) := ⟨by rw [← hq_]; exact (ro HO_6.out)⟩; have n2_ : Aside0 (Kd.R (Kd.int .i64) 3 w61 w.heap.size (fun k_ => nb k_ Ao62 t695 co62) (.slice Ao58 x688000_3.length co58) x688000_3) := ⟨by rw [← hq_]; exact (by (with_reducible repeat (first | apply Kd.R_alloc | apply Kd.R_drewN | apply Kd.R_drew)); exact Kd.R_mono HO_688000.out (fun _ hk => hk.2))⟩; have n3_ : Aside0 (w61.heap[gb676]? = some (.cells #[.slice none 0 0] 26 (0, 0))) := ⟨by rw [← hq_]; exact (bo BK676.out)⟩; have n4_ : Aside0 (w61.heap[gb680]? = some (.cells #[.int .i64 t677, .int .i64 t678] 33 (0, 0))) := ⟨by rw [← hq_]; exact (bo BK680.out)⟩; have n5_ : Aside0 (w61.heap[gb687]? = some (.cells #[.slice Ao58 x688000_3.length co58] 26 (0, 0))) := ⟨by rw [← hq_]; exact (bo BK687.out)⟩; have n6_ : Aside0 (Below w.heap.size w w61) := ⟨by rw [← hq_]; exact bw⟩; clear HO697 HO_6 HO_688000 BK676 BK680 BK687 HB hq_; have HO697 := n0_; have HO_6 := n1_; have HO_688000 := n2_; have BK676 := n3_; have BK680 := n4_; have BK687 := n5_; have HB := n6_; clear n0_ n1_ n2_ n3_ n4_ n5_ n6_)); have hcz63_0 := bc BK687 0 (.slice Ao58 x688000_3.length co58); have hfz63_0 := blk_frozen BK687.out 0; have hnb64 := NB676_680.out; have hnc64 := NB680_676.out; have hcz65_0 := bc BK676 0 (.slice none 0 0); have hfz65_0 := blk_frozen BK676.out 0))
         refine bodyPost_ret (results_ct rfl _ _ gb676 26 #[.slice Ao58 x688000_3.length co58] (0, 0) _ rfl (by (with_reducible repeat (first | refine blk_drewN ?_ _ | refine blk_drew ?_ | refine blk_alloc ?_ _)); refine blk_put (cs := #[.slice none 0 0]) ?_ 0 _ rfl; (with_reducible repeat (first | refine blk_drewN ?_ _ | refine blk_drew ?_ | refine blk_alloc ?_ _)); exact BK676.out) Try.underlying26 rfl (by kernel_rfl)) rfl ?_
         exact ⟨_, re, by (with_reducible repeat (first | apply Kd.R_alloc | apply Kd.R_drewN | apply Kd.R_drew)); exact Kd.R_mono (Kd.R_far (p := ⟨gb676, 0, none⟩) (Kd.R_types HO_688000.out BK676.out (by decide)) (fun _ hk => hk.2) (.slice Ao58 x688000_3.length co58)) (fun _ hk => trivial), bw⟩
        simp only [Option.some.injEq, Prod.mk.injEq] at H
        obtain ⟨rfl, rfl⟩ := H
        obtain ⟨Ao66, co66, eo66⟩ := Kd.R_slice HO_6.out
        subst eo66
        have hnb67 := NB687_676.out
        have hnc67 := NB676_687.out
        have hnb68 := NB687_680.out
        have hnc68 := NB680_687.out
        have hcz69_0 := bc BK687 0 (u688000)
        have hfz69_0 := blk_frozen BK687.out 0
        obtain ⟨Ao70, co70, eo70⟩ := Kd.R_slice HO_688000.out
        subst eo70
        go_wp2_with (first | ((with_reducible refine gate_callee (f := 151) rfl ?_); refine gl (some 80) Try.func151 #[.agg #[.slice Ao70 x688000_3.length co70]] ?_; (with_reducible refine (impl_IsSemigroup.calls k3 _ _ x688000_3 true _ ?side1 ?side2 A49.out).mono ?_); (case side1 => exact co (Kd.R_reads' HO_688000.out).2.2); (case side2 => exact (Kd.R_reads' HO_688000.out).2.1); rintro e w71 ⟨rfl, hb⟩; refine ⟨_, rfl, ?_⟩; replace HO_6 := rK HO_6 hb; replace HO_688000 := rK HO_688000 hb; replace BK676 := kb BK676 hb; replace BK680 := kb BK680 hb; replace BK687 := kb BK687 hb; replace HB := am (below_step bw hb); clear hb; have hcz72_0 := bc BK687 0 (.slice Ao70 x688000_3.length co70); have hfz72_0 := blk_frozen BK687.out 0) | (go_at_call 90; (with_reducible refine (impl_Gaps.calls k3 _ _ x688000_3 t695 _ ?side1 ?side2 A51.out).mono ?_); (case side1 => exact co (Kd.R_reads' HO_688000.out).2.2); (case side2 => exact (Kd.R_reads' HO_688000.out).2.1); rintro e w73 ⟨v696, rfl, ho0, hb⟩; replace HO_6 := rK HO_6 hb; have HO697 := am (Kd.R_lower (Kd.R_new' ho0 (Kd.R_lt (ro HO_688000.out))) (below_size bw)); replace HO_688000 := am (Kd.R_elder' (ro HO_688000.out) (Kd.R_base ho0) hb); replace BK676 := kb BK676 hb; replace BK680 := kb BK680 hb; replace BK687 := kb BK687 hb; replace HB := am (below_step bw hb); clear hb ho0; obtain ⟨Ao74, co74, eo74⟩ := Kd.R_slice HO697.out; subst eo74) | (go_at_call 137; (with_reducible refine (slices_Equal_int_int.calls k3 _ _ t695 _ _ l0 false _ ?side1 ?side2 ?side3 ?side4 A52.out).mono ?_); (case side1 => exact co (Kd.R_reads' HO697.out).2.2); (case side2 => exact (Kd.R_reads' HO697.out).2.1); (case side3 => exact co (Kd.C_below HR0.out HB.out)); (case side4 => exact HC0.out); rintro e w' ⟨rfl, ⟨nd, rfl⟩⟩; (try (rw [drewN_self w73]; generalize hq_ : World.drewN w73 _ = w73; have n0_ : Aside0 (Kd.R (Kd.int .i64) 3 w73 w.heap.size (fun k_ => nb k_ Ao70 x688000_3 co70) (.slice Ao74 t695.length co74) t695) := ⟨by rw [← hq_]; exact (by (with_reducible repeat (first | apply Kd.R_alloc | apply Kd.R_drewN | apply Kd.R_drew)); exact Kd.R_mono HO697.out (fun _ hk => hk.2))⟩; have n1_ : Aside0 (Kd.R Kd.bool 4 w73 w.heap.size (fun _ => True) (.slice Ao66 x6_2.length co66) x6_2) := ⟨by rw [← hq_]; exact (ro HO_6.out)⟩; have n2_ : Aside0 (Kd.R (Kd.int .i64) 3 w73 w.heap.size (fun k_ => nb k_ Ao74 t695 co74) (.slice Ao70 x688000_3.length co70) x688000_3) := ⟨by rw [← hq_]; exact (by (with_reducible repeat (first | apply Kd.R_alloc | apply Kd.R_drewN | apply Kd.R_drew)); exact Kd.R_mono HO_688000.out (fun _ hk => hk.2))⟩; have n3_ : Aside0 (w73.heap[gb676]? = some (.cells #[.slice none 0 0] 26 (0, 0))) := ⟨by rw [← hq_]; exact (bo BK676.out)⟩; have n4_ : Aside0 (w73.heap[gb680]? = some (.cells #[.int .i64 t677, .int .i64 t678] 33 (0, 0))) := ⟨by rw [← hq_]; exact (bo BK680.out)⟩; have n5_ : Aside0 (w73.heap[gb687]? = some (.cells #[.slice Ao70 x688000_3.length co70] 26 (0, 0))) := ⟨by rw [← hq_]; exact (bo BK687.out)⟩; have n6_ : Aside0 (Below w.heap.size w w73) := ⟨by rw [← hq_]; exact bw⟩; clear HO697 HO_6 HO_688000 BK676 BK680 BK687 HB hq_; have HO697 := n0_; have HO_6 := n1_; have HO_688000 := n2_; have BK676 := n3_; have BK680 := n4_; have BK687 := n5_; have HB := n6_; clear n0_ n1_ n2_ n3_ n4_ n5_ n6_)); have hnb75 := NB676_680.out; have hnc75 := NB680_676.out; have hcz76_0 := bc BK676 0 (.slice none 0 0); have hfz76_0 := blk_frozen BK676.out 0))
        refine bodyPost_ret (results_ct rfl _ _ gb676 26 #[.slice none 0 0] (0, 0) _ rfl (by (with_reducible repeat (first | refine blk_drewN ?_ _ | refine blk_drew ?_ | refine blk_alloc ?_ _)); refine blk_put (cs := #[.slice none 0 0]) ?_ 0 _ rfl; (with_reducible repeat (first | refine blk_drewN ?_ _ | refine blk_drew ?_ | refine blk_alloc ?_ _)); exact BK676.out) Try.underlying26 rfl (by kernel_rfl)) rfl ?_
        exact ⟨_, re, by first | exact Kd.R_nil _ _ _ _ _ | exact Kd.N_nil _ _ _ _ _ | exact Kd.V_nil _ _ _ _ _ | exact Kd.Q_nil _ _ _ _ _ | exact Kd.S_nil _ _ _ _ _, bw⟩
       simp only [Option.some.injEq, Prod.mk.injEq] at H
       obtain ⟨rfl, rfl⟩ := H
       obtain ⟨Ao77, co77, eo77⟩ := Kd.R_slice HO_6.out
       subst eo77
       have hnb78 := NB687_676.out
       have hnc78 := NB676_687.out
       have hnb79 := NB687_680.out
       have hnc79 := NB680_687.out
       have hcz80_0 := bc BK687 0 (u688000)
       have hfz80_0 := blk_frozen BK687.out 0
       obtain ⟨Ao81, co81, eo81⟩ := Kd.R_slice HO_688000.out
       subst eo81
       go_wp2_with (first | ((with_reducible refine gate_callee (f := 151) rfl ?_); refine gl (some 80) Try.func151 #[.agg #[.slice Ao81 x688000_3.length co81]] ?_; (with_reducible refine (impl_IsSemigroup.calls k3 _ _ x688000_3 false _ ?side1 ?side2 A49.out).mono ?_); (case side1 => exact co (Kd.R_reads' HO_688000.out).2.2); (case side2 => exact (Kd.R_reads' HO_688000.out).2.1); rintro e w82 ⟨rfl, hb⟩; refine ⟨_, rfl, ?_⟩; replace HO_6 := rK HO_6 hb; replace HO_688000 := rK HO_688000 hb; replace BK676 := kb BK676 hb; replace BK680 := kb BK680 hb; replace BK687 := kb BK687 hb; replace HB := am (below_step bw hb); clear hb; have hnb83 := NB676_680.out; have hnc83 := NB680_676.out; have hcz84_0 := bc BK676 0 (.slice none 0 0); have hfz84_0 := blk_frozen BK676.out 0))
       refine bodyPost_ret (results_ct rfl _ _ gb676 26 #[.slice none 0 0] (0, 0) _ rfl (by (with_reducible repeat (first | refine blk_drewN ?_ _ | refine blk_drew ?_ | refine blk_alloc ?_ _)); refine blk_put (cs := #[.slice none 0 0]) ?_ 0 _ rfl; (with_reducible repeat (first | refine blk_drewN ?_ _ | refine blk_drew ?_ | refine blk_alloc ?_ _)); exact BK676.out) Try.underlying26 rfl (by kernel_rfl)) rfl ?_
       exact ⟨_, re, by first | exact Kd.R_nil _ _ _ _ _ | exact Kd.N_nil _ _ _ _ _ | exact Kd.V_nil _ _ _ _ _ | exact Kd.Q_nil _ _ _ _ _ | exact Kd.S_nil _ _ _ _ _, bw⟩

end Go.Proofs.Ytkfplkdchkmgbaa.C
