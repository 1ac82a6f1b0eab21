/- Contracts of functions of the program: impl_GapClash, slices_Equal_int_int, impl_FromGaps. -/
import Derived.Test.YtlhcpbpcdicleaaC0
import Derived.Test.YtlhcpbpcdicleaaC1
import Derived.Test.YtlhcpbpcdicleaaC2
import Derived.Test.YtlhcpbpcdicleaaC7
namespace Go.Proofs.Ytlhcpbpcdicleaa.C
open Go.RowKit Go.Proofs.YtlhcpbpcdicleaaW.PrintWords Go.Proofs.YtlhcpbpcdicleaaW.PrintLast Go.Proofs.YtlhcpbpcdicleaaW.PrintMore
attribute [local go_sem] max2_int min2_int max_two min_two max_three min_three max_four min_four
set_option linter.unusedVariables false
set_option linter.unusedSimpArgs false
set_option maxHeartbeats 8000000
set_option maxRecDepth 100000

/-! ### impl_GapClash: function 61 -/
mutual
def impl_GapClash.j0 : Nat → List Int → Bool → Option (Int × Int × Bool)
 | 0, _, _ => none
 | k + 1, x0, x17 => if x17 = true then (some (0, 0, false)) else (if 201 ≤ 281474976710656 then (impl_GapClash.l0 k x0 (List.replicate 201 false) x0 (x0.length : Int) 0) else (none))
def impl_GapClash.l0 : Nat → List Int → List Bool → List Int → Int → Int → Option (Int × Int × Bool)
 | 0, _, _, _, _, _ => none
 | k + 1, x0, x4, x20, x21, x22 => if x22 < x21 then (if 0 ≤ x22 then (if x22 < (x20.length : Int) then (if 0 ≤ (rd x20 x22) then (if (rd x20 x22) < (x4.length : Int) then (impl_GapClash.l0 k x0 (x4.set ((rd x20 x22) : Int).toNat true) x20 x21 (wrap64 (x22 + 1))) else (none)) else (none)) else (none)) else (none)) else (if 0 ≤ (wrap64 ((x0.length : Int) - 1)) then (if (wrap64 ((x0.length : Int) - 1)) < (x0.length : Int) then (impl_GapClash.l1 k x4 (rd x0 (wrap64 ((x0.length : Int) - 1))) 1) else (none)) else (none))
def impl_GapClash.l1 : Nat → List Bool → Int → Int → Option (Int × Int × Bool)
 | 0, _, _, _ => none
 | k + 1, x4, x7, x8 => if x8 ≤ x7 then (impl_GapClash.l2 k x4 x7 x8 x8) else (some (0, 0, false))
def impl_GapClash.l2 : Nat → List Bool → Int → Int → Int → Option (Int × Int × Bool)
 | 0, _, _, _, _ => none
 | k + 1, x4, x7, x8, x9 => if (wrap64 (x8 + x9)) ≤ x7 then (if 0 ≤ x8 then (if x8 < (x4.length : Int) then (if rdOf false x4 x8 = true then (impl_GapClash.l2 k x4 x7 x8 (wrap64 (x9 + 1))) else (if 0 ≤ x9 then (if x9 < (x4.length : Int) then (if rdOf false x4 x9 = true then (impl_GapClash.l2 k x4 x7 x8 (wrap64 (x9 + 1))) else (if 0 ≤ (wrap64 (x8 + x9)) then (if (wrap64 (x8 + x9)) < (x4.length : Int) then (if rdOf false x4 (wrap64 (x8 + x9)) = true then (some (x8, x9, true)) else (impl_GapClash.l2 k x4 x7 x8 (wrap64 (x9 + 1)))) else (none)) else (none))) else (none)) else (none))) else (none)) else (none)) else (impl_GapClash.l1 k x4 x7 (wrap64 (x8 + 1)))
end
def impl_GapClash.f (k : Nat) (l0 : List Int) : Option (Int × Int × Bool) := (impl_gapList.f k l0).bind fun t498 => (if t498 = true then (impl_GapClash.j0 k l0 ((l0.length : Int) == 0)) else (impl_GapClash.j0 k l0 true))
theorem impl_GapClash.calls (k : Nat) (A0 : Option Addr) (c0 : Nat) (l0 : List Int) (r1 : Int) (r2 : Int) (r3 : Bool) (w : World) (hr0 : Kd.C (Kd.int .i64) w A0 l0.length l0) (hc0 : l0.length ≤ c0) (h : impl_GapClash.f k l0 = some (r1, r2, r3)) :
  Calls Try.prog 61 #[.slice A0 l0.length c0] w fun e w' => e = .returned (.tuple #[.agg #[.int .i64 r1, .int .i64 r2], .bool r3]) ∧ Below w.heap.size w w' := by
 have hu54 := Try.underlying54
 have HR0 := am hr0
 have HC0 := am hc0
 clear hr0 hc0
 have HB := am (Below.refl w.heap.size w)
 unfold impl_GapClash.f at h
 have H := h
 clear h
 have HC2 := am H
 clear H
 go_enter Try.func61, Try.ntmps61
 go_upto_region 1 with (first | ((with_reducible refine gate_dst (N := 2) rfl ?_); (try (refine gate_guard (by rfl) ?_; dsimp only)); refine bx 2 #[.int .i64 0, .int .i64 0] 54 ?_; intro gb497 hg w3 hbox hb; have BK497 := am (hbox); have GW497 := am (gs hg : w.heap.size ≤ gb497); have GE497 := GW497; replace HB := am (below_step bw hb); clear hb hbox hg))
 (try simp only [Act.put, List.setIfInBounds_toArray, List.set_cons_zero, List.set_cons_succ])
 go_cut [17] (fun v17 wc => ∃ (kq : Nat) (x17_1 : Bool), v17 = .bool x17_1 ∧ Aside0 (impl_GapClash.j0 kq l0 x17_1 = some (r1, r2, r3)) ∧ Aside0 (kq ≤ k) ∧ Aside0 (wc.heap[gb497]? = some (.cells #[.int .i64 0, .int .i64 0] 54 (0, 0))) ∧ Aside0 (Below w.heap.size w wc))
 case first =>
  have H := HC2.out
  clear HC2
  replace H := ga H; obtain ⟨t498, A4, H⟩ := H
  replace H := gb H; obtain ⟨rfl, H⟩ | ⟨rfl, H⟩ := H
  ·have H' := am H
   clear H
   go_wp2_with (first | ((with_reducible refine gate_callee (f := 62) rfl ?_); refine gl (some 11) Try.func62 #[.slice A0 l0.length c0] ?_; (with_reducible refine (impl_gapList.calls k _ _ l0 true _ ?side1 ?side2 A4.out).mono ?_); (case side1 => exact co (Kd.C_below HR0.out HB.out)); (case side2 => exact HC0.out); rintro e w' ⟨rfl, ⟨nd, rfl⟩⟩; refine ⟨_, rfl, ?_⟩))
   go_meet
   case rel => exact ⟨_, (((l0.length : Int) == 0)), rr, H', ⟨om⟩, ⟨bo BK497.out⟩, ⟨bw⟩⟩
  have H' := am H
  clear H
  go_wp2_with (first | ((with_reducible refine gate_callee (f := 62) rfl ?_); refine gl (some 11) Try.func62 #[.slice A0 l0.length c0] ?_; (with_reducible refine (impl_gapList.calls k _ _ l0 false _ ?side1 ?side2 A4.out).mono ?_); (case side1 => exact co (Kd.C_below HR0.out HB.out)); (case side2 => exact HC0.out); rintro e w' ⟨rfl, ⟨nd, rfl⟩⟩; refine ⟨_, rfl, ?_⟩))
  go_meet
  case rel => exact ⟨_, (true), rr, H', ⟨om⟩, ⟨bo BK497.out⟩, ⟨bw⟩⟩
 case rest =>
  clear HC2
  obtain ⟨kq, x17_1, rfl, HA, HJ1, BK497, HB⟩ := hcut
  cases kq with
  | zero => exact absurd HA.out (by simp [impl_GapClash.j0])
  | succ kj1 =>
   have H := HA.out
   clear HA
   simp only [impl_GapClash.j0] at H
   replace H := gb H; obtain ⟨rfl, H⟩ | ⟨rfl, H⟩ := H
   ·simp only [Option.some.injEq, Prod.mk.injEq] at H
    obtain ⟨rfl, rfl, rfl⟩ := H
    have hcz7_0 := bc BK497 0 (.int .i64 0)
    have hcz7_1 := bc BK497 1 (.int .i64 0)
    have hfz7_0 := blk_frozen BK497.out 0
    have hfz7_1 := blk_frozen BK497.out 1
    go_wp2
    refine bodyPost_ret (results_ct rfl _ _ gb497 54 #[.int .i64 0, .int .i64 0] (0, 0) _ rfl (by (with_reducible repeat (first | refine blk_drewN ?_ _ | refine blk_drew ?_ | refine blk_alloc ?_ _)); refine blk_put (cs := #[.int .i64 0, .int .i64 0]) ?_ 1 _ rfl; (with_reducible repeat (first | refine blk_drewN ?_ _ | refine blk_drew ?_ | refine blk_alloc ?_ _)); refine blk_put (cs := #[.int .i64 0, .int .i64 0]) ?_ 0 _ rfl; (with_reducible repeat (first | refine blk_drewN ?_ _ | refine blk_drew ?_ | refine blk_alloc ?_ _)); exact BK497.out) Try.underlying54 rfl (by kernel_rfl)) rfl ?_
    exact ⟨re, bw⟩
   replace H := gp H; obtain ⟨c8, H⟩ := H
   have c8b0 := eq_true c8
   have c8b1 : decide (201 ≤ 281474976710656) = true := decide_eq_true c8
   clear c8
   obtain ⟨y499, hy499⟩ : ∃ y_ : List Bool, y_ = (List.replicate 201 false) := ⟨_, rfl⟩
   replace H : (impl_GapClash.l0 kj1 l0 y499 l0 (l0.length : Int) 0) = some (r1, r2, r3) := by first | (rw [hy499]; with_reducible first | exact H | exact bs H) | (with_reducible first | exact bs H | exact H) | (rw [hy499]; exact H) | exact H
   have Ny499 := am hy499
   clear hy499
   have H' := am H
   clear H
   go_wp2_with (first | ((with_reducible refine gate_dst (N := 19) rfl ?_); (try (refine gate_guard (by rfl) ?_; dsimp only)); refine Kd.R_make Kd.bool _ 4 rfl (N := 19) rfl 57 _ _ rfl 201 rfl rfl Try.underlying57 (.bool false) 1 info4 rfl (by decide) (by omega) false (ok := fun _ => True) (okp := fun _ => True) rfl (fun _ hk => hk) trivial (by omega) (by omega) (Below.refl _ _) (Nat.le_refl _) ?_; intro v500 w9 ho10 hb hg_ hnew_; clear hg_ hnew_; (first | rw [← Ny499.out] at ho10 | (simp only [Int.reduceToNat] at ho10; rw [← Ny499.out] at ho10)); have HO501 := am (Kd.R_lower ho10 (below_size bw)); replace BK497 := kb BK497 hb; replace HB := am (below_step bw hb); clear hb ho10))
   go_loopg [22] kj1 (fun kq v22 w' => ∃ (x4_2 : List Bool) (x22_2 : Int), v22 = .int .i64 x22_2 ∧ Aside0 (impl_GapClash.l0 kq l0 x4_2 l0 (l0.length : Int) x22_2 = some (r1, r2, r3)) ∧ Aside0 (kq ≤ kj1) ∧ Aside0 (Kd.R Kd.bool 4 w' w.heap.size (fun _ => True) v500 x4_2) ∧ Aside0 (w'.heap[gb497]? = some (.cells #[.int .i64 0, .int .i64 0] 54 (0, 0))) ∧ Aside0 (Below w.heap.size w w'))
   case atStart => exact ⟨(y499), (0), rr, H', ⟨Nat.le_refl _⟩, ⟨ro HO501.out⟩, ⟨bo BK497.out⟩, ⟨bw⟩⟩
   case round =>
    clear H'
    try clear c8; try clear c8b0; try clear c8b1; try clear hcz7_0; try clear hcz7_1; try clear hfz7_0; try clear hfz7_1
    obtain ⟨x4_2, x22_2, rfl, HA, HK2, HO_4, BK497, HB⟩ := hrel
    cases gk with
    | zero => exact absurd HA.out (by simp [impl_GapClash.l0])
    | succ k2 =>
     have H := HA.out
     clear HA
     simp only [impl_GapClash.l0] at H
     replace H := gi H; obtain ⟨c11b0, H⟩ | ⟨c11b0, H⟩ := H
     ·replace H := gd H; obtain ⟨c12b0, H⟩ := H
      replace H := gd H; obtain ⟨c13b0, H⟩ := H
      replace H := gd H; obtain ⟨c14b0, H⟩ := H
      replace H := gd H; obtain ⟨c15b0, H⟩ := H
      obtain ⟨y503, hy503⟩ : ∃ y_ : List Bool, y_ = (x4_2.set ((rd l0 x22_2) : Int).toNat true) := ⟨_, rfl⟩
      replace H : (impl_GapClash.l0 k2 l0 y503 l0 (l0.length : Int) (wrap64 (x22_2 + 1))) = some (r1, r2, r3) := by first | (rw [hy503]; with_reducible first | exact H | exact bs H) | (with_reducible first | exact bs H | exact H) | (rw [hy503]; exact H) | exact H
      have Ny503 := am hy503
      clear hy503
      have H' := am H
      clear H
      obtain ⟨⟨ad502, e502, hx502_0⟩, p502, q502⟩ := pq (Kd.at_int HR0.out x22_2)
      cases e502
      replace hx502_0 := hw HB hx502_0
      have p16 : 0 ≤ ((rd l0 x22_2) : Int) := od
      have q16 : ((rd l0 x22_2) : Int) < ((x4_2.length : Int) : Int) := od
      obtain ⟨go16, co16, eo16, gb16, gl16, cl16, HG16⟩ := Kd.R_form HO_4.out (by omega)
      (first | cases eo16 | (injection eo16 with ea_ en_ ec_; (first | subst ea_ | (injection ea_ with ea_; subst ea_)); subst ec_; clear en_))
      have GB16 := am gb16
      have GG16 := am HG16
      clear gb16 gl16 HG16
      obtain ⟨hx16_0, hf16_0⟩ := Kd.R_celln false HO_4.out ((rd l0 x22_2) : Int) p16 q16
      replace p16 := eq_true p16
      replace q16 := eq_true q16
      have HP17 := Kd.R_putg HO_4.out ((rd l0 x22_2) : Int) true
      go_wp2_with (first | ((with_reducible refine gate_store (t := 4) (p := 28) rfl ?_); refine store_event (t := 4) (p := 28) (v := ?vo_w18) (w1 := (wr.setCell ⟨go16, ((rd l0 x22_2) : Int).toNat, none⟩ (.bool true))) ?hg ?ho ?hn ?hr ?_; (case ho => rfl); (case hg => rfl); (case hn => rfl); (case hr => first | (go_simp; done) | (go_simp; rfl)); intro w18 hw; have hg : wr.grownBy w18 (some go16) := (by rw [hw]; exact HP17.2); have hp_ : Kd.R Kd.bool 4 w18 w.heap.size (fun _ => True) (.slice (some ⟨go16, 0, none⟩) x4_2.length co16) y503 := (by rw [hw, Ny503.out]; exact HP17.1); clear HP17; replace BK497 := am (blk_grown (g := gb497) (o := .cells #[.int .i64 0, .int .i64 0] 54 (0, 0)) (bo BK497.out) hg (Kd.R_ne HO_4.out BK497.out (by decide))); replace HO_4 := am (hp_); replace HB := am ((by rw [hw]; exact below_set (HB.out) GB16.out : Below w.heap.size w w18)); clear hg hw hp_))
      go_roundg k2
      case measure => have := HJ1.out; have := HK2.out; omega
      case rel => exact ⟨(y503), (wrap64 (x22_2 + 1)), rr, H', ⟨by have := HJ1.out; have := HK2.out; omega⟩, ⟨ro HO_4.out⟩, ⟨bo BK497.out⟩, ⟨bw⟩⟩
     obtain ⟨ji19, hji19⟩ : ∃ j_ : Int, (wrap64 ((l0.length : Int) - 1)) = j_ := ⟨_, rfl⟩
     replace H : (if 0 ≤ (ji19) then (if (ji19) < (l0.length : Int) then (impl_GapClash.l1 k2 x4_2 (rd l0 (ji19)) 1) else (none)) else (none)) = some (r1, r2, r3) := by first | (rw [hji19] at H; exact H) | (simp only [hji19] at H ⊢; exact H)
     have hji19w : (IntKind.i64.wrap ((l0.length : Int) - 1)) = ji19 := (i64_w _).trans hji19
     replace H := gd H; obtain ⟨c20b0, H⟩ := H
     replace H := gd H; obtain ⟨c21b0, H⟩ := H
     have H' := am H
     clear H
     obtain ⟨⟨ad504, e504, hx504_0⟩, p504, q504⟩ := pq (Kd.at_int HR0.out (ji19))
     cases e504
     replace hx504_0 := hw HB hx504_0
     go_wp2
     go_loopg [8] k2 (fun kq v8 w' => ∃ (x8_3 : Int) (x498000_3 : Int) (x498001_3 : Int), v8 = .int .i64 x8_3 ∧ Aside0 (impl_GapClash.l1 kq x4_2 (rd l0 (ji19)) x8_3 = some (r1, r2, r3)) ∧ Aside0 (kq ≤ k2) ∧ Aside0 (Kd.R Kd.bool 4 w' w.heap.size (fun _ => True) v500 x4_2) ∧ Aside0 (w'.heap[gb497]? = some (.cells #[.int .i64 x498000_3, .int .i64 x498001_3] 54 (0, 0))) ∧ Aside0 (Below w.heap.size w w'))
     case atStart => exact ⟨(1), (0), (0), rr, H', ⟨Nat.le_refl _⟩, ⟨ro HO_4.out⟩, ⟨bo BK497.out⟩, ⟨bw⟩⟩
     case round =>
      clear H'
      try clear c8; try clear c8b0; try clear c8b1; try clear c11b0; try clear c12b0; try clear c13b0; try clear c14b0; try clear c15b0; try clear p16; try clear q16; try clear c20b0; try clear c21b0; try clear hcz7_0; try clear hcz7_1; try clear hfz7_0; try clear hfz7_1; try clear hx16_0; try clear hx502_0; try clear hx504_0; try clear p502; try clear p504; try clear q502; try clear q504
      obtain ⟨x8_3, x498000_3, x498001_3, rfl, HA, HK3, HO_4, BK497, HB⟩ := hrel
      cases gk with
      | zero => exact absurd HA.out (by simp [impl_GapClash.l1])
      | succ k3 =>
       have H := HA.out
       clear HA
       simp only [impl_GapClash.l1] at H
       replace H := gi H; obtain ⟨c22b0, H⟩ | ⟨c22b0, H⟩ := H
       ·have H' := am H
        clear H
        go_wp2
        go_loopg [9] k3 (fun kq v9 w' => ∃ (x9_4 : Int) (x498000_4 : Int) (x498001_4 : Int), v9 = .int .i64 x9_4 ∧ Aside0 (impl_GapClash.l2 kq x4_2 (rd l0 (ji19)) x8_3 x9_4 = some (r1, r2, r3)) ∧ Aside0 (kq ≤ k3) ∧ Aside0 (Kd.R Kd.bool 4 w' w.heap.size (fun _ => True) v500 x4_2) ∧ Aside0 (w'.heap[gb497]? = some (.cells #[.int .i64 x498000_4, .int .i64 x498001_4] 54 (0, 0))) ∧ Aside0 (Below w.heap.size w w'))
        case atStart => exact ⟨(x8_3), (x498000_3), (x498001_3), rr, H', ⟨Nat.le_refl _⟩, ⟨ro HO_4.out⟩, ⟨bo BK497.out⟩, ⟨bw⟩⟩
        case round =>
         clear H'
         try clear c8; try clear c8b0; try clear c8b1; try clear c11b0; try clear c12b0; try clear c13b0; try clear c14b0; try clear c15b0; try clear p16; try clear q16; try clear c20b0; try clear c21b0; try clear c22b0; try clear hcz7_0; try clear hcz7_1; try clear hfz7_0; try clear hfz7_1; try clear hx16_0; try clear hx502_0; try clear hx504_0; try clear p502; try clear p504; try clear q502; try clear q504
         obtain ⟨x9_4, x498000_4, x498001_4, rfl, HA, HK4, HO_4, BK497, HB⟩ := hrel
         cases gk with
         | zero => exact absurd HA.out (by simp [impl_GapClash.l2])
         | succ k4 =>
          have H := HA.out
          clear HA
          simp only [impl_GapClash.l2] at H
          replace H := gi H; obtain ⟨c23b0, H⟩ | ⟨c23b0, H⟩ := H
          ·replace H := gd H; obtain ⟨c24b0, H⟩ := H
           replace H := gd H; obtain ⟨c25b0, H⟩ := H
           obtain ⟨bq26, hbq26⟩ : ∃ b_ : Bool, b_ = (rdOf false x4_2 x8_3) := ⟨_, rfl⟩
           replace H : (if bq26 = true then (impl_GapClash.l2 k4 x4_2 (rd l0 (ji19)) x8_3 (wrap64 (x9_4 + 1))) else (if 0 ≤ x9_4 then (if x9_4 < (x4_2.length : Int) then (if rdOf false x4_2 x9_4 = true then (impl_GapClash.l2 k4 x4_2 (rd l0 (ji19)) x8_3 (wrap64 (x9_4 + 1))) else (if 0 ≤ (wrap64 (x8_3 + x9_4)) then (if (wrap64 (x8_3 + x9_4)) < (x4_2.length : Int) then (if rdOf false x4_2 (wrap64 (x8_3 + x9_4)) = true then (some (x8_3, x9_4, true)) else (impl_GapClash.l2 k4 x4_2 (rd l0 (ji19)) x8_3 (wrap64 (x9_4 + 1)))) else (none)) else (none))) else (none)) else (none))) = some (r1, r2, r3) := by rw [← hbq26] at H; exact H
           have Nbq26 := am hbq26
           clear hbq26
           replace H := gb H; obtain ⟨rfl, H⟩ | ⟨rfl, H⟩ := H
           ·have H' := am H
            clear H
            obtain ⟨Ao28, co28, eo28⟩ := Kd.R_slice HO_4.out
            subst eo28
            obtain ⟨⟨ad505, e505, hx505_0⟩, p505, q505⟩ := pq (Kd.at_bool (Kd.R_reads' HO_4.out).2.2 x8_3)
            (try rw [← Nbq26.out] at hx505_0)
            cases e505
            go_wp2
            go_roundg k4
            case measure => have := HJ1.out; have := HK2.out; have := HK3.out; have := HK4.out; omega
            case rel => exact ⟨(wrap64 (x9_4 + 1)), (x498000_4), (x498001_4), rr, H', ⟨by have := HJ1.out; have := HK2.out; have := HK3.out; have := HK4.out; omega⟩, ⟨ro HO_4.out⟩, ⟨bo BK497.out⟩, ⟨bw⟩⟩
           replace H := gd H; obtain ⟨c29b0, H⟩ := H
           replace H := gd H; obtain ⟨c30b0, H⟩ := H
           obtain ⟨bq31, hbq31⟩ : ∃ b_ : Bool, b_ = (rdOf false x4_2 x9_4) := ⟨_, rfl⟩
           replace H : (if bq31 = true then (impl_GapClash.l2 k4 x4_2 (rd l0 (ji19)) x8_3 (wrap64 (x9_4 + 1))) else (if 0 ≤ (wrap64 (x8_3 + x9_4)) then (if (wrap64 (x8_3 + x9_4)) < (x4_2.length : Int) then (if rdOf false x4_2 (wrap64 (x8_3 + x9_4)) = true then (some (x8_3, x9_4, true)) else (impl_GapClash.l2 k4 x4_2 (rd l0 (ji19)) x8_3 (wrap64 (x9_4 + 1)))) else (none)) else (none))) = some (r1, r2, r3) := by rw [← hbq31] at H; exact H
           have Nbq31 := am hbq31
           clear hbq31
           replace H := gb H; obtain ⟨rfl, H⟩ | ⟨rfl, H⟩ := H
           ·have H' := am H
            clear H
            obtain ⟨Ao33, co33, eo33⟩ := Kd.R_slice HO_4.out
            subst eo33
            obtain ⟨⟨ad505, e505, hx505_0⟩, p505, q505⟩ := pq (Kd.at_bool (Kd.R_reads' HO_4.out).2.2 x8_3)
            (try rw [← Nbq26.out] at hx505_0)
            (try rw [← Nbq31.out] at hx505_0)
            cases e505
            obtain ⟨⟨ad506, e506, hx506_0⟩, p506, q506⟩ := pq (Kd.at_bool (Kd.R_reads' HO_4.out).2.2 x9_4)
            (try rw [← Nbq26.out] at hx506_0)
            (try rw [← Nbq31.out] at hx506_0)
            obtain rfl : ad505 = ad506 := (by injection e506)
            go_wp2
            go_roundg k4
            case measure => have := HJ1.out; have := HK2.out; have := HK3.out; have := HK4.out; omega
            case rel => exact ⟨(wrap64 (x9_4 + 1)), (x498000_4), (x498001_4), rr, H', ⟨by have := HJ1.out; have := HK2.out; have := HK3.out; have := HK4.out; omega⟩, ⟨ro HO_4.out⟩, ⟨bo BK497.out⟩, ⟨bw⟩⟩
           obtain ⟨ji34, hji34⟩ : ∃ j_ : Int, (wrap64 (x8_3 + x9_4)) = j_ := ⟨_, rfl⟩
           replace H : (if 0 ≤ (ji34) then (if (ji34) < (x4_2.length : Int) then (if rdOf false x4_2 (ji34) = true then (some (x8_3, x9_4, true)) else (impl_GapClash.l2 k4 x4_2 (rd l0 (ji19)) x8_3 (wrap64 (x9_4 + 1)))) else (none)) else (none)) = some (r1, r2, r3) := by first | (rw [hji34] at H; exact H) | (simp only [hji34] at H ⊢; exact H)
           (try rw [hji34] at c23b0)
           have hji34w : (IntKind.i64.wrap (x8_3 + x9_4)) = ji34 := (i64_w _).trans hji34
           replace H := gd H; obtain ⟨c35b0, H⟩ := H
           replace H := gd H; obtain ⟨c36b0, H⟩ := H
           obtain ⟨bq37, hbq37⟩ : ∃ b_ : Bool, b_ = (rdOf false x4_2 (ji34)) := ⟨_, rfl⟩
           replace H : (if bq37 = true then (some (x8_3, x9_4, true)) else (impl_GapClash.l2 k4 x4_2 (rd l0 (ji19)) x8_3 (wrap64 (x9_4 + 1)))) = some (r1, r2, r3) := by rw [← hbq37] at H; exact H
           have Nbq37 := am hbq37
           clear hbq37
           replace H := gb H; obtain ⟨rfl, H⟩ | ⟨rfl, H⟩ := H
           ·simp only [Option.some.injEq, Prod.mk.injEq] at H
            obtain ⟨rfl, rfl, rfl⟩ := H
            obtain ⟨Ao39, co39, eo39⟩ := Kd.R_slice HO_4.out
            subst eo39
            obtain ⟨⟨ad505, e505, hx505_0⟩, p505, q505⟩ := pq (Kd.at_bool (Kd.R_reads' HO_4.out).2.2 x8_3)
            (try rw [← Nbq26.out] at hx505_0)
            (try rw [← Nbq31.out] at hx505_0)
            (try rw [← Nbq37.out] at hx505_0)
            cases e505
            obtain ⟨⟨ad506, e506, hx506_0⟩, p506, q506⟩ := pq (Kd.at_bool (Kd.R_reads' HO_4.out).2.2 x9_4)
            (try rw [← Nbq26.out] at hx506_0)
            (try rw [← Nbq31.out] at hx506_0)
            (try rw [← Nbq37.out] at hx506_0)
            obtain rfl : ad505 = ad506 := (by injection e506)
            obtain ⟨⟨ad507, e507, hx507_0⟩, p507, q507⟩ := pq (Kd.at_bool (Kd.R_reads' HO_4.out).2.2 (ji34))
            (try rw [← Nbq26.out] at hx507_0)
            (try rw [← Nbq31.out] at hx507_0)
            (try rw [← Nbq37.out] at hx507_0)
            obtain rfl : ad505 = ad507 := (by injection e507)
            have hcz40_0 := bc BK497 0 (.int .i64 x498000_4)
            have hcz40_1 := bc BK497 1 (.int .i64 x498001_4)
            have hfz40_0 := blk_frozen BK497.out 0
            have hfz40_1 := blk_frozen BK497.out 1
            go_wp2
            refine bodyPost_ret (results_ct rfl _ _ gb497 54 #[.int .i64 x8_3, .int .i64 x9_4] (0, 0) _ rfl (by (with_reducible repeat (first | refine blk_drewN ?_ _ | refine blk_drew ?_ | refine blk_alloc ?_ _)); refine blk_put (cs := #[.int .i64 x8_3, .int .i64 x498001_4]) ?_ 1 _ rfl; (with_reducible repeat (first | refine blk_drewN ?_ _ | refine blk_drew ?_ | refine blk_alloc ?_ _)); refine blk_put (cs := #[.int .i64 x498000_4, .int .i64 x498001_4]) ?_ 0 _ rfl; (with_reducible repeat (first | refine blk_drewN ?_ _ | refine blk_drew ?_ | refine blk_alloc ?_ _)); exact BK497.out) Try.underlying54 rfl (by kernel_rfl)) rfl ?_
            exact ⟨by first | rfl | (simp [errW_none, errW_some] <;> rfl) | (simp only [← hji19, ← hji34]; first | rfl | (simp [errW_none, errW_some] <;> rfl)) | (simp [*, errW_none, errW_some] <;> rfl), bw⟩
           have H' := am H
           clear H
           obtain ⟨Ao41, co41, eo41⟩ := Kd.R_slice HO_4.out
           subst eo41
           obtain ⟨⟨ad505, e505, hx505_0⟩, p505, q505⟩ := pq (Kd.at_bool (Kd.R_reads' HO_4.out).2.2 x8_3)
           (try rw [← Nbq26.out] at hx505_0)
           (try rw [← Nbq31.out] at hx505_0)
           (try rw [← Nbq37.out] at hx505_0)
           cases e505
           obtain ⟨⟨ad506, e506, hx506_0⟩, p506, q506⟩ := pq (Kd.at_bool (Kd.R_reads' HO_4.out).2.2 x9_4)
           (try rw [← Nbq26.out] at hx506_0)
           (try rw [← Nbq31.out] at hx506_0)
           (try rw [← Nbq37.out] at hx506_0)
           obtain rfl : ad505 = ad506 := (by injection e506)
           obtain ⟨⟨ad507, e507, hx507_0⟩, p507, q507⟩ := pq (Kd.at_bool (Kd.R_reads' HO_4.out).2.2 (ji34))
           (try rw [← Nbq26.out] at hx507_0)
           (try rw [← Nbq31.out] at hx507_0)
           (try rw [← Nbq37.out] at hx507_0)
           obtain rfl : ad505 = ad507 := (by injection e507)
           go_wp2
           go_roundg k4
           case measure => have := HJ1.out; have := HK2.out; have := HK3.out; have := HK4.out; omega
           case rel => exact ⟨(wrap64 (x9_4 + 1)), (x498000_4), (x498001_4), rr, H', ⟨by have := HJ1.out; have := HK2.out; have := HK3.out; have := HK4.out; omega⟩, ⟨ro HO_4.out⟩, ⟨bo BK497.out⟩, ⟨bw⟩⟩
          have H' := am H
          clear H
          go_wp2
          go_roundg k4
          case measure => have := HJ1.out; have := HK2.out; have := HK3.out; have := HK4.out; omega
          case rel => exact ⟨(wrap64 (x8_3 + 1)), (x498000_4), (x498001_4), rr, H', ⟨by have := HJ1.out; have := HK2.out; have := HK3.out; have := HK4.out; omega⟩, ⟨ro HO_4.out⟩, ⟨bo BK497.out⟩, ⟨bw⟩⟩
       simp only [Option.some.injEq, Prod.mk.injEq] at H
       obtain ⟨rfl, rfl, rfl⟩ := H
       have hcz42_0 := bc BK497 0 (.int .i64 x498000_3)
       have hcz42_1 := bc BK497 1 (.int .i64 x498001_3)
       have hfz42_0 := blk_frozen BK497.out 0
       have hfz42_1 := blk_frozen BK497.out 1
       go_wp2
       refine bodyPost_ret (results_ct rfl _ _ gb497 54 #[.int .i64 0, .int .i64 0] (0, 0) _ rfl (by (with_reducible repeat (first | refine blk_drewN ?_ _ | refine blk_drew ?_ | refine blk_alloc ?_ _)); refine blk_put (cs := #[.int .i64 0, .int .i64 x498001_3]) ?_ 1 _ rfl; (with_reducible repeat (first | refine blk_drewN ?_ _ | refine blk_drew ?_ | refine blk_alloc ?_ _)); refine blk_put (cs := #[.int .i64 x498000_3, .int .i64 x498001_3]) ?_ 0 _ rfl; (with_reducible repeat (first | refine blk_drewN ?_ _ | refine blk_drew ?_ | refine blk_alloc ?_ _)); exact BK497.out) Try.underlying54 rfl (by kernel_rfl)) rfl ?_
       exact ⟨by first | rfl | (simp [errW_none, errW_some] <;> rfl) | (simp only [← hji19]; first | rfl | (simp [errW_none, errW_some] <;> rfl)) | (simp [*, errW_none, errW_some] <;> rfl), bw⟩


/-! ### slices_Equal_int_int: function 63 -/
def slices_Equal_int_int.l0 : Nat → List Int → List Int → Int → Int → Option (Bool)
 | 0, _, _, _, _ => none
 | k + 1, x0, x1, x12, x13 => if x13 < x12 then (if 0 ≤ x13 then (if x13 < (x0.length : Int) then (if x13 < (x1.length : Int) then (if (rd x0 x13) = (rd x1 x13) then (slices_Equal_int_int.l0 k x0 x1 x12 (wrap64 (x13 + 1))) else (some false)) else (none)) else (none)) else (none)) else (some true)
def slices_Equal_int_int.f (k : Nat) (l0 : List Int) (l1 : List Int) : Option (Bool) := if (l0.length : Int) = (l1.length : Int) then (slices_Equal_int_int.l0 k l0 l1 (l0.length : Int) 0) else (some false)
theorem slices_Equal_int_int.calls (k : Nat) (A0 : Option Addr) (c0 : Nat) (l0 : List Int) (A1 : Option Addr) (c1 : Nat) (l1 : List Int) (r : Bool) (w : World) (hr0 : Kd.C (Kd.int .i64) w A0 l0.length l0) (hc0 : l0.length ≤ c0) (hr1 : Kd.C (Kd.int .i64) w A1 l1.length l1) (hc1 : l1.length ≤ c1) (h : slices_Equal_int_int.f k l0 l1 = some r) :
  Calls Try.prog 63 #[.slice A0 l0.length c0, .slice A1 l1.length c1] w fun e w' => e = .returned (.bool r) ∧ Drawn0 w w' := by
 have HR0 := am hr0
 have HC0 := am hc0
 clear hr0 hc0
 have HR1 := am hr1
 have HC1 := am hc1
 clear hr1 hc1
 unfold slices_Equal_int_int.f at h
 have H := h
 clear h
 by_cases c3 : (l0.length : Int) = (l1.length : Int)
 ·rw [if_pos c3] at H
  have c3b0 : ((l0.length : Int) == (l1.length : Int)) = true := beq_iff_eq.mpr c3
  have c3b1 : ((l0.length : Int) != (l1.length : Int)) = false := bne_eq_false_iff_eq.mpr c3
  have c3b2 : (l0.length == l1.length) = true := by first | simpa using c3 | (simp at c3 ⊢; omega)
  clear c3
  have H' := am H
  clear H
  go_enter Try.func63, Try.ntmps63
  go_wp2
  repeat (go_quiet (fail); try go_wp2)
  go_loopg [13] k (fun kq v13 w' => ∃ (x13_1 : Int), v13 = .int .i64 x13_1 ∧ Aside0 (slices_Equal_int_int.l0 kq l0 l1 (l0.length : Int) x13_1 = some r) ∧ Aside0 (kq ≤ k) ∧ Drawn0 w w')
  case atStart => exact ⟨(0), rr, H', ⟨Nat.le_refl _⟩, dw⟩
  case round =>
   clear H'
   try clear c1; try clear c3; try clear c3b0; try clear c3b1; try clear c3b2
   obtain ⟨x13_1, rfl, HA, HK1, ⟨m1, rfl⟩⟩ := hrel
   cases gk with
   | zero => exact absurd HA.out (by simp [slices_Equal_int_int.l0])
   | succ k1 =>
    have H := HA.out
    clear HA
    simp only [slices_Equal_int_int.l0] at H
    replace H := gi H; obtain ⟨c4b0, H⟩ | ⟨c4b0, H⟩ := H
    ·replace H := gd H; obtain ⟨c5b0, H⟩ := H
     replace H := gd H; obtain ⟨c6b0, H⟩ := H
     replace H := gd H; obtain ⟨c7b0, H⟩ := H
     by_cases c8 : (rd l0 x13_1) = (rd l1 x13_1)
     ·rw [if_pos c8] at H
      have c8b0 : ((rd l0 x13_1) == (rd l1 x13_1)) = true := beq_iff_eq.mpr c8
      have c8b1 : ((rd l0 x13_1) != (rd l1 x13_1)) = false := bne_eq_false_iff_eq.mpr c8
      clear c8
      have H' := am H
      clear H
      obtain ⟨⟨ad508, e508, hx508_0⟩, p508, q508⟩ := pq (Kd.at_int HR0.out x13_1)
      cases e508
      obtain ⟨⟨ad509, e509, hx509_0⟩, p509, q509⟩ := pq (Kd.at_int HR1.out x13_1)
      cases e509
      go_wp2
      repeat (go_quiet (fail); try go_wp2)
      go_roundg k1
      case measure => have := HK1.out; omega
      case rel => exact ⟨(wrap64 (x13_1 + 1)), rr, H', ⟨by have := HK1.out; omega⟩, dw⟩
     rw [if_neg c8] at H
     have c8b0 : ((rd l0 x13_1) == (rd l1 x13_1)) = false := beq_eq_false_iff_ne.mpr c8
     have c8b1 : ((rd l0 x13_1) != (rd l1 x13_1)) = true := bne_iff_ne.mpr c8
     obtain rfl := Option.some.inj H
     obtain ⟨⟨ad508, e508, hx508_0⟩, p508, q508⟩ := pq (Kd.at_int HR0.out x13_1)
     cases e508
     obtain ⟨⟨ad509, e509, hx509_0⟩, p509, q509⟩ := pq (Kd.at_int HR1.out x13_1)
     cases e509
     go_wp2
     repeat (go_quiet (fail); try go_wp2)
     go_ret
     exact ⟨rr, dw⟩
    obtain rfl := Option.some.inj H
    go_wp2
    repeat (go_quiet (fail); try go_wp2)
    go_ret
    exact ⟨rr, dw⟩
 rw [if_neg c3] at H
 have c3b0 : ((l0.length : Int) == (l1.length : Int)) = false := beq_eq_false_iff_ne.mpr c3
 have c3b1 : ((l0.length : Int) != (l1.length : Int)) = true := bne_iff_ne.mpr c3
 have c3b2 : (l0.length == l1.length) = false := by first | simpa using c3 | (simp at c3 ⊢; omega)
 obtain rfl := Option.some.inj H
 go_enter Try.func63, Try.ntmps63
 go_wp2
 repeat (go_quiet (fail); try go_wp2)
 go_ret
 exact ⟨rr, dw⟩


/-! ### impl_FromGaps: function 29 -/
mutual
def impl_FromGaps.j0 : Nat → List Int → Bool → Option (List Int × Bool)
 | 0, _, _ => none
 | k + 1, x0, x23 => if x23 = true then (some (([] : List Int), false)) else (if 401 ≤ 281474976710656 then (impl_FromGaps.l0 k x0 (List.replicate 401 false) x0 (x0.length : Int) 0) else (none))
def impl_FromGaps.l0 : Nat → List Int → List Bool → List Int → Int → Int → Option (List Int × Bool)
 | 0, _, _, _, _, _ => none
 | k + 1, x0, x6, x26, x27, x28 => if x28 < x27 then (if 0 ≤ x28 then (if x28 < (x26.length : Int) then (if 0 ≤ (rd x26 x28) then (if (rd x26 x28) < (x6.length : Int) then (impl_FromGaps.l0 k x0 (x6.set ((rd x26 x28) : Int).toNat true) x26 x27 (wrap64 (x28 + 1))) else (none)) else (none)) else (none)) else (none)) else (impl_FromGaps.l1 k x0 x6 1 ([] : List Int))
def impl_FromGaps.l1 : Nat → List Int → List Bool → Int → List Int → Option (List Int × Bool)
 | 0, _, _, _, _ => none
 | k + 1, x0, x6, x10, x522000 => if x10 < (x6.length : Int) then (if 0 ≤ x10 then (impl_FromGaps.l2 k x0 x6 x10 (rdOf false x6 x10) 1 x522000) else (none)) else ((impl_IsSemigroup.f k x522000).bind fun t528 => (if t528 = true then ((impl_Gaps.f k x522000).bind fun t529 => ((slices_Equal_int_int.f k t529 x0).bind fun t532 => (if t532 = true then (some (x522000, true)) else (some (([] : List Int), false))))) else (some (([] : List Int), false))))
def impl_FromGaps.l2 : Nat → List Int → List Bool → Int → Bool → Int → List Int → Option (List Int × Bool)
 | 0, _, _, _, _, _, _ => none
 | k + 1, x0, x6, x10, x11, x12, x522000 => if (wrap64 (2 * x12)) ≤ x10 then (if x11 = true then (impl_FromGaps.l1 k x0 x6 (wrap64 (x10 + 1)) x522000) else (if 0 ≤ x12 then (if x12 < (x6.length : Int) then (if rdOf false x6 x12 = true then (impl_FromGaps.l2 k x0 x6 x10 false (wrap64 (x12 + 1)) x522000) else (if 0 ≤ (wrap64 (x10 - x12)) then (if (wrap64 (x10 - x12)) < (x6.length : Int) then (impl_FromGaps.l2 k x0 x6 x10 (!(rdOf false x6 (wrap64 (x10 - x12)))) (wrap64 (x12 + 1)) x522000) else (none)) else (none))) else (none)) else (none))) else (if x11 = true then (impl_FromGaps.l1 k x0 x6 (wrap64 (x10 + 1)) x522000) else (if x522000.length < 17592186044416 then (impl_FromGaps.l1 k x0 x6 (wrap64 (x10 + 1)) (x522000 ++ [x10])) else (none)))
end
def impl_FromGaps.f (k : Nat) (l0 : List Int) : Option (List Int × Bool) := (impl_GapClash.f k l0).bind fun bt511 => (if bt511.2.2 = true then (impl_FromGaps.j0 k l0 true) else ((impl_gapList.f k l0).bind fun t515 => (impl_FromGaps.j0 k l0 (!t515))))
theorem impl_FromGaps.calls (k : Nat) (A0 : Option Addr) (c0 : Nat) (l0 : List Int) (r1 : List Int) (r2 : Bool) (w : World) (hr0 : Kd.C (Kd.int .i64) w A0 l0.length l0) (hc0 : l0.length ≤ c0) (h : impl_FromGaps.f k l0 = some (r1, r2)) :
  Calls Try.prog 29 #[.slice A0 l0.length c0] w fun e w' => ∃ v0_ : Value, e = .returned (.tuple #[.agg #[v0_], .bool r2]) ∧ Kd.R (Kd.int .i64) 3 w' w.heap.size (fun _ => True) v0_ r1 ∧ Below w.heap.size w w' := by
 have hu26 := Try.underlying26
 have hu54 := Try.underlying54
 have HR0 := am hr0
 have HC0 := am hc0
 clear hr0 hc0
 have HB := am (Below.refl w.heap.size w)
 unfold impl_FromGaps.f at h
 have H := h
 clear h
 replace H := ga H; obtain ⟨⟨t511, t512, t513⟩, A2, H⟩ := H
 dsimp only at H
 have HC3 := am H
 clear H
 go_enter Try.func29, Try.ntmps29
 go_upto_region 2 with (first | ((with_reducible refine gate_dst (N := 2) rfl ?_); refine bx 2 #[.slice none 0 0] 26 ?_; intro gb510 hg w4 hbox hb; have BK510 := am (hbox); have GW510 := am (gs hg : w.heap.size ≤ gb510); have GE510 := GW510; replace HB := am (below_step bw hb); clear hb hbox hg) | ((with_reducible refine gate_callee (f := 61) rfl ?_); refine gl (some 15) Try.func61 #[.slice A0 l0.length c0] ?_; (with_reducible refine (impl_GapClash.calls k _ _ l0 t511 t512 t513 _ ?side1 ?side2 A2.out).mono ?_); (case side1 => exact co (Kd.C_below HR0.out HB.out)); (case side2 => exact HC0.out); rintro e w5 ⟨rfl, hb⟩; refine ⟨_, rfl, ?_⟩; replace BK510 := kb BK510 hb; replace HB := am (below_step bw hb); clear hb) | ((with_reducible refine gate_dst (N := 4) rfl ?_); refine bx 4 #[.int .i64 0, .int .i64 0] 54 ?_; intro gb514 hg w6 hbox hb; have BK514 := am (hbox); have GW514 := am (gs hg : w.heap.size ≤ gb514); have GE514 := GW514; replace HB := am (below_step bw hb); have NB510_514 := nl hg BK510; have NB514_510 := ns NB510_514; replace BK510 := kb BK510 hb; clear hb hbox hg; have hnb7 := NB514_510.out; have hnc7 := NB510_514.out; have hcz8_0 := bc BK514 0 (.int .i64 0); have hcz8_1 := bc BK514 1 (.int .i64 0); have hfz8_0 := blk_frozen BK514.out 0; have hfz8_1 := blk_frozen BK514.out 1))
 (try simp only [Act.put, List.setIfInBounds_toArray, List.set_cons_zero, List.set_cons_succ])
 go_cut [23] (fun v23 wc => ∃ (kq : Nat) (x23_2 : Bool), v23 = .bool x23_2 ∧ Aside0 (impl_FromGaps.j0 kq l0 x23_2 = some (r1, r2)) ∧ Aside0 (kq ≤ k) ∧ Aside0 (wc.heap[gb510]? = some (.cells #[(.slice none 0 0)] 26 (0, 0))) ∧ Aside0 (wc.heap[gb514]? = some (.cells #[.int .i64 t511, .int .i64 t512] 54 (0, 0))) ∧ Aside0 (Below w.heap.size w wc))
 case first =>
  have H := HC3.out
  clear HC3
  replace H := gb H; obtain ⟨rfl, H⟩ | ⟨rfl, H⟩ := H
  ·have H' := am H
   clear H
   go_wp2
   go_meet
   case rel => exact ⟨_, (true), rr, H', ⟨om⟩, ⟨bf BK510.out⟩, ⟨by (with_reducible repeat (first | refine blk_drewN ?_ _ | refine blk_drew ?_ | refine blk_alloc ?_ _)); refine blk_put (cs := #[.int .i64 t511, .int .i64 0]) ?_ 1 _ rfl; (with_reducible repeat (first | refine blk_drewN ?_ _ | refine blk_drew ?_ | refine blk_alloc ?_ _)); refine blk_put (cs := #[.int .i64 0, .int .i64 0]) ?_ 0 _ rfl; (with_reducible repeat (first | refine blk_drewN ?_ _ | refine blk_drew ?_ | refine blk_alloc ?_ _)); exact BK514.out⟩, ⟨bw⟩⟩
  replace H := ga H; obtain ⟨t515, A10, H⟩ := H
  have H' := am H
  clear H
  go_wp2_with (first | (go_at_call 62; (with_reducible refine (impl_gapList.calls k _ _ l0 t515 _ ?side1 ?side2 A10.out).mono ?_); (case side1 => exact Kd.C_below HR0.out bw); (case side2 => exact HC0.out); rintro e w' ⟨rfl, ⟨nd, rfl⟩⟩))
  go_meet
  case rel => exact ⟨_, (!t515), rr, H', ⟨om⟩, ⟨bf BK510.out⟩, ⟨by (with_reducible repeat (first | refine blk_drewN ?_ _ | refine blk_drew ?_ | refine blk_alloc ?_ _)); refine blk_put (cs := #[.int .i64 t511, .int .i64 0]) ?_ 1 _ rfl; (with_reducible repeat (first | refine blk_drewN ?_ _ | refine blk_drew ?_ | refine blk_alloc ?_ _)); refine blk_put (cs := #[.int .i64 0, .int .i64 0]) ?_ 0 _ rfl; (with_reducible repeat (first | refine blk_drewN ?_ _ | refine blk_drew ?_ | refine blk_alloc ?_ _)); exact BK514.out⟩, ⟨bw⟩⟩
 case rest =>
  clear HC3
  try clear hcz8_0; try clear hcz8_1; try clear hfz8_0; try clear hfz8_1
  obtain ⟨kq, x23_2, rfl, HA, HJ2, BK510, BK514, HB⟩ := hcut
  cases kq with
  | zero => exact absurd HA.out (by simp [impl_FromGaps.j0])
  | succ kj2 =>
   have H := HA.out
   clear HA
   simp only [impl_FromGaps.j0] at H
   replace H := gb H; obtain ⟨rfl, H⟩ | ⟨rfl, H⟩ := H
   ·simp only [Option.some.injEq, Prod.mk.injEq] at H
    obtain ⟨rfl, rfl⟩ := H
    have hnb12 := NB510_514.out
    have hnc12 := NB514_510.out
    have hcz13_0 := bc BK510 0 (.slice none 0 0)
    have hfz13_0 := blk_frozen BK510.out 0
    go_wp2
    refine bodyPost_ret (results_ct rfl _ _ gb510 26 #[.slice none 0 0] (0, 0) _ rfl (bp BK510.out) Try.underlying26 rfl (by kernel_rfl)) rfl ?_
    exact ⟨_, re, by first | exact Kd.R_nil _ _ _ _ _ | exact Kd.N_nil _ _ _ _ _ | exact Kd.V_nil _ _ _ _ _ | exact Kd.Q_nil _ _ _ _ _ | exact Kd.S_nil _ _ _ _ _, bw⟩
   replace H := gp H; obtain ⟨c14, H⟩ := H
   have c14b0 := eq_true c14
   have c14b1 : decide (401 ≤ 281474976710656) = true := decide_eq_true c14
   clear c14
   obtain ⟨y516, hy516⟩ : ∃ y_ : List Bool, y_ = (List.replicate 401 false) := ⟨_, rfl⟩
   replace H : (impl_FromGaps.l0 kj2 l0 y516 l0 (l0.length : Int) 0) = some (r1, r2) := by first | (rw [hy516]; with_reducible first | exact H | exact bs H) | (with_reducible first | exact bs H | exact H) | (rw [hy516]; exact H) | exact H
   have Ny516 := am hy516
   clear hy516
   have H' := am H
   clear H
   go_wp2_with (first | ((with_reducible refine gate_dst (N := 25) rfl ?_); refine Kd.R_make Kd.bool _ 4 rfl (N := 25) rfl 57 _ _ rfl 401 rfl rfl Try.underlying57 (.bool false) 1 info4 rfl (by decide) (by omega) false (ok := fun _ => True) (okp := fun _ => True) rfl (fun _ hk => hk) trivial (by omega) (by omega) (Below.refl _ _) (Nat.le_refl _) ?_; intro v517 w15 ho16 hb hg_ hnew_; clear hg_ hnew_; (first | rw [← Ny516.out] at ho16 | (simp only [Int.reduceToNat] at ho16; rw [← Ny516.out] at ho16)); have HO518 := am (Kd.R_lower ho16 (below_size bw)); replace BK510 := kb BK510 hb; replace BK514 := kb BK514 hb; replace HB := am (below_step bw hb); clear hb ho16))
   go_loopg [28] kj2 (fun kq v28 w' => ∃ (x6_2 : List Bool) (x28_2 : Int), v28 = .int .i64 x28_2 ∧ Aside0 (impl_FromGaps.l0 kq l0 x6_2 l0 (l0.length : Int) x28_2 = some (r1, r2)) ∧ Aside0 (kq ≤ kj2) ∧ Aside0 (Kd.R Kd.bool 4 w' w.heap.size (fun _ => True) v517 x6_2) ∧ Aside0 (w'.heap[gb510]? = some (.cells #[(.slice none 0 0)] 26 (0, 0))) ∧ Aside0 (w'.heap[gb514]? = some (.cells #[.int .i64 t511, .int .i64 t512] 54 (0, 0))) ∧ Aside0 (Below w.heap.size w w'))
   case atStart => exact ⟨(y516), (0), rr, H', ⟨Nat.le_refl _⟩, ⟨ro HO518.out⟩, ⟨bo BK510.out⟩, ⟨bo BK514.out⟩, ⟨bw⟩⟩
   case round =>
    clear H'
    try clear c14; try clear c14b0; try clear c14b1; try clear hcz13_0; try clear hcz8_0; try clear hcz8_1; try clear hfz13_0; try clear hfz8_0; try clear hfz8_1
    obtain ⟨x6_2, x28_2, rfl, HA, HK2, HO_6, BK510, BK514, HB⟩ := hrel
    cases gk with
    | zero => exact absurd HA.out (by simp [impl_FromGaps.l0])
    | succ k2 =>
     have H := HA.out
     clear HA
     simp only [impl_FromGaps.l0] at H
     replace H := gi H; obtain ⟨c17b0, H⟩ | ⟨c17b0, H⟩ := H
     ·replace H := gd H; obtain ⟨c18b0, H⟩ := H
      replace H := gd H; obtain ⟨c19b0, H⟩ := H
      replace H := gd H; obtain ⟨c20b0, H⟩ := H
      replace H := gd H; obtain ⟨c21b0, H⟩ := H
      obtain ⟨y520, hy520⟩ : ∃ y_ : List Bool, y_ = (x6_2.set ((rd l0 x28_2) : Int).toNat true) := ⟨_, rfl⟩
      replace H : (impl_FromGaps.l0 k2 l0 y520 l0 (l0.length : Int) (wrap64 (x28_2 + 1))) = some (r1, r2) := by first | (rw [hy520]; with_reducible first | exact H | exact bs H) | (with_reducible first | exact bs H | exact H) | (rw [hy520]; exact H) | exact H
      have Ny520 := am hy520
      clear hy520
      have H' := am H
      clear H
      obtain ⟨⟨ad519, e519, hx519_0⟩, p519, q519⟩ := pq (Kd.at_int HR0.out x28_2)
      cases e519
      replace hx519_0 := hw HB hx519_0
      have p22 : 0 ≤ ((rd l0 x28_2) : Int) := od
      have q22 : ((rd l0 x28_2) : Int) < ((x6_2.length : Int) : Int) := od
      obtain ⟨go22, co22, eo22, gb22, gl22, cl22, HG22⟩ := Kd.R_form HO_6.out (by omega)
      (first | cases eo22 | (injection eo22 with ea_ en_ ec_; (first | subst ea_ | (injection ea_ with ea_; subst ea_)); subst ec_; clear en_))
      have GB22 := am gb22
      have GG22 := am HG22
      clear gb22 gl22 HG22
      obtain ⟨hx22_0, hf22_0⟩ := Kd.R_celln false HO_6.out ((rd l0 x28_2) : Int) p22 q22
      replace p22 := eq_true p22
      replace q22 := eq_true q22
      have HP23 := Kd.R_putg HO_6.out ((rd l0 x28_2) : Int) true
      go_wp2_with (first | ((with_reducible refine gate_store (t := 4) (p := 34) rfl ?_); refine store_event (t := 4) (p := 34) (v := ?vo_w24) (w1 := (wr.setCell ⟨go22, ((rd l0 x28_2) : Int).toNat, none⟩ (.bool true))) ?hg ?ho ?hn ?hr ?_; (case ho => rfl); (case hg => rfl); (case hn => rfl); (case hr => first | (go_simp; done) | (go_simp; rfl)); intro w24 hw; have hg : wr.grownBy w24 (some go22) := (by rw [hw]; exact HP23.2); have hp_ : Kd.R Kd.bool 4 w24 w.heap.size (fun _ => True) (.slice (some ⟨go22, 0, none⟩) x6_2.length co22) y520 := (by rw [hw, Ny520.out]; exact HP23.1); clear HP23; replace BK510 := am (blk_grown (g := gb510) (o := .cells #[.slice none 0 0] 26 (0, 0)) (bo BK510.out) hg (Kd.R_ne HO_6.out BK510.out (by decide))); replace BK514 := am (blk_grown (g := gb514) (o := .cells #[.int .i64 t511, .int .i64 t512] 54 (0, 0)) (bo BK514.out) hg (Kd.R_ne HO_6.out BK514.out (by decide))); replace HO_6 := am (hp_); replace HB := am ((by rw [hw]; exact below_set (HB.out) GB22.out : Below w.heap.size w w24)); clear hg hw hp_))
      go_roundg k2
      case measure => have := HJ2.out; have := HK2.out; omega
      case rel => exact ⟨(y520), (wrap64 (x28_2 + 1)), rr, H', ⟨by have := HJ2.out; have := HK2.out; omega⟩, ⟨ro HO_6.out⟩, ⟨bo BK510.out⟩, ⟨bo BK514.out⟩, ⟨bw⟩⟩
     have H' := am H
     clear H
     go_wp2_with (first | ((with_reducible refine gate_dst (N := 9) rfl ?_); refine bx 9 #[.slice none 0 0] 26 ?_; intro gb521 hg w25 hbox hb; replace HO_6 := rK HO_6 hb; have BK521 := am (hbox); have GW521 := am (gs hg : w.heap.size ≤ gb521); have GE521 := GW521; replace HB := am (below_step bw hb); have NB510_521 := nl hg BK510; have NB521_510 := ns NB510_521; replace BK510 := kb BK510 hb; have NB514_521 := nl hg BK514; have NB521_514 := ns NB514_521; replace BK514 := kb BK514 hb; clear hb hbox hg; have hnb26 := NB521_510.out; have hnc26 := NB510_521.out; have hnb27 := NB521_514.out; have hnc27 := NB514_521.out; have hcz28_0 := bc BK521 0 (.slice none 0 0); have hfz28_0 := blk_frozen BK521.out 0))
     go_loopg [10] k2 (fun kq v10 w' => ∃ (x10_3 : Int) (x522000_3 : List Int) (u522000 : Value), v10 = .int .i64 x10_3 ∧ Aside0 (impl_FromGaps.l1 kq l0 x6_2 x10_3 x522000_3 = some (r1, r2)) ∧ Aside0 (kq ≤ k2) ∧ Aside0 (Kd.R Kd.bool 4 w' w.heap.size (fun _ => True) v517 x6_2) ∧ Aside0 (Kd.R (Kd.int .i64) 3 w' w.heap.size (fun _ => True) u522000 x522000_3) ∧ Aside0 (w'.heap[gb510]? = some (.cells #[(.slice none 0 0)] 26 (0, 0))) ∧ Aside0 (w'.heap[gb514]? = some (.cells #[.int .i64 t511, .int .i64 t512] 54 (0, 0))) ∧ Aside0 (w'.heap[gb521]? = some (.cells #[u522000] 26 (0, 0))) ∧ Aside0 (Below w.heap.size w w'))
     case atStart => exact ⟨(1), (([] : List Int)), (.slice none 0 0), rr, H', ⟨Nat.le_refl _⟩, ⟨rM (Kd.R_far (p := ⟨gb521, 0, none⟩) (Kd.R_types HO_6.out BK521.out (by decide)) (fun _ hk => hk.2) (.slice none 0 0)) (fun _ hk => trivial)⟩, ⟨by first | exact Kd.R_nil _ _ _ _ _ | exact Kd.N_nil _ _ _ _ _ | exact Kd.V_nil _ _ _ _ _ | exact Kd.Q_nil _ _ _ _ _ | exact Kd.S_nil _ _ _ _ _⟩, ⟨bf BK510.out⟩, ⟨bf BK514.out⟩, ⟨bp BK521.out⟩, ⟨bw⟩⟩
     case round =>
      clear H'
      try clear c14; try clear c14b0; try clear c14b1; try clear c17b0; try clear c18b0; try clear c19b0; try clear c20b0; try clear c21b0; try clear p22; try clear q22; try clear hcz13_0; try clear hcz28_0; try clear hcz8_0; try clear hcz8_1; try clear hfz13_0; try clear hfz28_0; try clear hfz8_0; try clear hfz8_1; try clear hx22_0; try clear hx519_0; try clear p519; try clear q519
      obtain ⟨x10_3, x522000_3, u522000, rfl, HA, HK3, HO_6, HO_522000, BK510, BK514, BK521, HB⟩ := hrel
      cases gk with
      | zero => exact absurd HA.out (by simp [impl_FromGaps.l1])
      | succ k3 =>
       have H := HA.out
       clear HA
       simp only [impl_FromGaps.l1] at H
       replace H := gi H; obtain ⟨c29b0, H⟩ | ⟨c29b0, H⟩ := H
       ·replace H := gd H; obtain ⟨c30b0, H⟩ := H
        have H' := am H
        clear H
        obtain ⟨Ao31, co31, eo31⟩ := Kd.R_slice HO_6.out
        subst eo31
        obtain ⟨⟨ad522, e522, hx522_0⟩, p522, q522⟩ := pq (Kd.at_bool (Kd.R_reads' HO_6.out).2.2 x10_3)
        cases e522
        go_wp2
        go_loopg [11, 12] k3 (fun kq v11 v12 w' => ∃ (x11_4 : Bool) (x12_4 : Int), v11 = .bool x11_4 ∧ v12 = .int .i64 x12_4 ∧ Aside0 (impl_FromGaps.l2 kq l0 x6_2 x10_3 x11_4 x12_4 x522000_3 = some (r1, r2)) ∧ Aside0 (kq ≤ k3) ∧ Aside0 (Kd.R Kd.bool 4 w' w.heap.size (fun _ => True) (.slice (some ad522) x6_2.length co31) x6_2) ∧ Aside0 (Kd.R (Kd.int .i64) 3 w' w.heap.size (fun _ => True) u522000 x522000_3) ∧ Aside0 (w'.heap[gb510]? = some (.cells #[(.slice none 0 0)] 26 (0, 0))) ∧ Aside0 (w'.heap[gb514]? = some (.cells #[.int .i64 t511, .int .i64 t512] 54 (0, 0))) ∧ Aside0 (w'.heap[gb521]? = some (.cells #[u522000] 26 (0, 0))) ∧ Aside0 (Below w.heap.size w w'))
        case atStart => exact ⟨(rdOf false x6_2 x10_3), (1), rr, rr, H', ⟨Nat.le_refl _⟩, ⟨ro HO_6.out⟩, ⟨ro HO_522000.out⟩, ⟨bo BK510.out⟩, ⟨bo BK514.out⟩, ⟨bo BK521.out⟩, ⟨bw⟩⟩
        case round =>
         clear H'
         try clear c14; try clear c14b0; try clear c14b1; try clear c17b0; try clear c18b0; try clear c19b0; try clear c20b0; try clear c21b0; try clear p22; try clear q22; try clear c29b0; try clear c30b0; try clear hcz13_0; try clear hcz28_0; try clear hcz8_0; try clear hcz8_1; try clear hfz13_0; try clear hfz28_0; try clear hfz8_0; try clear hfz8_1; try clear hx22_0; try clear hx519_0; try clear hx522_0; try clear p519; try clear p522; try clear q519; try clear q522
         obtain ⟨x11_4, x12_4, rfl, rfl, HA, HK4, HO_6, HO_522000, BK510, BK514, BK521, HB⟩ := hrel
         cases gk with
         | zero => exact absurd HA.out (by simp [impl_FromGaps.l2])
         | succ k4 =>
          have H := HA.out
          clear HA
          simp only [impl_FromGaps.l2] at H
          replace H := gi H; obtain ⟨c32b0, H⟩ | ⟨c32b0, H⟩ := H
          ·replace H := gb H; obtain ⟨rfl, H⟩ | ⟨rfl, H⟩ := H
           ·have H' := am H
            clear H
            go_wp2
            go_roundg k4
            case measure => have := HJ2.out; have := HK2.out; have := HK3.out; have := HK4.out; omega
            case rel => exact ⟨(wrap64 (x10_3 + 1)), (x522000_3), (u522000), rr, H', ⟨by have := HJ2.out; have := HK2.out; have := HK3.out; have := HK4.out; omega⟩, ⟨ro HO_6.out⟩, ⟨ro HO_522000.out⟩, ⟨bo BK510.out⟩, ⟨bo BK514.out⟩, ⟨bo BK521.out⟩, ⟨bw⟩⟩
           replace H := gd H; obtain ⟨c34b0, H⟩ := H
           replace H := gd H; obtain ⟨c35b0, H⟩ := H
           obtain ⟨bq36, hbq36⟩ : ∃ b_ : Bool, b_ = (rdOf false x6_2 x12_4) := ⟨_, rfl⟩
           replace H : (if bq36 = true then (impl_FromGaps.l2 k4 l0 x6_2 x10_3 false (wrap64 (x12_4 + 1)) x522000_3) else (if 0 ≤ (wrap64 (x10_3 - x12_4)) then (if (wrap64 (x10_3 - x12_4)) < (x6_2.length : Int) then (impl_FromGaps.l2 k4 l0 x6_2 x10_3 (!(rdOf false x6_2 (wrap64 (x10_3 - x12_4)))) (wrap64 (x12_4 + 1)) x522000_3) else (none)) else (none))) = some (r1, r2) := by rw [← hbq36] at H; exact H
           have Nbq36 := am hbq36
           clear hbq36
           replace H := gb H; obtain ⟨rfl, H⟩ | ⟨rfl, H⟩ := H
           ·have H' := am H
            clear H
            obtain ⟨⟨ad523, e523, hx523_0⟩, p523, q523⟩ := pq (Kd.at_bool (Kd.R_reads' HO_6.out).2.2 x12_4)
            (try rw [← Nbq36.out] at hx523_0)
            obtain rfl : ad522 = ad523 := (by injection e523)
            go_wp2
            go_roundg k4
            case measure => have := HJ2.out; have := HK2.out; have := HK3.out; have := HK4.out; omega
            case rel => exact ⟨(false), (wrap64 (x12_4 + 1)), rr, rr, H', ⟨by have := HJ2.out; have := HK2.out; have := HK3.out; have := HK4.out; omega⟩, ⟨ro HO_6.out⟩, ⟨ro HO_522000.out⟩, ⟨bo BK510.out⟩, ⟨bo BK514.out⟩, ⟨bo BK521.out⟩, ⟨bw⟩⟩
           obtain ⟨ji38, hji38⟩ : ∃ j_ : Int, (wrap64 (x10_3 - x12_4)) = j_ := ⟨_, rfl⟩
           replace H : (if 0 ≤ (ji38) then (if (ji38) < (x6_2.length : Int) then (impl_FromGaps.l2 k4 l0 x6_2 x10_3 (!(rdOf false x6_2 (ji38))) (wrap64 (x12_4 + 1)) x522000_3) else (none)) else (none)) = some (r1, r2) := by first | (rw [hji38] at H; exact H) | (simp only [hji38] at H ⊢; exact H)
           have hji38w : (IntKind.i64.wrap (x10_3 - x12_4)) = ji38 := (i64_w _).trans hji38
           replace H := gd H; obtain ⟨c39b0, H⟩ := H
           replace H := gd H; obtain ⟨c40b0, H⟩ := H
           have H' := am H
           clear H
           obtain ⟨⟨ad523, e523, hx523_0⟩, p523, q523⟩ := pq (Kd.at_bool (Kd.R_reads' HO_6.out).2.2 x12_4)
           (try rw [← Nbq36.out] at hx523_0)
           obtain rfl : ad522 = ad523 := (by injection e523)
           obtain ⟨⟨ad524, e524, hx524_0⟩, p524, q524⟩ := pq (Kd.at_bool (Kd.R_reads' HO_6.out).2.2 (ji38))
           (try rw [← Nbq36.out] at hx524_0)
           obtain rfl : ad522 = ad524 := (by injection e524)
           go_wp2
           go_roundg k4
           case measure => have := HJ2.out; have := HK2.out; have := HK3.out; have := HK4.out; omega
           case rel => exact ⟨(!(rdOf false x6_2 (ji38))), (wrap64 (x12_4 + 1)), (by first | rfl | (simp; done) | (simp only [← hji38] <;> (first | rfl | simp)) | (simp [*]; done)), rr, H', ⟨by have := HJ2.out; have := HK2.out; have := HK3.out; have := HK4.out; omega⟩, ⟨ro HO_6.out⟩, ⟨ro HO_522000.out⟩, ⟨bo BK510.out⟩, ⟨bo BK514.out⟩, ⟨bo BK521.out⟩, ⟨bw⟩⟩
          replace H := gb H; obtain ⟨rfl, H⟩ | ⟨rfl, H⟩ := H
          ·have H' := am H
           clear H
           go_wp2
           go_roundg k4
           case measure => have := HJ2.out; have := HK2.out; have := HK3.out; have := HK4.out; omega
           case rel => exact ⟨(wrap64 (x10_3 + 1)), (x522000_3), (u522000), rr, H', ⟨by have := HJ2.out; have := HK2.out; have := HK3.out; have := HK4.out; omega⟩, ⟨ro HO_6.out⟩, ⟨ro HO_522000.out⟩, ⟨bo BK510.out⟩, ⟨bo BK514.out⟩, ⟨bo BK521.out⟩, ⟨bw⟩⟩
          by_cases c42 : x522000_3.length < 17592186044416
          rotate_left
          ·rw [if_neg c42] at H
           exact absurd H (by simp)
          rw [if_pos c42] at H
          have LMc42 := am c42
          clear c42
          obtain ⟨y525, hy525⟩ : ∃ y_ : List Int, y_ = (x522000_3 ++ [x10_3]) := ⟨_, rfl⟩
          replace H : (impl_FromGaps.l1 k4 l0 x6_2 (wrap64 (x10_3 + 1)) y525) = some (r1, r2) := by first | (rw [hy525]; with_reducible first | exact H | exact bs H) | (with_reducible first | exact bs H | exact H) | (rw [hy525]; exact H) | exact H
          have Ny525 := am hy525
          clear hy525
          have H' := am H
          clear H
          have hnb43 := NB521_510.out
          have hnc43 := NB510_521.out
          have hnb44 := NB521_514.out
          have hnc44 := NB514_521.out
          have hcz45_0 := bc BK521 0 (u522000)
          have hfz45_0 := blk_frozen BK521.out 0
          go_wp2_with (first | ((with_reducible refine gate_builtin (b := .append) (xs := #[.tmp 74, .tmp 76]) rfl ?_); at_builtin; refine Kd.R_append (Kd.int .i64) (w0 := w) w.heap.size rfl (.tmp 74) (.tmp 76) 22 3 (.int .i64 0) 8 rfl Try.underlying22 info3 rfl (by decide) (by omega) u522000 x522000_3 x10_3 [.int .i64 x10_3] (fun _ => True) (fun _ => False) rfl rfl ?aP (fun _ hk => hk.elim) ?aF ?aO ?aB ?aS ?aL ?_; (case aP => exact rfl); (case aB => exact bw); (case aF => exact (fun _ _ => trivial)); (case aO => exact (ro HO_522000.out)); (case aS => exact (below_size bw)); (case aL => have := LMc42.out; omega); intro v526 w46 ho hb hg hat; rw [← Ny525.out] at ho; replace HO_6 := am (Kd.R_over' (ro HO_6.out) (Kd.R_typed (ro HO_522000.out)) (by decide) hg); replace BK510 := am (blk_grown (g := gb510) (o := .cells #[.slice none 0 0] 26 (0, 0)) (bo BK510.out) hg (Kd.R_ne HO_522000.out BK510.out (by decide))); replace BK514 := am (blk_grown (g := gb514) (o := .cells #[.int .i64 t511, .int .i64 t512] 54 (0, 0)) (bo BK514.out) hg (Kd.R_ne HO_522000.out BK514.out (by decide))); replace BK521 := am (blk_grown (g := gb521) (o := .cells #[u522000] 26 (0, 0)) (bo BK521.out) hg (Kd.R_ne HO_522000.out BK521.out (by decide))); replace HB := am (hb); have HO527 := am (ho); clear HO_522000 ho hb hg hat; obtain ⟨Ao47, co47, eo47⟩ := Kd.R_slice HO527.out; subst eo47; have hcz48_0 := bc BK521 0 (u522000); have hfz48_0 := blk_frozen BK521.out 0))
          go_roundg k4
          case measure => have := HJ2.out; have := HK2.out; have := HK3.out; have := HK4.out; omega
          case rel => exact ⟨(wrap64 (x10_3 + 1)), (y525), (.slice Ao47 y525.length co47), rr, H', ⟨by have := HJ2.out; have := HK2.out; have := HK3.out; have := HK4.out; omega⟩, ⟨rM (Kd.R_far (p := ⟨gb521, 0, none⟩) (Kd.R_types HO_6.out BK521.out (by decide)) (fun _ hk => hk.2) (.slice Ao47 y525.length co47)) (fun _ hk => trivial)⟩, ⟨rM (Kd.R_far (p := ⟨gb521, 0, none⟩) (Kd.R_types HO527.out BK521.out (by decide)) (fun _ hk => hk.2) (.slice Ao47 y525.length co47)) (fun _ hk => trivial)⟩, ⟨bf BK510.out⟩, ⟨bf BK514.out⟩, ⟨by (with_reducible repeat (first | refine blk_drewN ?_ _ | refine blk_drew ?_ | refine blk_alloc ?_ _)); refine blk_put (cs := #[u522000]) ?_ 0 _ rfl; (with_reducible repeat (first | refine blk_drewN ?_ _ | refine blk_drew ?_ | refine blk_alloc ?_ _)); exact BK521.out⟩, ⟨bw⟩⟩
       replace H := ga H; obtain ⟨t528, A49, H⟩ := H
       replace H := gb H; obtain ⟨rfl, H⟩ | ⟨rfl, H⟩ := H
       ·replace H := ga H; obtain ⟨t529, A51, H⟩ := H
        replace H := ga H; obtain ⟨t532, A52, H⟩ := H
        replace H := gb H; obtain ⟨rfl, H⟩ | ⟨rfl, H⟩ := H
        ·simp only [Option.some.injEq, Prod.mk.injEq] at H
         obtain ⟨rfl, rfl⟩ := H
         obtain ⟨Ao54, co54, eo54⟩ := Kd.R_slice HO_6.out
         subst eo54
         have hnb55 := NB521_510.out
         have hnc55 := NB510_521.out
         have hnb56 := NB521_514.out
         have hnc56 := NB514_521.out
         have hcz57_0 := bc BK521 0 (u522000)
         have hfz57_0 := blk_frozen BK521.out 0
         obtain ⟨Ao58, co58, eo58⟩ := Kd.R_slice HO_522000.out
         subst eo58
         go_wp2_with (first | ((with_reducible refine gate_callee (f := 27) rfl ?_); refine gl (some 80) Try.func27 #[.agg #[.slice Ao58 x522000_3.length co58]] ?_; (with_reducible refine (impl_IsSemigroup.calls k3 _ _ x522000_3 true _ ?side1 ?side2 A49.out).mono ?_); (case side1 => exact co (Kd.R_reads' HO_522000.out).2.2); (case side2 => exact (Kd.R_reads' HO_522000.out).2.1); rintro e w59 ⟨rfl, hb⟩; refine ⟨_, rfl, ?_⟩; replace HO_6 := rK HO_6 hb; replace HO_522000 := rK HO_522000 hb; replace BK510 := kb BK510 hb; replace BK514 := kb BK514 hb; replace BK521 := kb BK521 hb; replace HB := am (below_step bw hb); clear hb; have hcz60_0 := bc BK521 0 (.slice Ao58 x522000_3.length co58); have hfz60_0 := blk_frozen BK521.out 0) | (go_at_call 31; (with_reducible refine (impl_Gaps.calls k3 _ _ x522000_3 t529 _ ?side1 ?side2 A51.out).mono ?_); (case side1 => exact co (Kd.R_reads' HO_522000.out).2.2); (case side2 => exact (Kd.R_reads' HO_522000.out).2.1); rintro e w61 ⟨v530, rfl, ho0, hb⟩; replace HO_6 := rK HO_6 hb; have HO531 := am (Kd.R_lower (Kd.R_new' ho0 (Kd.R_lt (ro HO_522000.out))) (below_size bw)); replace HO_522000 := am (Kd.R_elder' (ro HO_522000.out) (Kd.R_base ho0) hb); replace BK510 := kb BK510 hb; replace BK514 := kb BK514 hb; replace BK521 := kb BK521 hb; replace HB := am (below_step bw hb); clear hb ho0; obtain ⟨Ao62, co62, eo62⟩ := Kd.R_slice HO531.out; subst eo62) | (go_at_call 63; (with_reducible refine (slices_Equal_int_int.calls k3 _ _ t529 _ _ l0 true _ ?side1 ?side2 ?side3 ?side4 A52.out).mono ?_); (case side1 => exact co (Kd.R_reads' HO531.out).2.2); (case side2 => exact (Kd.R_reads' HO531.out).2.1); (case side3 => exact co (Kd.C_below HR0.out HB.out)); (case side4 => exact HC0.out); rintro e w' ⟨rfl, ⟨nd, rfl⟩⟩; (try (rw [drewN_self w61]; generalize hq_ : World.drewN w61 _ = w61; have n0_ : Aside0 (Kd.R (Kd.int .i64) 3 w61 w.heap.size (fun k_ => nb k_ Ao58 x522000_3 co58) (.slice Ao62 t529.length co62) t529) := ⟨by rw [← hq_]; exact (rM HO531.out (fun _ hk => hk.2))⟩; have n1_ : Aside0 (Kd.R (Kd.int .i64) 3 w61 w.heap.size (fun k_ => nb k_ Ao62 t529 co62) (.slice Ao58 x522000_3.length co58) x522000_3) := ⟨by rw [← hq_]; exact (rM HO_522000.out (fun _ hk => hk.2))⟩; have n2_ : Aside0 (Kd.R Kd.bool 4 w61 w.heap.size (fun _ => True) (.slice Ao54 x6_2.length co54) x6_2) := ⟨by rw [← hq_]; exact (ro HO_6.out)⟩; have n3_ : Aside0 (w61.heap[gb510]? = some (.cells #[.slice none 0 0] 26 (0, 0))) := ⟨by rw [← hq_]; exact (bo BK510.out)⟩; have n4_ : Aside0 (w61.heap[gb514]? = some (.cells #[.int .i64 t511, .int .i64 t512] 54 (0, 0))) := ⟨by rw [← hq_]; exact (bo BK514.out)⟩; have n5_ : Aside0 (w61.heap[gb521]? = some (.cells #[.slice Ao58 x522000_3.length co58] 26 (0, 0))) := ⟨by rw [← hq_]; exact (bo BK521.out)⟩; have n6_ : Aside0 (Below w.heap.size w w61) := ⟨by rw [← hq_]; exact bw⟩; clear HO531 HO_522000 HO_6 BK510 BK514 BK521 HB hq_; have HO531 := n0_; have HO_522000 := n1_; have HO_6 := n2_; have BK510 := n3_; have BK514 := n4_; have BK521 := n5_; have HB := n6_; clear n0_ n1_ n2_ n3_ n4_ n5_ n6_)); have hcz63_0 := bc BK521 0 (.slice Ao58 x522000_3.length co58); have hfz63_0 := blk_frozen BK521.out 0; have hnb64 := NB510_514.out; have hnc64 := NB514_510.out; have hcz65_0 := bc BK510 0 (.slice none 0 0); have hfz65_0 := blk_frozen BK510.out 0))
         refine bodyPost_ret (results_ct rfl _ _ gb510 26 #[.slice Ao58 x522000_3.length co58] (0, 0) _ rfl (bp BK510.out) Try.underlying26 rfl (by kernel_rfl)) rfl ?_
         exact ⟨_, re, rM (Kd.R_far (p := ⟨gb510, 0, none⟩) (Kd.R_types HO_522000.out BK510.out (by decide)) (fun _ hk => hk.2) (.slice Ao58 x522000_3.length co58)) (fun _ hk => trivial), bw⟩
        simp only [Option.some.injEq, Prod.mk.injEq] at H
        obtain ⟨rfl, rfl⟩ := H
        obtain ⟨Ao66, co66, eo66⟩ := Kd.R_slice HO_6.out
        subst eo66
        have hnb67 := NB521_510.out
        have hnc67 := NB510_521.out
        have hnb68 := NB521_514.out
        have hnc68 := NB514_521.out
        have hcz69_0 := bc BK521 0 (u522000)
        have hfz69_0 := blk_frozen BK521.out 0
        obtain ⟨Ao70, co70, eo70⟩ := Kd.R_slice HO_522000.out
        subst eo70
        go_wp2_with (first | ((with_reducible refine gate_callee (f := 27) rfl ?_); refine gl (some 80) Try.func27 #[.agg #[.slice Ao70 x522000_3.length co70]] ?_; (with_reducible refine (impl_IsSemigroup.calls k3 _ _ x522000_3 true _ ?side1 ?side2 A49.out).mono ?_); (case side1 => exact co (Kd.R_reads' HO_522000.out).2.2); (case side2 => exact (Kd.R_reads' HO_522000.out).2.1); rintro e w71 ⟨rfl, hb⟩; refine ⟨_, rfl, ?_⟩; replace HO_6 := rK HO_6 hb; replace HO_522000 := rK HO_522000 hb; replace BK510 := kb BK510 hb; replace BK514 := kb BK514 hb; replace BK521 := kb BK521 hb; replace HB := am (below_step bw hb); clear hb; have hcz72_0 := bc BK521 0 (.slice Ao70 x522000_3.length co70); have hfz72_0 := blk_frozen BK521.out 0) | (go_at_call 31; (with_reducible refine (impl_Gaps.calls k3 _ _ x522000_3 t529 _ ?side1 ?side2 A51.out).mono ?_); (case side1 => exact co (Kd.R_reads' HO_522000.out).2.2); (case side2 => exact (Kd.R_reads' HO_522000.out).2.1); rintro e w73 ⟨v530, rfl, ho0, hb⟩; replace HO_6 := rK HO_6 hb; have HO531 := am (Kd.R_lower (Kd.R_new' ho0 (Kd.R_lt (ro HO_522000.out))) (below_size bw)); replace HO_522000 := am (Kd.R_elder' (ro HO_522000.out) (Kd.R_base ho0) hb); replace BK510 := kb BK510 hb; replace BK514 := kb BK514 hb; replace BK521 := kb BK521 hb; replace HB := am (below_step bw hb); clear hb ho0; obtain ⟨Ao74, co74, eo74⟩ := Kd.R_slice HO531.out; subst eo74) | (go_at_call 63; (with_reducible refine (slices_Equal_int_int.calls k3 _ _ t529 _ _ l0 false _ ?side1 ?side2 ?side3 ?side4 A52.out).mono ?_); (case side1 => exact co (Kd.R_reads' HO531.out).2.2); (case side2 => exact (Kd.R_reads' HO531.out).2.1); (case side3 => exact co (Kd.C_below HR0.out HB.out)); (case side4 => exact HC0.out); rintro e w' ⟨rfl, ⟨nd, rfl⟩⟩; (try (rw [drewN_self w73]; generalize hq_ : World.drewN w73 _ = w73; have n0_ : Aside0 (Kd.R (Kd.int .i64) 3 w73 w.heap.size (fun k_ => nb k_ Ao70 x522000_3 co70) (.slice Ao74 t529.length co74) t529) := ⟨by rw [← hq_]; exact (rM HO531.out (fun _ hk => hk.2))⟩; have n1_ : Aside0 (Kd.R (Kd.int .i64) 3 w73 w.heap.size (fun k_ => nb k_ Ao74 t529 co74) (.slice Ao70 x522000_3.length co70) x522000_3) := ⟨by rw [← hq_]; exact (rM HO_522000.out (fun _ hk => hk.2))⟩; have n2_ : Aside0 (Kd.R Kd.bool 4 w73 w.heap.size (fun _ => True) (.slice Ao66 x6_2.length co66) x6_2) := ⟨by rw [← hq_]; exact (ro HO_6.out)⟩; have n3_ : Aside0 (w73.heap[gb510]? = some (.cells #[.slice none 0 0] 26 (0, 0))) := ⟨by rw [← hq_]; exact (bo BK510.out)⟩; have n4_ : Aside0 (w73.heap[gb514]? = some (.cells #[.int .i64 t511, .int .i64 t512] 54 (0, 0))) := ⟨by rw [← hq_]; exact (bo BK514.out)⟩; have n5_ : Aside0 (w73.heap[gb521]? = some (.cells #[.slice Ao70 x522000_3.length co70] 26 (0, 0))) := ⟨by rw [← hq_]; exact (bo BK521.out)⟩; have n6_ : Aside0 (Below w.heap.size w w73) := ⟨by rw [← hq_]; exact bw⟩; clear HO531 HO_522000 HO_6 BK510 BK514 BK521 HB hq_; have HO531 := n0_; have HO_522000 := n1_; have HO_6 := n2_; have BK510 := n3_; have BK514 := n4_; have BK521 := n5_; have HB := n6_; clear n0_ n1_ n2_ n3_ n4_ n5_ n6_)); have hnb75 := NB510_514.out; have hnc75 := NB514_510.out; have hcz76_0 := bc BK510 0 (.slice none 0 0); have hfz76_0 := blk_frozen BK510.out 0))
        refine bodyPost_ret (results_ct rfl _ _ gb510 26 #[.slice none 0 0] (0, 0) _ rfl (bp BK510.out) Try.underlying26 rfl (by kernel_rfl)) rfl ?_
        exact ⟨_, re, by first | exact Kd.R_nil _ _ _ _ _ | exact Kd.N_nil _ _ _ _ _ | exact Kd.V_nil _ _ _ _ _ | exact Kd.Q_nil _ _ _ _ _ | exact Kd.S_nil _ _ _ _ _, bw⟩
       simp only [Option.some.injEq, Prod.mk.injEq] at H
       obtain ⟨rfl, rfl⟩ := H
       obtain ⟨Ao77, co77, eo77⟩ := Kd.R_slice HO_6.out
       subst eo77
       have hnb78 := NB521_510.out
       have hnc78 := NB510_521.out
       have hnb79 := NB521_514.out
       have hnc79 := NB514_521.out
       have hcz80_0 := bc BK521 0 (u522000)
       have hfz80_0 := blk_frozen BK521.out 0
       obtain ⟨Ao81, co81, eo81⟩ := Kd.R_slice HO_522000.out
       subst eo81
       go_wp2_with (first | ((with_reducible refine gate_callee (f := 27) rfl ?_); refine gl (some 80) Try.func27 #[.agg #[.slice Ao81 x522000_3.length co81]] ?_; (with_reducible refine (impl_IsSemigroup.calls k3 _ _ x522000_3 false _ ?side1 ?side2 A49.out).mono ?_); (case side1 => exact co (Kd.R_reads' HO_522000.out).2.2); (case side2 => exact (Kd.R_reads' HO_522000.out).2.1); rintro e w82 ⟨rfl, hb⟩; refine ⟨_, rfl, ?_⟩; replace HO_6 := rK HO_6 hb; replace HO_522000 := rK HO_522000 hb; replace BK510 := kb BK510 hb; replace BK514 := kb BK514 hb; replace BK521 := kb BK521 hb; replace HB := am (below_step bw hb); clear hb; have hnb83 := NB510_514.out; have hnc83 := NB514_510.out; have hcz84_0 := bc BK510 0 (.slice none 0 0); have hfz84_0 := blk_frozen BK510.out 0))
       refine bodyPost_ret (results_ct rfl _ _ gb510 26 #[.slice none 0 0] (0, 0) _ rfl (bp BK510.out) Try.underlying26 rfl (by kernel_rfl)) rfl ?_
       exact ⟨_, re, by first | exact Kd.R_nil _ _ _ _ _ | exact Kd.N_nil _ _ _ _ _ | exact Kd.V_nil _ _ _ _ _ | exact Kd.Q_nil _ _ _ _ _ | exact Kd.S_nil _ _ _ _ _, bw⟩

end Go.Proofs.Ytlhcpbpcdicleaa.C
