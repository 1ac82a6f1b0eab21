/- Contracts of functions of the program: impl_GapClash. -/
import Derived.Test.YtlhcpbpcdicleaaC0
import Derived.Test.YtlhcpbpcdicleaaC7
namespace Go.Proofs.Ytlhcpbpcdicleaa.C
open Go.RowKit Go.Proofs.YtlhcpbpcdicleaaW.PrintWords Go.Proofs.YtlhcpbpcdicleaaW.PrintLast Go.Proofs.YtlhcpbpcdicleaaW.PrintMore
attribute [local go_sem] max2_int min2_int max_two min_two max_three min_three max_four min_four
set_option linter.unusedVariables false
set_option linter.unusedSimpArgs false

/-! ### impl_GapClash: function 61 -/
mutual
def impl_GapClash.j0 : Nat → List Int → Bool → Option (Int × Int × Bool)
 | 0, _, _ => none
 | k + 1, x0, x17 => if x17 = true then (some (0, 0, false)) else (if 201 ≤ 281474976710656 then (impl_GapClash.l0 k x0 (List.replicate 201 false) x0 (x0.length : Int) 0) else (none))
def impl_GapClash.l0 : Nat → List Int → List Bool → List Int → Int → Int → Option (Int × Int × Bool)
 | 0, _, _, _, _, _ => none
 | k + 1, x0, x4, x20, x21, x22 => if x22 < x21 then (if 0 ≤ x22 then (if x22 < (x20.length : Int) then (if 0 ≤ (rd x20 x22) then (if (rd x20 x22) < (x4.length : Int) then (impl_GapClash.l0 k x0 (x4.set ((rd x20 x22) : Int).toNat true) x20 x21 (wrap64 (x22 + 1))) else (none)) else (none)) else (none)) else (none)) else (if 0 ≤ (wrap64 ((x0.length : Int) - 1)) then (if (wrap64 ((x0.length : Int) - 1)) < (x0.length : Int) then (impl_GapClash.l1 k x4 (rd x0 (wrap64 ((x0.length : Int) - 1))) 1) else (none)) else (none))
def impl_GapClash.l1 : Nat → List Bool → Int → Int → Option (Int × Int × Bool)
 | 0, _, _, _ => none
 | k + 1, x4, x7, x8 => if x8 ≤ x7 then (impl_GapClash.l2 k x4 x7 x8 x8) else (some (0, 0, false))
def impl_GapClash.l2 : Nat → List Bool → Int → Int → Int → Option (Int × Int × Bool)
 | 0, _, _, _, _ => none
 | k + 1, x4, x7, x8, x9 => if (wrap64 (x8 + x9)) ≤ x7 then (if 0 ≤ x8 then (if x8 < (x4.length : Int) then (if rdOf false x4 x8 = true then (impl_GapClash.l2 k x4 x7 x8 (wrap64 (x9 + 1))) else (if 0 ≤ x9 then (if x9 < (x4.length : Int) then (if rdOf false x4 x9 = true then (impl_GapClash.l2 k x4 x7 x8 (wrap64 (x9 + 1))) else (if 0 ≤ (wrap64 (x8 + x9)) then (if (wrap64 (x8 + x9)) < (x4.length : Int) then (if rdOf false x4 (wrap64 (x8 + x9)) = true then (some (x8, x9, true)) else (impl_GapClash.l2 k x4 x7 x8 (wrap64 (x9 + 1)))) else (none)) else (none))) else (none)) else (none))) else (none)) else (none)) else (impl_GapClash.l1 k x4 x7 (wrap64 (x8 + 1)))
end
def impl_GapClash.f (k : Nat) (l0 : List Int) : Option (Int × Int × Bool) := (impl_gapList.f k l0).bind fun t405 => (if t405 = true then (impl_GapClash.j0 k l0 ((l0.length : Int) == 0)) else (impl_GapClash.j0 k l0 true))
set_option maxHeartbeats 8000000 in
set_option maxRecDepth 100000 in
theorem impl_GapClash.calls (k : Nat) (A0 : Option Addr) (c0 : Nat) (l0 : List Int) (r1 : Int) (r2 : Int) (r3 : Bool) (w : World) (hr0 : Kd.C (Kd.int .i64) w A0 l0.length l0) (hc0 : l0.length ≤ c0) (h : impl_GapClash.f k l0 = some (r1, r2, r3)) :
  Calls Try.prog 61 #[.slice A0 l0.length c0] w fun e w' => e = .returned (.tuple #[.agg #[.int .i64 r1, .int .i64 r2], .bool r3]) ∧ Below w.heap.size w w' := by
 have hu54 := Try.underlying54
 have HR0 := am hr0
 have HC0 := am hc0
 clear hr0 hc0
 have HB := am (Below.refl w.heap.size w)
 have H : ((impl_gapList.f k l0).bind fun t405 => (if t405 = true then (impl_GapClash.j0 k l0 ((l0.length : Int) == 0)) else (impl_GapClash.j0 k l0 true))) = some (r1, r2, r3) := h
 clear h
 have HC2 := am H
 clear H
 go_enter Try.func61, Try.ntmps61
 go_upto_region 1 with (first | ((with_reducible refine gate_dst (N := 2) rfl ?_); (try (refine gate_guard (by rfl) ?_; dsimp only)); refine bx 2 #[.int .i64 0, .int .i64 0] 54 ?_; intro gb404 hg w3 hbox hb; have BK404 := am (hbox); have GW404 := am (gs hg : w.heap.size ≤ gb404); have GE404 := GW404; replace HB := am (below_step bw hb); clear hb hbox hg))
 (try simp only [Act.put, List.setIfInBounds_toArray, List.set_cons_zero, List.set_cons_succ])
 go_cut [17] (fun v17 wc => ∃ (kq : Nat) (x17_1 : Bool), v17 = .bool x17_1 ∧ Aside0 (impl_GapClash.j0 kq l0 x17_1 = some (r1, r2, r3)) ∧ Aside0 (kq ≤ k) ∧ Aside0 (wc.heap[gb404]? = some (.cells #[.int .i64 0, .int .i64 0] 54 (0, 0))) ∧ Aside0 (Below w.heap.size w wc))
 case first =>
  have H := HC2.out
  clear HC2
  replace H := ga H; obtain ⟨t405, A4, H⟩ := H
  replace H := gb H; obtain ⟨rfl, H⟩ | ⟨rfl, H⟩ := H
  ·have H' := am H
   clear H
   go_wp2_with (first | ((with_reducible refine gate_callee (f := 62) rfl ?_); refine gl (some 11) Try.func62 #[.slice A0 l0.length c0] ?_; (with_reducible refine (impl_gapList.calls k _ _ l0 true _ ?side1 ?side2 A4.out).mono ?_); (case side1 => exact co (Kd.C_below HR0.out HB.out)); (case side2 => exact HC0.out); rintro e w' ⟨rfl, ⟨nd, rfl⟩⟩; refine ⟨_, rfl, ?_⟩))
   go_meet
   case rel => exact ⟨_, (((l0.length : Int) == 0)), rr, H', ⟨om⟩, ⟨bo BK404.out⟩, ⟨bw⟩⟩
  have H' := am H
  clear H
  go_wp2_with (first | ((with_reducible refine gate_callee (f := 62) rfl ?_); refine gl (some 11) Try.func62 #[.slice A0 l0.length c0] ?_; (with_reducible refine (impl_gapList.calls k _ _ l0 false _ ?side1 ?side2 A4.out).mono ?_); (case side1 => exact co (Kd.C_below HR0.out HB.out)); (case side2 => exact HC0.out); rintro e w' ⟨rfl, ⟨nd, rfl⟩⟩; refine ⟨_, rfl, ?_⟩))
  go_meet
  case rel => exact ⟨_, (true), rr, H', ⟨om⟩, ⟨bo BK404.out⟩, ⟨bw⟩⟩
 case rest =>
  clear HC2
  obtain ⟨kq, x17_1, rfl, HA, HJ1, BK404, HB⟩ := hcut
  cases kq with
  | zero => exact absurd HA.out (by simp [impl_GapClash.j0])
  | succ kj1 =>
   have H := HA.out
   clear HA
   simp only [impl_GapClash.j0] at H
   replace H := gb H; obtain ⟨rfl, H⟩ | ⟨rfl, H⟩ := H
   ·simp only [Option.some.injEq, Prod.mk.injEq] at H
    obtain ⟨rfl, rfl, rfl⟩ := H
    have hcz7_0 := bc BK404 0 (.int .i64 0)
    have hcz7_1 := bc BK404 1 (.int .i64 0)
    have hfz7_0 := blk_frozen BK404.out 0
    have hfz7_1 := blk_frozen BK404.out 1
    go_wp2
    refine bodyPost_ret (results_ct rfl _ _ gb404 54 #[.int .i64 0, .int .i64 0] (0, 0) _ rfl (by (with_reducible repeat (first | refine blk_drewN ?_ _ | refine blk_drew ?_ | refine blk_alloc ?_ _)); refine blk_put (cs := #[.int .i64 0, .int .i64 0]) ?_ 1 _ rfl; (with_reducible repeat (first | refine blk_drewN ?_ _ | refine blk_drew ?_ | refine blk_alloc ?_ _)); refine blk_put (cs := #[.int .i64 0, .int .i64 0]) ?_ 0 _ rfl; (with_reducible repeat (first | refine blk_drewN ?_ _ | refine blk_drew ?_ | refine blk_alloc ?_ _)); exact BK404.out) Try.underlying54 rfl (by kernel_rfl)) rfl ?_
    exact ⟨re, bw⟩
   replace H := gp H; obtain ⟨c8, H⟩ := H
   have c8b0 := eq_true c8
   have c8b1 : decide (201 ≤ 281474976710656) = true := decide_eq_true c8
   clear c8
   obtain ⟨y406, hy406⟩ : ∃ y_ : List Bool, y_ = (List.replicate 201 false) := ⟨_, rfl⟩
   replace H : (impl_GapClash.l0 kj1 l0 y406 l0 (l0.length : Int) 0) = some (r1, r2, r3) := by first | (rw [hy406]; with_reducible first | exact H | exact bs H) | (with_reducible first | exact bs H | exact H) | (rw [hy406]; exact H) | exact H
   have Ny406 := am hy406
   clear hy406
   have H' := am H
   clear H
   go_wp2_with (first | ((with_reducible refine gate_dst (N := 19) rfl ?_); (try (refine gate_guard (by rfl) ?_; dsimp only)); refine Kd.R_make Kd.bool _ 4 rfl (N := 19) rfl 57 _ _ rfl 201 rfl rfl Try.underlying57 (.bool false) 1 info4 rfl (by decide) (by omega) false (ok := fun _ => True) (okp := fun _ => True) rfl (fun _ hk => hk) trivial (by omega) (by omega) (Below.refl _ _) (Nat.le_refl _) ?_; intro v407 w9 ho10 hb hg_ hnew_; clear hg_ hnew_; (first | rw [← Ny406.out] at ho10 | (simp only [Int.reduceToNat] at ho10; rw [← Ny406.out] at ho10)); have HO408 := am (Kd.R_lower ho10 (below_size bw)); replace BK404 := kb BK404 hb; replace HB := am (below_step bw hb); clear hb ho10))
   go_loopg [22] kj1 (fun kq v22 w' => ∃ (x4_2 : List Bool) (x22_2 : Int), v22 = .int .i64 x22_2 ∧ Aside0 (impl_GapClash.l0 kq l0 x4_2 l0 (l0.length : Int) x22_2 = some (r1, r2, r3)) ∧ Aside0 (kq ≤ kj1) ∧ Aside0 (Kd.R Kd.bool 4 w' w.heap.size (fun _ => True) v407 x4_2) ∧ Aside0 (w'.heap[gb404]? = some (.cells #[.int .i64 0, .int .i64 0] 54 (0, 0))) ∧ Aside0 (Below w.heap.size w w'))
   case atStart => exact ⟨(y406), (0), rr, H', ⟨Nat.le_refl _⟩, ⟨ro HO408.out⟩, ⟨bo BK404.out⟩, ⟨bw⟩⟩
   case round =>
    clear H'
    try clear c8; try clear c8b0; try clear c8b1; try clear hcz7_0; try clear hcz7_1; try clear hfz7_0; try clear hfz7_1
    obtain ⟨x4_2, x22_2, rfl, HA, HK2, HO_4, BK404, HB⟩ := hrel
    cases gk with
    | zero => exact absurd HA.out (by simp [impl_GapClash.l0])
    | succ k2 =>
     have H := HA.out
     clear HA
     simp only [impl_GapClash.l0] at H
     replace H := gi H; obtain ⟨c11b0, H⟩ | ⟨c11b0, H⟩ := H
     ·replace H := gd H; obtain ⟨c12b0, H⟩ := H
      replace H := gd H; obtain ⟨c13b0, H⟩ := H
      replace H := gd H; obtain ⟨c14b0, H⟩ := H
      replace H := gd H; obtain ⟨c15b0, H⟩ := H
      obtain ⟨y410, hy410⟩ : ∃ y_ : List Bool, y_ = (x4_2.set ((rd l0 x22_2) : Int).toNat true) := ⟨_, rfl⟩
      replace H : (impl_GapClash.l0 k2 l0 y410 l0 (l0.length : Int) (wrap64 (x22_2 + 1))) = some (r1, r2, r3) := by first | (rw [hy410]; with_reducible first | exact H | exact bs H) | (with_reducible first | exact bs H | exact H) | (rw [hy410]; exact H) | exact H
      have Ny410 := am hy410
      clear hy410
      have H' := am H
      clear H
      obtain ⟨⟨ad409, e409, hx409_0⟩, p409, q409⟩ := pq (Kd.at_int HR0.out x22_2)
      cases e409
      replace hx409_0 := hw HB hx409_0
      have p16 : 0 ≤ ((rd l0 x22_2) : Int) := of_decide_eq_true (by first | (with_reducible assumption) | assumption)
      have q16 : ((rd l0 x22_2) : Int) < ((x4_2.length : Int) : Int) := of_decide_eq_true (by first | (with_reducible assumption) | assumption)
      obtain ⟨go16, co16, eo16, gb16, gl16, cl16, HG16⟩ := Kd.R_form HO_4.out (by omega)
      (first | cases eo16 | (injection eo16 with ea_ en_ ec_; (first | subst ea_ | (injection ea_ with ea_; subst ea_)); subst ec_; clear en_))
      have GB16 := am gb16
      have GG16 := am HG16
      clear gb16 gl16 HG16
      obtain ⟨hx16_0, hf16_0⟩ := Kd.R_celln false HO_4.out ((rd l0 x22_2) : Int) p16 q16
      replace p16 := eq_true p16
      replace q16 := eq_true q16
      have HP17 := Kd.R_putg HO_4.out ((rd l0 x22_2) : Int) true
      go_wp2_with (first | ((with_reducible refine gate_store (t := 4) (p := 28) rfl ?_); refine store_event (t := 4) (p := 28) (v := ?vo_w18) (w1 := (wr.setCell ⟨go16, ((rd l0 x22_2) : Int).toNat, none⟩ (.bool true))) ?hg ?ho ?hn ?hr ?_; (case ho => rfl); (case hg => rfl); (case hn => rfl); (case hr => first | (go_simp; done) | (go_simp; rfl)); intro w18 hw; have hg : wr.grownBy w18 (some go16) := (by rw [hw]; exact HP17.2); have hp_ : Kd.R Kd.bool 4 w18 w.heap.size (fun _ => True) (.slice (some ⟨go16, 0, none⟩) x4_2.length co16) y410 := (by rw [hw, Ny410.out]; exact HP17.1); clear HP17; replace BK404 := am (blk_grown (g := gb404) (o := .cells #[.int .i64 0, .int .i64 0] 54 (0, 0)) (bo BK404.out) hg (Kd.R_ne HO_4.out BK404.out (by decide))); replace HO_4 := am (hp_); replace HB := am ((by rw [hw]; exact below_set (HB.out) GB16.out : Below w.heap.size w w18)); clear hg hw hp_))
      go_roundg k2
      case measure => have := HJ1.out; have := HK2.out; omega
      case rel => exact ⟨(y410), (wrap64 (x22_2 + 1)), rr, H', ⟨by have := HJ1.out; have := HK2.out; omega⟩, ⟨ro HO_4.out⟩, ⟨bo BK404.out⟩, ⟨bw⟩⟩
     obtain ⟨ji19, hji19⟩ : ∃ j_ : Int, (wrap64 ((l0.length : Int) - 1)) = j_ := ⟨_, rfl⟩
     replace H : (if 0 ≤ (ji19) then (if (ji19) < (l0.length : Int) then (impl_GapClash.l1 k2 x4_2 (rd l0 (ji19)) 1) else (none)) else (none)) = some (r1, r2, r3) := by first | (rw [hji19] at H; exact H) | (simp only [hji19] at H ⊢; exact H)
     have hji19w : (IntKind.i64.wrap ((l0.length : Int) - 1)) = ji19 := (i64_w _).trans hji19
     replace H := gd H; obtain ⟨c20b0, H⟩ := H
     replace H := gd H; obtain ⟨c21b0, H⟩ := H
     have H' := am H
     clear H
     obtain ⟨⟨ad411, e411, hx411_0⟩, p411, q411⟩ := pq (Kd.at_int HR0.out (ji19))
     cases e411
     replace hx411_0 := hw HB hx411_0
     go_wp2
     go_loopg [8] k2 (fun kq v8 w' => ∃ (x8_3 : Int) (x405000_3 : Int) (x405001_3 : Int), v8 = .int .i64 x8_3 ∧ Aside0 (impl_GapClash.l1 kq x4_2 (rd l0 (ji19)) x8_3 = some (r1, r2, r3)) ∧ Aside0 (kq ≤ k2) ∧ Aside0 (Kd.R Kd.bool 4 w' w.heap.size (fun _ => True) v407 x4_2) ∧ Aside0 (w'.heap[gb404]? = some (.cells #[.int .i64 x405000_3, .int .i64 x405001_3] 54 (0, 0))) ∧ Aside0 (Below w.heap.size w w'))
     case atStart => exact ⟨(1), (0), (0), rr, H', ⟨Nat.le_refl _⟩, ⟨ro HO_4.out⟩, ⟨bo BK404.out⟩, ⟨bw⟩⟩
     case round =>
      clear H'
      try clear c8; try clear c8b0; try clear c8b1; try clear c11b0; try clear c12b0; try clear c13b0; try clear c14b0; try clear c15b0; try clear p16; try clear q16; try clear c20b0; try clear c21b0; try clear hcz7_0; try clear hcz7_1; try clear hfz7_0; try clear hfz7_1; try clear hx16_0; try clear hx409_0; try clear hx411_0; try clear p409; try clear p411; try clear q409; try clear q411
      obtain ⟨x8_3, x405000_3, x405001_3, rfl, HA, HK3, HO_4, BK404, HB⟩ := hrel
      cases gk with
      | zero => exact absurd HA.out (by simp [impl_GapClash.l1])
      | succ k3 =>
       have H := HA.out
       clear HA
       simp only [impl_GapClash.l1] at H
       replace H := gi H; obtain ⟨c22b0, H⟩ | ⟨c22b0, H⟩ := H
       ·have H' := am H
        clear H
        go_wp2
        go_loopg [9] k3 (fun kq v9 w' => ∃ (x9_4 : Int) (x405000_4 : Int) (x405001_4 : Int), v9 = .int .i64 x9_4 ∧ Aside0 (impl_GapClash.l2 kq x4_2 (rd l0 (ji19)) x8_3 x9_4 = some (r1, r2, r3)) ∧ Aside0 (kq ≤ k3) ∧ Aside0 (Kd.R Kd.bool 4 w' w.heap.size (fun _ => True) v407 x4_2) ∧ Aside0 (w'.heap[gb404]? = some (.cells #[.int .i64 x405000_4, .int .i64 x405001_4] 54 (0, 0))) ∧ Aside0 (Below w.heap.size w w'))
        case atStart => exact ⟨(x8_3), (x405000_3), (x405001_3), rr, H', ⟨Nat.le_refl _⟩, ⟨ro HO_4.out⟩, ⟨bo BK404.out⟩, ⟨bw⟩⟩
        case round =>
         clear H'
         try clear c8; try clear c8b0; try clear c8b1; try clear c11b0; try clear c12b0; try clear c13b0; try clear c14b0; try clear c15b0; try clear p16; try clear q16; try clear c20b0; try clear c21b0; try clear c22b0; try clear hcz7_0; try clear hcz7_1; try clear hfz7_0; try clear hfz7_1; try clear hx16_0; try clear hx409_0; try clear hx411_0; try clear p409; try clear p411; try clear q409; try clear q411
         obtain ⟨x9_4, x405000_4, x405001_4, rfl, HA, HK4, HO_4, BK404, HB⟩ := hrel
         cases gk with
         | zero => exact absurd HA.out (by simp [impl_GapClash.l2])
         | succ k4 =>
          have H := HA.out
          clear HA
          simp only [impl_GapClash.l2] at H
          replace H := gi H; obtain ⟨c23b0, H⟩ | ⟨c23b0, H⟩ := H
          ·replace H := gd H; obtain ⟨c24b0, H⟩ := H
           replace H := gd H; obtain ⟨c25b0, H⟩ := H
           obtain ⟨bq26, hbq26⟩ : ∃ b_ : Bool, b_ = (rdOf false x4_2 x8_3) := ⟨_, rfl⟩
           replace H : (if bq26 = true then (impl_GapClash.l2 k4 x4_2 (rd l0 (ji19)) x8_3 (wrap64 (x9_4 + 1))) else (if 0 ≤ x9_4 then (if x9_4 < (x4_2.length : Int) then (if rdOf false x4_2 x9_4 = true then (impl_GapClash.l2 k4 x4_2 (rd l0 (ji19)) x8_3 (wrap64 (x9_4 + 1))) else (if 0 ≤ (wrap64 (x8_3 + x9_4)) then (if (wrap64 (x8_3 + x9_4)) < (x4_2.length : Int) then (if rdOf false x4_2 (wrap64 (x8_3 + x9_4)) = true then (some (x8_3, x9_4, true)) else (impl_GapClash.l2 k4 x4_2 (rd l0 (ji19)) x8_3 (wrap64 (x9_4 + 1)))) else (none)) else (none))) else (none)) else (none))) = some (r1, r2, r3) := by rw [← hbq26] at H; exact H
           have Nbq26 := am hbq26
           clear hbq26
           replace H := gb H; obtain ⟨rfl, H⟩ | ⟨rfl, H⟩ := H
           ·have H' := am H
            clear H
            obtain ⟨Ao28, co28, eo28⟩ := Kd.R_slice HO_4.out
            subst eo28
            obtain ⟨⟨ad412, e412, hx412_0⟩, p412, q412⟩ := pq (Kd.at_bool (Kd.R_reads' HO_4.out).2.2 x8_3)
            (try rw [← Nbq26.out] at hx412_0)
            cases e412
            go_wp2
            go_roundg k4
            case measure => have := HJ1.out; have := HK2.out; have := HK3.out; have := HK4.out; omega
            case rel => exact ⟨(wrap64 (x9_4 + 1)), (x405000_4), (x405001_4), rr, H', ⟨by have := HJ1.out; have := HK2.out; have := HK3.out; have := HK4.out; omega⟩, ⟨ro HO_4.out⟩, ⟨bo BK404.out⟩, ⟨bw⟩⟩
           replace H := gd H; obtain ⟨c29b0, H⟩ := H
           replace H := gd H; obtain ⟨c30b0, H⟩ := H
           obtain ⟨bq31, hbq31⟩ : ∃ b_ : Bool, b_ = (rdOf false x4_2 x9_4) := ⟨_, rfl⟩
           replace H : (if bq31 = true then (impl_GapClash.l2 k4 x4_2 (rd l0 (ji19)) x8_3 (wrap64 (x9_4 + 1))) else (if 0 ≤ (wrap64 (x8_3 + x9_4)) then (if (wrap64 (x8_3 + x9_4)) < (x4_2.length : Int) then (if rdOf false x4_2 (wrap64 (x8_3 + x9_4)) = true then (some (x8_3, x9_4, true)) else (impl_GapClash.l2 k4 x4_2 (rd l0 (ji19)) x8_3 (wrap64 (x9_4 + 1)))) else (none)) else (none))) = some (r1, r2, r3) := by rw [← hbq31] at H; exact H
           have Nbq31 := am hbq31
           clear hbq31
           replace H := gb H; obtain ⟨rfl, H⟩ | ⟨rfl, H⟩ := H
           ·have H' := am H
            clear H
            obtain ⟨Ao33, co33, eo33⟩ := Kd.R_slice HO_4.out
            subst eo33
            obtain ⟨⟨ad412, e412, hx412_0⟩, p412, q412⟩ := pq (Kd.at_bool (Kd.R_reads' HO_4.out).2.2 x8_3)
            (try rw [← Nbq26.out] at hx412_0)
            (try rw [← Nbq31.out] at hx412_0)
            cases e412
            obtain ⟨⟨ad413, e413, hx413_0⟩, p413, q413⟩ := pq (Kd.at_bool (Kd.R_reads' HO_4.out).2.2 x9_4)
            (try rw [← Nbq26.out] at hx413_0)
            (try rw [← Nbq31.out] at hx413_0)
            obtain rfl : ad412 = ad413 := (by injection e413)
            go_wp2
            go_roundg k4
            case measure => have := HJ1.out; have := HK2.out; have := HK3.out; have := HK4.out; omega
            case rel => exact ⟨(wrap64 (x9_4 + 1)), (x405000_4), (x405001_4), rr, H', ⟨by have := HJ1.out; have := HK2.out; have := HK3.out; have := HK4.out; omega⟩, ⟨ro HO_4.out⟩, ⟨bo BK404.out⟩, ⟨bw⟩⟩
           obtain ⟨ji34, hji34⟩ : ∃ j_ : Int, (wrap64 (x8_3 + x9_4)) = j_ := ⟨_, rfl⟩
           replace H : (if 0 ≤ (ji34) then (if (ji34) < (x4_2.length : Int) then (if rdOf false x4_2 (ji34) = true then (some (x8_3, x9_4, true)) else (impl_GapClash.l2 k4 x4_2 (rd l0 (ji19)) x8_3 (wrap64 (x9_4 + 1)))) else (none)) else (none)) = some (r1, r2, r3) := by first | (rw [hji34] at H; exact H) | (simp only [hji34] at H ⊢; exact H)
           (try rw [hji34] at c23b0)
           have hji34w : (IntKind.i64.wrap (x8_3 + x9_4)) = ji34 := (i64_w _).trans hji34
           replace H := gd H; obtain ⟨c35b0, H⟩ := H
           replace H := gd H; obtain ⟨c36b0, H⟩ := H
           obtain ⟨bq37, hbq37⟩ : ∃ b_ : Bool, b_ = (rdOf false x4_2 (ji34)) := ⟨_, rfl⟩
           replace H : (if bq37 = true then (some (x8_3, x9_4, true)) else (impl_GapClash.l2 k4 x4_2 (rd l0 (ji19)) x8_3 (wrap64 (x9_4 + 1)))) = some (r1, r2, r3) := by rw [← hbq37] at H; exact H
           have Nbq37 := am hbq37
           clear hbq37
           replace H := gb H; obtain ⟨rfl, H⟩ | ⟨rfl, H⟩ := H
           ·simp only [Option.some.injEq, Prod.mk.injEq] at H
            obtain ⟨rfl, rfl, rfl⟩ := H
            obtain ⟨Ao39, co39, eo39⟩ := Kd.R_slice HO_4.out
            subst eo39
            obtain ⟨⟨ad412, e412, hx412_0⟩, p412, q412⟩ := pq (Kd.at_bool (Kd.R_reads' HO_4.out).2.2 x8_3)
            (try rw [← Nbq26.out] at hx412_0)
            (try rw [← Nbq31.out] at hx412_0)
            (try rw [← Nbq37.out] at hx412_0)
            cases e412
            obtain ⟨⟨ad413, e413, hx413_0⟩, p413, q413⟩ := pq (Kd.at_bool (Kd.R_reads' HO_4.out).2.2 x9_4)
            (try rw [← Nbq26.out] at hx413_0)
            (try rw [← Nbq31.out] at hx413_0)
            (try rw [← Nbq37.out] at hx413_0)
            obtain rfl : ad412 = ad413 := (by injection e413)
            obtain ⟨⟨ad414, e414, hx414_0⟩, p414, q414⟩ := pq (Kd.at_bool (Kd.R_reads' HO_4.out).2.2 (ji34))
            (try rw [← Nbq26.out] at hx414_0)
            (try rw [← Nbq31.out] at hx414_0)
            (try rw [← Nbq37.out] at hx414_0)
            obtain rfl : ad412 = ad414 := (by injection e414)
            have hcz40_0 := bc BK404 0 (.int .i64 x405000_4)
            have hcz40_1 := bc BK404 1 (.int .i64 x405001_4)
            have hfz40_0 := blk_frozen BK404.out 0
            have hfz40_1 := blk_frozen BK404.out 1
            go_wp2
            refine bodyPost_ret (results_ct rfl _ _ gb404 54 #[.int .i64 x8_3, .int .i64 x9_4] (0, 0) _ rfl (by (with_reducible repeat (first | refine blk_drewN ?_ _ | refine blk_drew ?_ | refine blk_alloc ?_ _)); refine blk_put (cs := #[.int .i64 x8_3, .int .i64 x405001_4]) ?_ 1 _ rfl; (with_reducible repeat (first | refine blk_drewN ?_ _ | refine blk_drew ?_ | refine blk_alloc ?_ _)); refine blk_put (cs := #[.int .i64 x405000_4, .int .i64 x405001_4]) ?_ 0 _ rfl; (with_reducible repeat (first | refine blk_drewN ?_ _ | refine blk_drew ?_ | refine blk_alloc ?_ _)); exact BK404.out) Try.underlying54 rfl (by kernel_rfl)) rfl ?_
            exact ⟨by first | rfl | (simp [errW_none, errW_some] <;> rfl) | (simp only [← hji19, ← hji34]; first | rfl | (simp [errW_none, errW_some] <;> rfl)) | (simp [*, errW_none, errW_some] <;> rfl), bw⟩
           have H' := am H
           clear H
           obtain ⟨Ao41, co41, eo41⟩ := Kd.R_slice HO_4.out
           subst eo41
           obtain ⟨⟨ad412, e412, hx412_0⟩, p412, q412⟩ := pq (Kd.at_bool (Kd.R_reads' HO_4.out).2.2 x8_3)
           (try rw [← Nbq26.out] at hx412_0)
           (try rw [← Nbq31.out] at hx412_0)
           (try rw [← Nbq37.out] at hx412_0)
           cases e412
           obtain ⟨⟨ad413, e413, hx413_0⟩, p413, q413⟩ := pq (Kd.at_bool (Kd.R_reads' HO_4.out).2.2 x9_4)
           (try rw [← Nbq26.out] at hx413_0)
           (try rw [← Nbq31.out] at hx413_0)
           (try rw [← Nbq37.out] at hx413_0)
           obtain rfl : ad412 = ad413 := (by injection e413)
           obtain ⟨⟨ad414, e414, hx414_0⟩, p414, q414⟩ := pq (Kd.at_bool (Kd.R_reads' HO_4.out).2.2 (ji34))
           (try rw [← Nbq26.out] at hx414_0)
           (try rw [← Nbq31.out] at hx414_0)
           (try rw [← Nbq37.out] at hx414_0)
           obtain rfl : ad412 = ad414 := (by injection e414)
           go_wp2
           go_roundg k4
           case measure => have := HJ1.out; have := HK2.out; have := HK3.out; have := HK4.out; omega
           case rel => exact ⟨(wrap64 (x9_4 + 1)), (x405000_4), (x405001_4), rr, H', ⟨by have := HJ1.out; have := HK2.out; have := HK3.out; have := HK4.out; omega⟩, ⟨ro HO_4.out⟩, ⟨bo BK404.out⟩, ⟨bw⟩⟩
          have H' := am H
          clear H
          go_wp2
          go_roundg k4
          case measure => have := HJ1.out; have := HK2.out; have := HK3.out; have := HK4.out; omega
          case rel => exact ⟨(wrap64 (x8_3 + 1)), (x405000_4), (x405001_4), rr, H', ⟨by have := HJ1.out; have := HK2.out; have := HK3.out; have := HK4.out; omega⟩, ⟨ro HO_4.out⟩, ⟨bo BK404.out⟩, ⟨bw⟩⟩
       simp only [Option.some.injEq, Prod.mk.injEq] at H
       obtain ⟨rfl, rfl, rfl⟩ := H
       have hcz42_0 := bc BK404 0 (.int .i64 x405000_3)
       have hcz42_1 := bc BK404 1 (.int .i64 x405001_3)
       have hfz42_0 := blk_frozen BK404.out 0
       have hfz42_1 := blk_frozen BK404.out 1
       go_wp2
       refine bodyPost_ret (results_ct rfl _ _ gb404 54 #[.int .i64 0, .int .i64 0] (0, 0) _ rfl (by (with_reducible repeat (first | refine blk_drewN ?_ _ | refine blk_drew ?_ | refine blk_alloc ?_ _)); refine blk_put (cs := #[.int .i64 0, .int .i64 x405001_3]) ?_ 1 _ rfl; (with_reducible repeat (first | refine blk_drewN ?_ _ | refine blk_drew ?_ | refine blk_alloc ?_ _)); refine blk_put (cs := #[.int .i64 x405000_3, .int .i64 x405001_3]) ?_ 0 _ rfl; (with_reducible repeat (first | refine blk_drewN ?_ _ | refine blk_drew ?_ | refine blk_alloc ?_ _)); exact BK404.out) Try.underlying54 rfl (by kernel_rfl)) rfl ?_
       exact ⟨by first | rfl | (simp [errW_none, errW_some] <;> rfl) | (simp only [← hji19]; first | rfl | (simp [errW_none, errW_some] <;> rfl)) | (simp [*, errW_none, errW_some] <;> rfl), bw⟩

end Go.Proofs.Ytlhcpbpcdicleaa.C
