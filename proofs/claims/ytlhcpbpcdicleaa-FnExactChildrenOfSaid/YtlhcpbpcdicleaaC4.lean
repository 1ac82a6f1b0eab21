/- Contracts of functions of the program: spec_GapClash. -/
import Derived.Test.YtlhcpbpcdicleaaC0
import Derived.Test.YtlhcpbpcdicleaaC3
namespace Go.Proofs.Ytlhcpbpcdicleaa.C
open Go.RowKit Go.Proofs.YtlhcpbpcdicleaaW.PrintWords Go.Proofs.YtlhcpbpcdicleaaW.PrintLast Go.Proofs.YtlhcpbpcdicleaaW.PrintMore
attribute [local go_sem] max2_int min2_int max_two min_two max_three min_three max_four min_four
set_option linter.unusedVariables false
set_option linter.unusedSimpArgs false

/-! ### spec_GapClash: function 51 -/
mutual
def spec_GapClash.j0 : Nat → List Int → Bool → Option (Int × Int × Bool)
 | 0, _, _ => none
 | k + 1, x0, x16 => if x16 = true then (some (0, 0, false)) else (if 0 ≤ (wrap64 ((x0.length : Int) - 1)) then (if (wrap64 ((x0.length : Int) - 1)) < (x0.length : Int) then (if 0 ≤ (wrap64 ((wrap64 (2 * (rd x0 (wrap64 ((x0.length : Int) - 1))))) + 1)) then (if (wrap64 ((wrap64 (2 * (rd x0 (wrap64 ((x0.length : Int) - 1))))) + 1) : Int).toNat ≤ 281474976710656 then (spec_GapClash.l0 k x0 (rd x0 (wrap64 ((x0.length : Int) - 1))) (List.replicate (wrap64 ((wrap64 (2 * (rd x0 (wrap64 ((x0.length : Int) - 1))))) + 1) : Int).toNat false) 0) else (none)) else (none)) else (none)) else (none))
def spec_GapClash.l0 : Nat → List Int → Int → List Bool → Int → Option (Int × Int × Bool)
 | 0, _, _, _, _ => none
 | k + 1, x0, x4, x5, x6 => if x6 < (x0.length : Int) then (if 0 ≤ x6 then (if 0 ≤ (rd x0 x6) then (if (rd x0 x6) < (x5.length : Int) then (spec_GapClash.l0 k x0 x4 (x5.set ((rd x0 x6) : Int).toNat true) (wrap64 (x6 + 1))) else (none)) else (none)) else (none)) else (spec_GapClash.l1 k x4 x5 1)
def spec_GapClash.l1 : Nat → Int → List Bool → Int → Option (Int × Int × Bool)
 | 0, _, _, _ => none
 | k + 1, x4, x5, x7 => if x7 ≤ x4 then (spec_GapClash.l2 k x4 x5 x7 x7) else (some (0, 0, false))
def spec_GapClash.l2 : Nat → Int → List Bool → Int → Int → Option (Int × Int × Bool)
 | 0, _, _, _, _ => none
 | k + 1, x4, x5, x7, x8 => if (wrap64 (x7 + x8)) ≤ x4 then (if 0 ≤ x7 then (if x7 < (x5.length : Int) then (spec_GapClash.j4 k x4 x5 x7 x8 (!(rdOf false x5 x7))) else (none)) else (none)) else (spec_GapClash.j4 k x4 x5 x7 x8 false)
def spec_GapClash.j4 : Nat → Int → List Bool → Int → Int → Bool → Option (Int × Int × Bool)
 | 0, _, _, _, _, _ => none
 | k + 1, x4, x5, x7, x8, x57 => if x57 = true then (if 0 ≤ x8 then (if x8 < (x5.length : Int) then (if rdOf false x5 x8 = true then (spec_GapClash.l2 k x4 x5 x7 (wrap64 (x8 + 1))) else (if 0 ≤ (wrap64 (x7 + x8)) then (if (wrap64 (x7 + x8)) < (x5.length : Int) then (if rdOf false x5 (wrap64 (x7 + x8)) = true then (some (x7, x8, true)) else (spec_GapClash.l2 k x4 x5 x7 (wrap64 (x8 + 1)))) else (none)) else (none))) else (none)) else (none)) else (spec_GapClash.l1 k x4 x5 (wrap64 (x7 + 1)))
end
def spec_GapClash.f (k : Nat) (l0 : List Int) : Option (Int × Int × Bool) := (spec_l8Gaps.f k l0).bind fun t235 => (if t235 = true then (spec_GapClash.j0 k l0 ((l0.length : Int) == 0)) else (spec_GapClash.j0 k l0 true))
set_option maxHeartbeats 8000000 in
set_option maxRecDepth 100000 in
theorem spec_GapClash.calls (k : Nat) (A0 : Option Addr) (c0 : Nat) (l0 : List Int) (r1 : Int) (r2 : Int) (r3 : Bool) (w : World) (hr0 : Kd.C (Kd.int .i64) w A0 l0.length l0) (hc0 : l0.length ≤ c0) (h : spec_GapClash.f k l0 = some (r1, r2, r3)) :
  Calls Try.prog 51 #[.slice A0 l0.length c0] w fun e w' => e = .returned (.tuple #[.agg #[.int .i64 r1, .int .i64 r2], .bool r3]) ∧ Below w.heap.size w w' := by
 have hu54 := Try.underlying54
 have HR0 := am hr0
 have HC0 := am hc0
 clear hr0 hc0
 have HB := am (Below.refl w.heap.size w)
 have H : ((spec_l8Gaps.f k l0).bind fun t235 => (if t235 = true then (spec_GapClash.j0 k l0 ((l0.length : Int) == 0)) else (spec_GapClash.j0 k l0 true))) = some (r1, r2, r3) := h
 clear h
 have HC2 := am H
 clear H
 go_enter Try.func51, Try.ntmps51
 go_upto_region 1 with (first | ((with_reducible refine gate_dst (N := 2) rfl ?_); (try (refine gate_guard (by rfl) ?_; dsimp only)); refine bx 2 #[.int .i64 0, .int .i64 0] 54 ?_; intro gb234 hg w3 hbox hb; have BK234 := am (hbox); have GW234 := am (gs hg : w.heap.size ≤ gb234); have GE234 := GW234; replace HB := am (below_step bw hb); clear hb hbox hg))
 (try simp only [Act.put, List.setIfInBounds_toArray, List.set_cons_zero, List.set_cons_succ])
 go_cut [16] (fun v16 wc => ∃ (kq : Nat) (x16_1 : Bool), v16 = .bool x16_1 ∧ Aside0 (spec_GapClash.j0 kq l0 x16_1 = some (r1, r2, r3)) ∧ Aside0 (kq ≤ k) ∧ Aside0 (wc.heap[gb234]? = some (.cells #[.int .i64 0, .int .i64 0] 54 (0, 0))) ∧ Aside0 (Below w.heap.size w wc))
 case first =>
  have H := HC2.out
  clear HC2
  replace H := ga H; obtain ⟨t235, A4, H⟩ := H
  replace H := gb H; obtain ⟨rfl, H⟩ | ⟨rfl, H⟩ := H
  ·have H' := am H
   clear H
   go_wp2_with (first | ((with_reducible refine gate_callee (f := 52) rfl ?_); refine gl (some 10) Try.func52 #[.slice A0 l0.length c0] ?_; (with_reducible refine (spec_l8Gaps.calls k _ _ l0 true _ ?side1 ?side2 A4.out).mono ?_); (case side1 => exact co (Kd.C_below HR0.out HB.out)); (case side2 => exact HC0.out); rintro e w' ⟨rfl, ⟨nd, rfl⟩⟩; refine ⟨_, rfl, ?_⟩))
   go_meet
   case rel => exact ⟨_, (((l0.length : Int) == 0)), rr, H', ⟨om⟩, ⟨bo BK234.out⟩, ⟨bw⟩⟩
  have H' := am H
  clear H
  go_wp2_with (first | ((with_reducible refine gate_callee (f := 52) rfl ?_); refine gl (some 10) Try.func52 #[.slice A0 l0.length c0] ?_; (with_reducible refine (spec_l8Gaps.calls k _ _ l0 false _ ?side1 ?side2 A4.out).mono ?_); (case side1 => exact co (Kd.C_below HR0.out HB.out)); (case side2 => exact HC0.out); rintro e w' ⟨rfl, ⟨nd, rfl⟩⟩; refine ⟨_, rfl, ?_⟩))
  go_meet
  case rel => exact ⟨_, (true), rr, H', ⟨om⟩, ⟨bo BK234.out⟩, ⟨bw⟩⟩
 case rest =>
  clear HC2
  obtain ⟨kq, x16_1, rfl, HA, HJ1, BK234, HB⟩ := hcut
  cases kq with
  | zero => exact absurd HA.out (by simp [spec_GapClash.j0])
  | succ kj1 =>
   have H := HA.out
   clear HA
   simp only [spec_GapClash.j0] at H
   replace H := gb H; obtain ⟨rfl, H⟩ | ⟨rfl, H⟩ := H
   ·simp only [Option.some.injEq, Prod.mk.injEq] at H
    obtain ⟨rfl, rfl, rfl⟩ := H
    have hcz7_0 := bc BK234 0 (.int .i64 0)
    have hcz7_1 := bc BK234 1 (.int .i64 0)
    have hfz7_0 := blk_frozen BK234.out 0
    have hfz7_1 := blk_frozen BK234.out 1
    go_wp2
    refine bodyPost_ret (results_ct rfl _ _ gb234 54 #[.int .i64 0, .int .i64 0] (0, 0) _ rfl (by (with_reducible repeat (first | refine blk_drewN ?_ _ | refine blk_drew ?_ | refine blk_alloc ?_ _)); refine blk_put (cs := #[.int .i64 0, .int .i64 0]) ?_ 1 _ rfl; (with_reducible repeat (first | refine blk_drewN ?_ _ | refine blk_drew ?_ | refine blk_alloc ?_ _)); refine blk_put (cs := #[.int .i64 0, .int .i64 0]) ?_ 0 _ rfl; (with_reducible repeat (first | refine blk_drewN ?_ _ | refine blk_drew ?_ | refine blk_alloc ?_ _)); exact BK234.out) Try.underlying54 rfl (by kernel_rfl)) rfl ?_
    exact ⟨re, bw⟩
   obtain ⟨ji8, hji8⟩ : ∃ j_ : Int, (wrap64 ((l0.length : Int) - 1)) = j_ := ⟨_, rfl⟩
   replace H : (if 0 ≤ (ji8) then (if (ji8) < (l0.length : Int) then (if 0 ≤ (wrap64 ((wrap64 (2 * (rd l0 (ji8)))) + 1)) then (if (wrap64 ((wrap64 (2 * (rd l0 (ji8)))) + 1) : Int).toNat ≤ 281474976710656 then (spec_GapClash.l0 kj1 l0 (rd l0 (ji8)) (List.replicate (wrap64 ((wrap64 (2 * (rd l0 (ji8)))) + 1) : Int).toNat false) 0) else (none)) else (none)) else (none)) else (none)) = some (r1, r2, r3) := by first | (rw [hji8] at H; exact H) | (simp only [hji8] at H ⊢; exact H)
   have hji8w : (IntKind.i64.wrap ((l0.length : Int) - 1)) = ji8 := (i64_w _).trans hji8
   replace H := gd H; obtain ⟨c9b0, H⟩ := H
   replace H := gd H; obtain ⟨c10b0, H⟩ := H
   obtain ⟨ji11, hji11⟩ : ∃ j_ : Int, (wrap64 ((wrap64 (2 * (rd l0 (ji8)))) + 1)) = j_ := ⟨_, rfl⟩
   replace H : (if 0 ≤ (ji11) then (if (ji11 : Int).toNat ≤ 281474976710656 then (spec_GapClash.l0 kj1 l0 (rd l0 (ji8)) (List.replicate (ji11 : Int).toNat false) 0) else (none)) else (none)) = some (r1, r2, r3) := by first | (rw [hji11] at H; exact H) | (simp only [hji11] at H ⊢; exact H)
   have hji11w : (IntKind.i64.wrap ((wrap64 (2 * (rd l0 (ji8)))) + 1)) = ji11 := (i64_w _).trans hji11
   replace H := gp H; obtain ⟨c12, H⟩ := H
   have c12b0 := eq_true c12
   have c12b1 : decide (0 ≤ (ji11)) = true := decide_eq_true c12
   clear c12
   replace H := gp H; obtain ⟨c13, H⟩ := H
   have c13b0 := eq_true c13
   have c13b1 : decide ((ji11 : Int).toNat ≤ 281474976710656) = true := decide_eq_true c13
   clear c13
   obtain ⟨y237, hy237⟩ : ∃ y_ : List Bool, y_ = (List.replicate (ji11 : Int).toNat false) := ⟨_, rfl⟩
   replace H : (spec_GapClash.l0 kj1 l0 (rd l0 (ji8)) y237 0) = some (r1, r2, r3) := by first | (rw [hy237]; with_reducible first | exact H | exact bs H) | (with_reducible first | exact bs H | exact H) | (rw [hy237]; exact H) | exact H
   have Ny237 := am hy237
   clear hy237
   have H' := am H
   clear H
   obtain ⟨⟨ad236, e236, hx236_0⟩, p236, q236⟩ := pq (Kd.at_int HR0.out (ji8))
   cases e236
   replace hx236_0 := hw HB hx236_0
   go_wp2_with (first | ((with_reducible refine gate_dst (N := 27) rfl ?_); (try (refine gate_guard (by rfl) ?_; dsimp only)); refine Kd.R_make Kd.bool _ 4 rfl (N := 27) rfl 57 _ _ rfl ji11 rfl rfl Try.underlying57 (.bool false) 1 info4 rfl (by decide) (by omega) false (ok := fun _ => True) (okp := fun _ => True) rfl (fun _ hk => hk) trivial (of_decide_eq_true (by first | (with_reducible assumption) | assumption)) (Nat.le_trans (Nat.mul_le_mul_right _ (of_decide_eq_true (by first | (with_reducible assumption) | assumption) : ji11.toNat ≤ 281474976710656)) (by omega)) (Below.refl _ _) (Nat.le_refl _) ?_; intro v238 w14 ho15 hb hg_ hnew_; clear hg_ hnew_; (first | rw [← Ny237.out] at ho15 | (simp only [Int.reduceToNat] at ho15; rw [← Ny237.out] at ho15)); have HO239 := am (Kd.R_lower ho15 (below_size bw)); replace BK234 := kb BK234 hb; replace HB := am (below_step bw hb); clear hb ho15))
   go_loopg [6] kj1 (fun kq v6 w' => ∃ (x5_2 : List Bool) (x6_2 : Int), v6 = .int .i64 x6_2 ∧ Aside0 (spec_GapClash.l0 kq l0 (rd l0 (ji8)) x5_2 x6_2 = some (r1, r2, r3)) ∧ Aside0 (kq ≤ kj1) ∧ Aside0 (Kd.R Kd.bool 4 w' w.heap.size (fun _ => True) v238 x5_2) ∧ Aside0 (w'.heap[gb234]? = some (.cells #[.int .i64 0, .int .i64 0] 54 (0, 0))) ∧ Aside0 (Below w.heap.size w w'))
   case atStart => exact ⟨(y237), (0), rr, H', ⟨Nat.le_refl _⟩, ⟨ro HO239.out⟩, ⟨bo BK234.out⟩, ⟨bw⟩⟩
   case round =>
    clear H'
    try clear c9b0; try clear c10b0; try clear c12; try clear c12b0; try clear c12b1; try clear c13; try clear c13b0; try clear c13b1; try clear hcz7_0; try clear hcz7_1; try clear hfz7_0; try clear hfz7_1; try clear hx236_0; try clear p236; try clear q236
    obtain ⟨x5_2, x6_2, rfl, HA, HK2, HO_5, BK234, HB⟩ := hrel
    cases gk with
    | zero => exact absurd HA.out (by simp [spec_GapClash.l0])
    | succ k2 =>
     have H := HA.out
     clear HA
     simp only [spec_GapClash.l0] at H
     replace H := gi H; obtain ⟨c16b0, H⟩ | ⟨c16b0, H⟩ := H
     ·replace H := gd H; obtain ⟨c17b0, H⟩ := H
      replace H := gd H; obtain ⟨c18b0, H⟩ := H
      replace H := gd H; obtain ⟨c19b0, H⟩ := H
      obtain ⟨y241, hy241⟩ : ∃ y_ : List Bool, y_ = (x5_2.set ((rd l0 x6_2) : Int).toNat true) := ⟨_, rfl⟩
      replace H : (spec_GapClash.l0 k2 l0 (rd l0 (ji8)) y241 (wrap64 (x6_2 + 1))) = some (r1, r2, r3) := by first | (rw [hy241]; with_reducible first | exact H | exact bs H) | (with_reducible first | exact bs H | exact H) | (rw [hy241]; exact H) | exact H
      have Ny241 := am hy241
      clear hy241
      have H' := am H
      clear H
      obtain ⟨⟨ad240, e240, hx240_0⟩, p240, q240⟩ := pq (Kd.at_int HR0.out x6_2)
      obtain rfl : ad236 = ad240 := (by injection e240)
      replace hx240_0 := hw HB hx240_0
      have p20 : 0 ≤ ((rd l0 x6_2) : Int) := of_decide_eq_true (by first | (with_reducible assumption) | assumption)
      have q20 : ((rd l0 x6_2) : Int) < ((x5_2.length : Int) : Int) := of_decide_eq_true (by first | (with_reducible assumption) | assumption)
      obtain ⟨go20, co20, eo20, gb20, gl20, cl20, HG20⟩ := Kd.R_form HO_5.out (by omega)
      (first | cases eo20 | (injection eo20 with ea_ en_ ec_; (first | subst ea_ | (injection ea_ with ea_; subst ea_)); subst ec_; clear en_))
      have GB20 := am gb20
      have GG20 := am HG20
      clear gb20 gl20 HG20
      obtain ⟨hx20_0, hf20_0⟩ := Kd.R_celln false HO_5.out ((rd l0 x6_2) : Int) p20 q20
      replace p20 := eq_true p20
      replace q20 := eq_true q20
      have HP21 := Kd.R_putg HO_5.out ((rd l0 x6_2) : Int) true
      go_wp2_with (first | ((with_reducible refine gate_store (t := 4) (p := 39) rfl ?_); refine store_event (t := 4) (p := 39) (v := ?vo_w22) (w1 := (wr.setCell ⟨go20, ((rd l0 x6_2) : Int).toNat, none⟩ (.bool true))) ?hg ?ho ?hn ?hr ?_; (case ho => rfl); (case hg => rfl); (case hn => rfl); (case hr => first | (go_simp; done) | (go_simp; rfl)); intro w22 hw; have hg : wr.grownBy w22 (some go20) := (by rw [hw]; exact HP21.2); have hp_ : Kd.R Kd.bool 4 w22 w.heap.size (fun _ => True) (.slice (some ⟨go20, 0, none⟩) x5_2.length co20) y241 := (by rw [hw, Ny241.out]; exact HP21.1); clear HP21; replace BK234 := am (blk_grown (g := gb234) (o := .cells #[.int .i64 0, .int .i64 0] 54 (0, 0)) (bo BK234.out) hg (Kd.R_ne HO_5.out BK234.out (by decide))); replace HO_5 := am (hp_); replace HB := am ((by rw [hw]; exact below_set (HB.out) GB20.out : Below w.heap.size w w22)); clear hg hw hp_))
      go_roundg k2
      case measure => have := HJ1.out; have := HK2.out; omega
      case rel => exact ⟨(y241), (wrap64 (x6_2 + 1)), rr, H', ⟨by have := HJ1.out; have := HK2.out; omega⟩, ⟨ro HO_5.out⟩, ⟨bo BK234.out⟩, ⟨bw⟩⟩
     have H' := am H
     clear H
     go_wp2
     go_loopg [7] k2 (fun kq v7 w' => ∃ (x7_3 : Int) (x235000_3 : Int) (x235001_3 : Int), v7 = .int .i64 x7_3 ∧ Aside0 (spec_GapClash.l1 kq (rd l0 (ji8)) x5_2 x7_3 = some (r1, r2, r3)) ∧ Aside0 (kq ≤ k2) ∧ Aside0 (Kd.R Kd.bool 4 w' w.heap.size (fun _ => True) v238 x5_2) ∧ Aside0 (w'.heap[gb234]? = some (.cells #[.int .i64 x235000_3, .int .i64 x235001_3] 54 (0, 0))) ∧ Aside0 (Below w.heap.size w w'))
     case atStart => exact ⟨(1), (0), (0), rr, H', ⟨Nat.le_refl _⟩, ⟨ro HO_5.out⟩, ⟨bo BK234.out⟩, ⟨bw⟩⟩
     case round =>
      clear H'
      try clear c9b0; try clear c10b0; try clear c12; try clear c12b0; try clear c12b1; try clear c13; try clear c13b0; try clear c13b1; try clear c16b0; try clear c17b0; try clear c18b0; try clear c19b0; try clear p20; try clear q20; try clear hcz7_0; try clear hcz7_1; try clear hfz7_0; try clear hfz7_1; try clear hx20_0; try clear hx236_0; try clear hx240_0; try clear p236; try clear p240; try clear q236; try clear q240
      obtain ⟨x7_3, x235000_3, x235001_3, rfl, HA, HK3, HO_5, BK234, HB⟩ := hrel
      cases gk with
      | zero => exact absurd HA.out (by simp [spec_GapClash.l1])
      | succ k3 =>
       have H := HA.out
       clear HA
       simp only [spec_GapClash.l1] at H
       replace H := gi H; obtain ⟨c23b0, H⟩ | ⟨c23b0, H⟩ := H
       ·have H' := am H
        clear H
        go_wp2
        go_loopg [8] k3 (fun kq v8 w' => ∃ (x8_4 : Int) (x235000_4 : Int) (x235001_4 : Int), v8 = .int .i64 x8_4 ∧ Aside0 (spec_GapClash.l2 kq (rd l0 (ji8)) x5_2 x7_3 x8_4 = some (r1, r2, r3)) ∧ Aside0 (kq ≤ k3) ∧ Aside0 (Kd.R Kd.bool 4 w' w.heap.size (fun _ => True) v238 x5_2) ∧ Aside0 (w'.heap[gb234]? = some (.cells #[.int .i64 x235000_4, .int .i64 x235001_4] 54 (0, 0))) ∧ Aside0 (Below w.heap.size w w'))
        case atStart => exact ⟨(x7_3), (x235000_3), (x235001_3), rr, H', ⟨Nat.le_refl _⟩, ⟨ro HO_5.out⟩, ⟨bo BK234.out⟩, ⟨bw⟩⟩
        case round =>
         clear H'
         try clear c9b0; try clear c10b0; try clear c12; try clear c12b0; try clear c12b1; try clear c13; try clear c13b0; try clear c13b1; try clear c16b0; try clear c17b0; try clear c18b0; try clear c19b0; try clear p20; try clear q20; try clear c23b0; try clear hcz7_0; try clear hcz7_1; try clear hfz7_0; try clear hfz7_1; try clear hx20_0; try clear hx236_0; try clear hx240_0; try clear p236; try clear p240; try clear q236; try clear q240
         obtain ⟨x8_4, x235000_4, x235001_4, rfl, HA, HK4, HO_5, BK234, HB⟩ := hrel
         cases gk with
         | zero => exact absurd HA.out (by simp [spec_GapClash.l2])
         | succ k4 =>
          have H := HA.out
          clear HA
          simp only [spec_GapClash.l2] at H
          have HC24 := am H
          clear H
          go_upto_region 13 with (fail)
          go_cut [57] (fun v57 wc => ∃ (kq : Nat) (x57_23 : Bool), v57 = .bool x57_23 ∧ Aside0 (spec_GapClash.j4 kq (rd l0 (ji8)) x5_2 x7_3 x8_4 x57_23 = some (r1, r2, r3)) ∧ Aside0 (kq ≤ k4) ∧ Aside0 (Kd.R Kd.bool 4 wc w.heap.size (fun _ => True) v238 x5_2) ∧ Aside0 (wc.heap[gb234]? = some (.cells #[.int .i64 x235000_4, .int .i64 x235001_4] 54 (0, 0))) ∧ Aside0 (Below w.heap.size w wc))
          case first =>
           have H := HC24.out
           clear HC24
           replace H := gi H; obtain ⟨c25b0, H⟩ | ⟨c25b0, H⟩ := H
           ·(first | rw [c25b0] | (simp only [i64_w, i32_w]; rw [c25b0]) | skip)
            replace H := gd H; obtain ⟨c26b0, H⟩ := H
            replace H := gd H; obtain ⟨c27b0, H⟩ := H
            have H' := am H
            clear H
            obtain ⟨Ao28, co28, eo28⟩ := Kd.R_slice HO_5.out
            subst eo28
            obtain ⟨⟨ad242, e242, hx242_0⟩, p242, q242⟩ := pq (Kd.at_bool (Kd.R_reads' HO_5.out).2.2 x7_3)
            cases e242
            go_wp2
            go_meet
            case rel => exact ⟨_, (!(rdOf false x5_2 x7_3)), rr, H', ⟨by have := HJ1.out; have := HK2.out; have := HK3.out; have := HK4.out; first | omega | exact Nat.le_refl _⟩, ⟨ro HO_5.out⟩, ⟨bo BK234.out⟩, ⟨bw⟩⟩
           ·(first | rw [c25b0] | (simp only [i64_w, i32_w]; rw [c25b0]) | skip)
            have H' := am H
            clear H
            go_wp2
            go_meet
            case rel => exact ⟨_, (false), rr, H', ⟨by have := HJ1.out; have := HK2.out; have := HK3.out; have := HK4.out; first | omega | exact Nat.le_refl _⟩, ⟨ro HO_5.out⟩, ⟨bo BK234.out⟩, ⟨bw⟩⟩
          case rest =>
           clear HC24
           try clear c9b0; try clear c10b0; try clear c12; try clear c12b0; try clear c12b1; try clear c13; try clear c13b0; try clear c13b1; try clear c16b0; try clear c17b0; try clear c18b0; try clear c19b0; try clear p20; try clear q20; try clear c23b0; try clear c25b0; try clear c26b0; try clear c27b0; try clear hcz7_0; try clear hcz7_1; try clear hfz7_0; try clear hfz7_1; try clear hx20_0; try clear hx236_0; try clear hx240_0; try clear hx242_0; try clear p236; try clear p240; try clear p242; try clear q236; try clear q240; try clear q242
           obtain ⟨kq, x57_23, rfl, HA, HJ23, HO_5, BK234, HB⟩ := hcut
           cases kq with
           | zero => exact absurd HA.out (by simp [spec_GapClash.j4])
           | succ kj23 =>
            have H := HA.out
            clear HA
            simp only [spec_GapClash.j4] at H
            replace H := gb H; obtain ⟨rfl, H⟩ | ⟨rfl, H⟩ := H
            ·replace H := gd H; obtain ⟨c30b0, H⟩ := H
             replace H := gd H; obtain ⟨c31b0, H⟩ := H
             obtain ⟨bq32, hbq32⟩ : ∃ b_ : Bool, b_ = (rdOf false x5_2 x8_4) := ⟨_, rfl⟩
             replace H : (if bq32 = true then (spec_GapClash.l2 kj23 (rd l0 (ji8)) x5_2 x7_3 (wrap64 (x8_4 + 1))) else (if 0 ≤ (wrap64 (x7_3 + x8_4)) then (if (wrap64 (x7_3 + x8_4)) < (x5_2.length : Int) then (if rdOf false x5_2 (wrap64 (x7_3 + x8_4)) = true then (some (x7_3, x8_4, true)) else (spec_GapClash.l2 kj23 (rd l0 (ji8)) x5_2 x7_3 (wrap64 (x8_4 + 1)))) else (none)) else (none))) = some (r1, r2, r3) := by rw [← hbq32] at H; exact H
             have Nbq32 := am hbq32
             clear hbq32
             replace H := gb H; obtain ⟨rfl, H⟩ | ⟨rfl, H⟩ := H
             ·have H' := am H
              clear H
              obtain ⟨Ao34, co34, eo34⟩ := Kd.R_slice HO_5.out
              subst eo34
              obtain ⟨⟨ad243, e243, hx243_0⟩, p243, q243⟩ := pq (Kd.at_bool (Kd.R_reads' HO_5.out).2.2 x8_4)
              (try rw [← Nbq32.out] at hx243_0)
              cases e243
              go_wp2
              go_roundg kj23
              case measure => have := HJ1.out; have := HK2.out; have := HK3.out; have := HK4.out; have := HJ23.out; omega
              case rel => exact ⟨(wrap64 (x8_4 + 1)), (x235000_4), (x235001_4), rr, H', ⟨by have := HJ1.out; have := HK2.out; have := HK3.out; have := HK4.out; have := HJ23.out; omega⟩, ⟨ro HO_5.out⟩, ⟨bo BK234.out⟩, ⟨bw⟩⟩
             obtain ⟨ji35, hji35⟩ : ∃ j_ : Int, (wrap64 (x7_3 + x8_4)) = j_ := ⟨_, rfl⟩
             replace H : (if 0 ≤ (ji35) then (if (ji35) < (x5_2.length : Int) then (if rdOf false x5_2 (ji35) = true then (some (x7_3, x8_4, true)) else (spec_GapClash.l2 kj23 (rd l0 (ji8)) x5_2 x7_3 (wrap64 (x8_4 + 1)))) else (none)) else (none)) = some (r1, r2, r3) := by first | (rw [hji35] at H; exact H) | (simp only [hji35] at H ⊢; exact H)
             have hji35w : (IntKind.i64.wrap (x7_3 + x8_4)) = ji35 := (i64_w _).trans hji35
             replace H := gd H; obtain ⟨c36b0, H⟩ := H
             replace H := gd H; obtain ⟨c37b0, H⟩ := H
             obtain ⟨bq38, hbq38⟩ : ∃ b_ : Bool, b_ = (rdOf false x5_2 (ji35)) := ⟨_, rfl⟩
             replace H : (if bq38 = true then (some (x7_3, x8_4, true)) else (spec_GapClash.l2 kj23 (rd l0 (ji8)) x5_2 x7_3 (wrap64 (x8_4 + 1)))) = some (r1, r2, r3) := by rw [← hbq38] at H; exact H
             have Nbq38 := am hbq38
             clear hbq38
             replace H := gb H; obtain ⟨rfl, H⟩ | ⟨rfl, H⟩ := H
             ·simp only [Option.some.injEq, Prod.mk.injEq] at H
              obtain ⟨rfl, rfl, rfl⟩ := H
              obtain ⟨Ao40, co40, eo40⟩ := Kd.R_slice HO_5.out
              subst eo40
              obtain ⟨⟨ad243, e243, hx243_0⟩, p243, q243⟩ := pq (Kd.at_bool (Kd.R_reads' HO_5.out).2.2 x8_4)
              (try rw [← Nbq32.out] at hx243_0)
              (try rw [← Nbq38.out] at hx243_0)
              cases e243
              obtain ⟨⟨ad244, e244, hx244_0⟩, p244, q244⟩ := pq (Kd.at_bool (Kd.R_reads' HO_5.out).2.2 (ji35))
              (try rw [← Nbq32.out] at hx244_0)
              (try rw [← Nbq38.out] at hx244_0)
              obtain rfl : ad243 = ad244 := (by injection e244)
              have hcz41_0 := bc BK234 0 (.int .i64 x235000_4)
              have hcz41_1 := bc BK234 1 (.int .i64 x235001_4)
              have hfz41_0 := blk_frozen BK234.out 0
              have hfz41_1 := blk_frozen BK234.out 1
              go_wp2
              refine bodyPost_ret (results_ct rfl _ _ gb234 54 #[.int .i64 x7_3, .int .i64 x8_4] (0, 0) _ rfl (by (with_reducible repeat (first | refine blk_drewN ?_ _ | refine blk_drew ?_ | refine blk_alloc ?_ _)); refine blk_put (cs := #[.int .i64 x7_3, .int .i64 x235001_4]) ?_ 1 _ rfl; (with_reducible repeat (first | refine blk_drewN ?_ _ | refine blk_drew ?_ | refine blk_alloc ?_ _)); refine blk_put (cs := #[.int .i64 x235000_4, .int .i64 x235001_4]) ?_ 0 _ rfl; (with_reducible repeat (first | refine blk_drewN ?_ _ | refine blk_drew ?_ | refine blk_alloc ?_ _)); exact BK234.out) Try.underlying54 rfl (by kernel_rfl)) rfl ?_
              exact ⟨by first | rfl | (simp [errW_none, errW_some] <;> rfl) | (simp only [← hji8, ← hji11, ← hji35]; first | rfl | (simp [errW_none, errW_some] <;> rfl)) | (simp [*, errW_none, errW_some] <;> rfl), bw⟩
             have H' := am H
             clear H
             obtain ⟨Ao42, co42, eo42⟩ := Kd.R_slice HO_5.out
             subst eo42
             obtain ⟨⟨ad243, e243, hx243_0⟩, p243, q243⟩ := pq (Kd.at_bool (Kd.R_reads' HO_5.out).2.2 x8_4)
             (try rw [← Nbq32.out] at hx243_0)
             (try rw [← Nbq38.out] at hx243_0)
             cases e243
             obtain ⟨⟨ad244, e244, hx244_0⟩, p244, q244⟩ := pq (Kd.at_bool (Kd.R_reads' HO_5.out).2.2 (ji35))
             (try rw [← Nbq32.out] at hx244_0)
             (try rw [← Nbq38.out] at hx244_0)
             obtain rfl : ad243 = ad244 := (by injection e244)
             go_wp2
             go_roundg kj23
             case measure => have := HJ1.out; have := HK2.out; have := HK3.out; have := HK4.out; have := HJ23.out; omega
             case rel => exact ⟨(wrap64 (x8_4 + 1)), (x235000_4), (x235001_4), rr, H', ⟨by have := HJ1.out; have := HK2.out; have := HK3.out; have := HK4.out; have := HJ23.out; omega⟩, ⟨ro HO_5.out⟩, ⟨bo BK234.out⟩, ⟨bw⟩⟩
            have H' := am H
            clear H
            go_wp2
            go_roundg kj23
            case measure => have := HJ1.out; have := HK2.out; have := HK3.out; have := HK4.out; have := HJ23.out; omega
            case rel => exact ⟨(wrap64 (x7_3 + 1)), (x235000_4), (x235001_4), rr, H', ⟨by have := HJ1.out; have := HK2.out; have := HK3.out; have := HK4.out; have := HJ23.out; omega⟩, ⟨ro HO_5.out⟩, ⟨bo BK234.out⟩, ⟨bw⟩⟩
       simp only [Option.some.injEq, Prod.mk.injEq] at H
       obtain ⟨rfl, rfl, rfl⟩ := H
       have hcz43_0 := bc BK234 0 (.int .i64 x235000_3)
       have hcz43_1 := bc BK234 1 (.int .i64 x235001_3)
       have hfz43_0 := blk_frozen BK234.out 0
       have hfz43_1 := blk_frozen BK234.out 1
       go_wp2
       refine bodyPost_ret (results_ct rfl _ _ gb234 54 #[.int .i64 0, .int .i64 0] (0, 0) _ rfl (by (with_reducible repeat (first | refine blk_drewN ?_ _ | refine blk_drew ?_ | refine blk_alloc ?_ _)); refine blk_put (cs := #[.int .i64 0, .int .i64 x235001_3]) ?_ 1 _ rfl; (with_reducible repeat (first | refine blk_drewN ?_ _ | refine blk_drew ?_ | refine blk_alloc ?_ _)); refine blk_put (cs := #[.int .i64 x235000_3, .int .i64 x235001_3]) ?_ 0 _ rfl; (with_reducible repeat (first | refine blk_drewN ?_ _ | refine blk_drew ?_ | refine blk_alloc ?_ _)); exact BK234.out) Try.underlying54 rfl (by kernel_rfl)) rfl ?_
       exact ⟨by first | rfl | (simp [errW_none, errW_some] <;> rfl) | (simp only [← hji8, ← hji11]; first | rfl | (simp [errW_none, errW_some] <;> rfl)) | (simp [*, errW_none, errW_some] <;> rfl), bw⟩

end Go.Proofs.Ytlhcpbpcdicleaa.C
