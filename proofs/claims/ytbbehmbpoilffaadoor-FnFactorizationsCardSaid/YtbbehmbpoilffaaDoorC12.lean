/- Contracts of functions of the program: spec_CountFactorizations. -/
import Derived.Test.YtbbehmbpoilffaaDoorC0
import Derived.Test.YtbbehmbpoilffaaDoorC1
import Derived.Test.YtbbehmbpoilffaaDoorC3
namespace Go.Proofs.YtbbehmbpoilffaaDoor.C
open Go.RowKit Go.Proofs.YtbbehmbpoilffaaDoorW.PrintWords Go.Proofs.YtbbehmbpoilffaaDoorW.PrintLast Go.Proofs.YtbbehmbpoilffaaDoorW.PrintMore
attribute [local go_sem] max2_int min2_int max_two min_two max_three min_three max_four min_four
set_option linter.unusedVariables false
set_option linter.unusedSimpArgs false

/-! ### spec_CountFactorizations: function 13 -/
mutual
def spec_CountFactorizations.j0 : Nat → Int → Bool → List Int → Option (Int)
 | 0, _, _, _ => none
 | k + 1, x1, x15, x625000 => if x15 = true then (some (-1)) else (if 0 ≤ (wrap64 (x1 + 1)) then (if (wrap64 (x1 + 1) : Int).toNat ≤ 35184372088832 then ((some (List.replicate (wrap64 (x1 + 1) : Int).toNat 0 : List Int)).bind fun y627 => (if 0 < (y627.length : Int) then (spec_CountFactorizations.l0 k x1 (y627.set (0 : Int).toNat 1) 0 x625000) else (none))) else (none)) else (none))
def spec_CountFactorizations.l0 : Nat → Int → List Int → Int → List Int → Option (Int)
 | 0, _, _, _, _ => none
 | k + 1, x1, x5, x6, x625000 => if x6 < (x625000.length : Int) then (if 0 ≤ x6 then (spec_CountFactorizations.l1 k x1 x5 x6 (rd x625000 x6) x625000) else (none)) else (if 0 ≤ x1 then (if x1 < (x5.length : Int) then (some (rd x5 x1)) else (none)) else (none))
def spec_CountFactorizations.l1 : Nat → Int → List Int → Int → Int → List Int → Option (Int)
 | 0, _, _, _, _, _ => none
 | k + 1, x1, x5, x6, x7, x625000 => if x7 ≤ x1 then (if 0 ≤ x7 then (if x7 < (x5.length : Int) then (if 0 ≤ x6 then (if x6 < (x625000.length : Int) then (if 0 ≤ (wrap64 (x7 - (rd x625000 x6))) then (if (wrap64 (x7 - (rd x625000 x6))) < (x5.length : Int) then (spec_CountFactorizations.l1 k x1 (x5.set (x7 : Int).toNat (wrap64 ((rd x5 x7) + (rd x5 (wrap64 (x7 - (rd x625000 x6))))))) x6 (wrap64 (x7 + 1)) x625000) else (none)) else (none)) else (none)) else (none)) else (none)) else (none)) else (spec_CountFactorizations.l0 k x1 x5 (wrap64 (x6 + 1)) x625000)
end
def spec_CountFactorizations.f (k : Nat) (l0_0 : List Int) (a1 : Int) : Option (Int) := (spec_IsSemigroup.f k l0_0).bind fun t625 => (if t625 = true then ((spec_l1In.f a1 0 1000).bind fun t626 => (spec_CountFactorizations.j0 k a1 (!t626) l0_0)) else (spec_CountFactorizations.j0 k a1 true l0_0))
def spec_CountFactorizations.T11 : Bool × List (List Nat × List Nat) := (true, [([], []), ([], []), ([], []), ([], []), ([2, 3], [2, 3]), ([4], [4]), ([], []), ([], []), ([], []), ([8], [8]), ([], []), ([9, 10], [9, 10]), ([11], [11]), ([7, 12], [7, 12]), ([6, 13], [6, 13]), ([14], [14]), ([5, 15], [5, 15]), ([0, 1, 0, 1, 2, 3, 4, 5, 6, 7, 8, 9, 10, 11, 12, 13, 14, 15, 16], [0, 1]), ([17, 16, 0, 1, 2, 3, 4, 5, 6, 7, 8, 9, 10, 11, 12, 13, 14, 15, 16], [16, 17])])
def spec_CountFactorizations.B11 : List Nat := [0, 0, 0, 0, 12, 28, 0, 0, 0, 256, 0, 1792, 3840, 8064, 16320, 32704, 65532, 131071, 262143]
theorem spec_CountFactorizations.tab11 : rtab .any (opsOf Tryd.f13 11) = spec_CountFactorizations.T11 := by kernel_rfl
theorem spec_CountFactorizations.bits11 : waitsOk spec_CountFactorizations.T11.2 spec_CountFactorizations.B11 = true := by kernel_rfl
set_option maxHeartbeats 8000000 in
set_option maxRecDepth 100000 in
theorem spec_CountFactorizations.calls (k : Nat) (A0_0 : Option Addr) (c0_0 : Nat) (l0_0 : List Int) (a1 : Int) (r : Int) (w : World) (hr0_0 : Kd.C (Kd.int .i64) w A0_0 l0_0.length l0_0) (hc0_0 : l0_0.length ≤ c0_0) (h : spec_CountFactorizations.f k l0_0 a1 = some r) :
  Calls Tryd.prog 13 #[.agg #[.slice A0_0 l0_0.length c0_0], .int .i64 a1] w fun e w' => e = .returned (.int .i64 r) ∧ Below w.heap.size w w' := by
 have hu26 := Tryd.underlying26
 have HR0_0 := am hr0_0
 have HC0_0 := am hc0_0
 clear hr0_0 hc0_0
 have HB := am (Below.refl w.heap.size w)
 have H : ((spec_IsSemigroup.f k l0_0).bind fun t625 => (if t625 = true then ((spec_l1In.f a1 0 1000).bind fun t626 => (spec_CountFactorizations.j0 k a1 (!t626) l0_0)) else (spec_CountFactorizations.j0 k a1 true l0_0))) = some r := h
 clear h
 have HC3 := am H
 clear H
 go_enter Tryd.func13, Tryd.ntmps13
 go_upto_region 1 with (first | ((with_reducible refine gate_dst (N := 2) rfl ?_); refine bx 2 #[.slice A0_0 l0_0.length c0_0] 26 ?_; intro gb624 hg w4 hbox hb; have BK624 := am (hbox); have GW624 := am (gs hg : w.heap.size ≤ gb624); have GE624 := GW624; replace HB := am (below_step bw hb); clear hb hbox hg))
 (try simp only [Act.put, List.setIfInBounds_toArray, List.set_cons_zero, List.set_cons_succ])
 go_cut [15] (fun v15 wc => ∃ (kq : Nat) (x15_2 : Bool), v15 = .bool x15_2 ∧ Aside0 (spec_CountFactorizations.j0 kq a1 x15_2 l0_0 = some r) ∧ Aside0 (kq ≤ k) ∧ Aside0 (wc.heap[gb624]? = some (.cells #[(.slice A0_0 l0_0.length c0_0)] 26 (0, 0))) ∧ Aside0 (Below w.heap.size w wc))
 case first =>
  have H := HC3.out
  clear HC3
  replace H := ga H; obtain ⟨t625, A5, H⟩ := H
  replace H := gb H; obtain ⟨rfl, H⟩ | ⟨rfl, H⟩ := H
  ·replace H := ga H; obtain ⟨t626, A7, H⟩ := H
   have H' := am H
   clear H
   have hcz8_0 := bc BK624 0 (.slice A0_0 l0_0.length c0_0)
   have hfz8_0 := blk_frozen BK624.out 0
   go_wp2_with (first | ((with_reducible refine gate_callee (f := 22) rfl ?_); refine goesL_ (some 9) rfl rfl Tryd.func22 (by kernel_rfl) rfl #[.agg #[.slice A0_0 l0_0.length c0_0]] rfl (by (try simp only [List.map_toArray, List.map_cons, List.map_nil]); first | done | rfl | (simp only [List.length_drop, List.length_take]; rfl)) ?_; (with_reducible refine (spec_IsSemigroup.calls k _ _ l0_0 true _ ?side1 ?side2 A5.out).mono ?_); (case side1 => exact co (Kd.C_below HR0_0.out HB.out)); (case side2 => exact HC0_0.out); rintro e w9 ⟨rfl, hb⟩; refine ⟨_, rfl, ?_⟩; replace BK624 := kb BK624 hb; replace HB := am (below_step bw hb); clear hb) | (go_at_call 33; (with_reducible refine (spec_l1In.calls a1 0 1000 t626 _ A7.out).mono ?_); rintro e w' ⟨rfl, ⟨nd, rfl⟩⟩))
   go_meet
   case rel => exact ⟨_, (!t626), rr, H', ⟨om⟩, ⟨bo BK624.out⟩, ⟨bw⟩⟩
  have H' := am H
  clear H
  have hcz10_0 := bc BK624 0 (.slice A0_0 l0_0.length c0_0)
  have hfz10_0 := blk_frozen BK624.out 0
  go_wp2_with (first | ((with_reducible refine gate_callee (f := 22) rfl ?_); refine goesL_ (some 9) rfl rfl Tryd.func22 (by kernel_rfl) rfl #[.agg #[.slice A0_0 l0_0.length c0_0]] rfl (by (try simp only [List.map_toArray, List.map_cons, List.map_nil]); first | done | rfl | (simp only [List.length_drop, List.length_take]; rfl)) ?_; (with_reducible refine (spec_IsSemigroup.calls k _ _ l0_0 false _ ?side1 ?side2 A5.out).mono ?_); (case side1 => exact co (Kd.C_below HR0_0.out HB.out)); (case side2 => exact HC0_0.out); rintro e w11 ⟨rfl, hb⟩; refine ⟨_, rfl, ?_⟩; replace BK624 := kb BK624 hb; replace HB := am (below_step bw hb); clear hb))
  go_meet
  case rel => exact ⟨_, (true), rr, H', ⟨om⟩, ⟨bo BK624.out⟩, ⟨bw⟩⟩
 case rest =>
  clear HC3
  try clear hcz10_0; try clear hcz8_0; try clear hfz10_0; try clear hfz8_0
  obtain ⟨kq, x15_2, rfl, HA, HJ2, BK624, HB⟩ := hcut
  cases kq with
  | zero => exact absurd HA.out (by simp [spec_CountFactorizations.j0])
  | succ kj2 =>
   have H := HA.out
   clear HA
   simp only [spec_CountFactorizations.j0] at H
   replace H := gb H; obtain ⟨rfl, H⟩ | ⟨rfl, H⟩ := H
   ·obtain rfl := Option.some.inj H
    go_wp2
    go_ret
    exact ⟨re, bw⟩
   obtain ⟨ji13, hji13⟩ : ∃ j_ : Int, (wrap64 (a1 + 1)) = j_ := ⟨_, rfl⟩
   replace H : (if 0 ≤ (ji13) then (if (ji13 : Int).toNat ≤ 35184372088832 then ((some (List.replicate (ji13 : Int).toNat 0 : List Int)).bind fun y627 => (if 0 < (y627.length : Int) then (spec_CountFactorizations.l0 kj2 a1 (y627.set (0 : Int).toNat 1) 0 l0_0) else (none))) else (none)) else (none)) = some r := by first | (rw [hji13] at H; exact H) | (simp only [hji13] at H ⊢; exact H)
   have hji13w : (IntKind.i64.wrap (a1 + 1)) = ji13 := (i64_w _).trans hji13
   replace H := gp H; obtain ⟨c14, H⟩ := H
   have c14b0 := eq_true c14
   have c14b1 : decide (0 ≤ (ji13)) = true := decide_eq_true c14
   clear c14
   replace H := gp H; obtain ⟨c15, H⟩ := H
   have c15b0 := eq_true c15
   have c15b1 : decide ((ji13 : Int).toNat ≤ 35184372088832) = true := decide_eq_true c15
   clear c15
   obtain ⟨y627, hy627⟩ : ∃ y_ : List Int, y_ = (List.replicate (ji13 : Int).toNat 0) := ⟨_, rfl⟩
   replace H : (if 0 < (y627.length : Int) then (spec_CountFactorizations.l0 kj2 a1 (y627.set (0 : Int).toNat 1) 0 l0_0) else (none)) = some r := by first | (rw [hy627]; with_reducible first | exact H | exact bs H) | (with_reducible first | exact bs H | exact H) | (rw [hy627]; exact H) | exact H
   have Ny627 := am hy627
   clear hy627
   replace H := gp H; obtain ⟨c16, H⟩ := H
   have c16b0 : decide (0 < (y627.length : Int)) = true := decide_eq_true c16
   have c16b1 : decide (0 < y627.length) = true := decide_eq_true (by omega)
   clear c16
   obtain ⟨y630, hy630⟩ : ∃ y_ : List Int, y_ = (y627.set (0 : Int).toNat 1) := ⟨_, rfl⟩
   replace H : (spec_CountFactorizations.l0 kj2 a1 y630 0 l0_0) = some r := by first | (rw [hy630]; with_reducible first | exact H | exact bs H) | (with_reducible first | exact bs H | exact H) | (rw [hy630]; exact H) | exact H
   have Ny630 := am hy630
   clear hy630
   have H' := am H
   clear H
   go_wp2_with (first | ((with_reducible refine gate_dst (N := 18) rfl ?_); refine Kd.R_make (Kd.int .i64) _ 3 rfl (N := 18) rfl 24 _ _ rfl ji13 rfl rfl Tryd.underlying24 (.int .i64 0) 8 info3 rfl (by decide) (by omega) 0 (ok := fun _ => True) (okp := fun _ => True) rfl (fun _ hk => hk) trivial (of_decide_eq_true (by first | (with_reducible assumption) | assumption)) (Nat.le_trans (Nat.mul_le_mul_right _ (of_decide_eq_true (by first | (with_reducible assumption) | assumption) : ji13.toNat ≤ 35184372088832)) (by omega)) (Below.refl _ _) (Nat.le_refl _) ?_; intro v628 w18 ho19 hb hg_ hnew_; clear hg_ hnew_; (first | rw [← Ny627.out] at ho19 | (simp only [Int.reduceToNat] at ho19; rw [← Ny627.out] at ho19)); have HO629 := am (Kd.R_lower ho19 (below_size bw)); replace BK624 := kb BK624 hb; replace HB := am (below_step bw hb); clear hb ho19; have p17 : 0 ≤ (0 : Int) := (by omega); have q17 : (0 : Int) < ((y627.length : Int) : Int) := of_decide_eq_true (by first | (with_reducible assumption) | assumption); have qi17 : (0 < y627.length) = True := eq_true (by omega); obtain ⟨go17, co17, eo17, gb17, gl17, cl17, HG17⟩ := Kd.R_form HO629.out (by omega); (first | cases eo17 | (injection eo17 with ea_ en_ ec_; (first | subst ea_ | (injection ea_ with ea_; subst ea_)); subst ec_; clear en_)); have GB17 := am gb17; have GG17 := am HG17; clear gb17 gl17 HG17; obtain ⟨hx17_0, hf17_0⟩ := Kd.R_celln 0 HO629.out (0 : Int) p17 q17; (try rw [show ((0 : Int)).toNat = 0 from rfl] at hx17_0); (try simp only [Nat.reduceMul, Nat.zero_mul, Nat.zero_add, Nat.reduceAdd] at hx17_0); (try rw [show ((0 : Int)).toNat = 0 from rfl] at hf17_0); (try simp only [Nat.reduceMul, Nat.zero_mul, Nat.zero_add, Nat.reduceAdd] at hf17_0); replace p17 := eq_true p17; replace q17 := eq_true q17; obtain ⟨hy20_, hz20_⟩ := Kd.R_celln 0 HO629.out (0 : Int) (by omega) (of_decide_eq_true (by first | (with_reducible assumption) | assumption)); (try simp only [Int.reduceToNat, Int.toNat_zero, Int.toNat_ofNat, Nat.reduceMul, Nat.zero_mul, Nat.zero_add] at hy20_ hz20_); (try rw [show ((0 : Int)).toNat = 0 from rfl] at hy20_); (try rw [show ((0 : Int)).toNat = 0 from rfl] at hz20_); have HP20 := Kd.R_putg HO629.out (0 : Int) 1) | ((with_reducible refine gate_store (t := 3) (p := 20) rfl ?_); refine store_event (t := 3) (p := 20) (v := ?vo_w21) (w1 := (w18.setCell ⟨go17, (0 : Int).toNat, none⟩ (.int .i64 1))) ?hg ?ho ?hn ?hr ?_; (case ho => rfl); (case hg => rfl); (case hn => rfl); (case hr => first | (go_simp; done) | (go_simp; rfl)); intro w21 hw; have hg : w18.grownBy w21 (some go17) := (by rw [hw]; exact HP20.2); have hp_ : Kd.R (Kd.int .i64) 3 w21 w.heap.size (fun _ => True) (.slice (some ⟨go17, 0, none⟩) y627.length co17) y630 := (by rw [hw, Ny630.out]; exact HP20.1); clear HP20; replace BK624 := am (blk_grown (g := gb624) (o := .cells #[.slice A0_0 l0_0.length c0_0] 26 (0, 0)) (bo BK624.out) hg (Kd.R_ne HO629.out BK624.out (by decide))); replace HO629 := am (hp_); replace HB := am ((by rw [hw]; exact below_set (HB.out) GB17.out : Below w.heap.size w w21)); clear hg hw hp_))
   go_loopg [6] kj2 (fun kq v6 w' => ∃ (x5_2 : List Int) (x6_2 : Int), v6 = .int .i64 x6_2 ∧ Aside0 (spec_CountFactorizations.l0 kq a1 x5_2 x6_2 l0_0 = some r) ∧ Aside0 (kq ≤ kj2) ∧ Aside0 (Kd.R (Kd.int .i64) 3 w' w.heap.size (fun _ => True) (.slice (some ⟨go17, 0, none⟩) y627.length co17) x5_2) ∧ Aside0 (w'.heap[gb624]? = some (.cells #[(.slice A0_0 l0_0.length c0_0)] 26 (0, 0))) ∧ Aside0 (Below w.heap.size w w'))
   case atStart => exact ⟨(y630), (0), rr, H', ⟨Nat.le_refl _⟩, ⟨ro HO629.out⟩, ⟨bo BK624.out⟩, ⟨bw⟩⟩
   case round =>
    clear H'
    try clear c14; try clear c14b0; try clear c14b1; try clear c15; try clear c15b0; try clear c15b1; try clear c16; try clear c16b0; try clear c16b1; try clear p17; try clear q17; try clear qi17; try clear hcz10_0; try clear hcz8_0; try clear hfz10_0; try clear hfz8_0; try clear hx17_0
    obtain ⟨x5_2, x6_2, rfl, HA, HK2, HO_5, BK624, HB⟩ := hrel
    have hl5_2 := (Kd.R_reads' HO_5.out).1
    rw [hl5_2] at HO_5
    (try simp only [hl5_2])
    (try simp only [hl5_2] at BK624)
    cases gk with
    | zero => exact absurd HA.out (by simp [spec_CountFactorizations.l0])
    | succ k2 =>
     have H := HA.out
     clear HA
     simp only [spec_CountFactorizations.l0] at H
     replace H := gi H; obtain ⟨c22b0, H⟩ | ⟨c22b0, H⟩ := H
     ·replace H := gd H; obtain ⟨c23b0, H⟩ := H
      have H' := am H
      clear H
      have hcz24_0 := bc BK624 0 (.slice A0_0 l0_0.length c0_0)
      have hfz24_0 := blk_frozen BK624.out 0
      obtain ⟨⟨ad632, e632, hx632_0⟩, p632, q632⟩ := pq (Kd.at_int HR0_0.out x6_2)
      cases e632
      replace hx632_0 := hw HB hx632_0
      go_wp2
      go_loopg [7] k2 (fun kq v7 w' => ∃ (x5_3 : List Int) (x7_3 : Int), v7 = .int .i64 x7_3 ∧ Aside0 (spec_CountFactorizations.l1 kq a1 x5_3 x6_2 x7_3 l0_0 = some r) ∧ Aside0 (kq ≤ k2) ∧ Aside0 (Kd.R (Kd.int .i64) 3 w' w.heap.size (fun _ => True) (.slice (some ⟨go17, 0, none⟩) x5_2.length co17) x5_3) ∧ Aside0 (w'.heap[gb624]? = some (.cells #[(.slice (some ad632) l0_0.length c0_0)] 26 (0, 0))) ∧ Aside0 (Below w.heap.size w w'))
      case atStart => exact ⟨(x5_2), (rd l0_0 x6_2), rr, H', ⟨Nat.le_refl _⟩, ⟨by (try simp only [hl5_2]); (with_reducible repeat (first | apply Kd.R_alloc | apply Kd.R_drewN | apply Kd.R_drew)); exact HO_5.out⟩, ⟨by (try simp only [hl5_2]); (with_reducible repeat (first | refine blk_drewN ?_ _ | refine blk_drew ?_ | refine blk_alloc ?_ _)); exact BK624.out⟩, ⟨bw⟩⟩
      case round =>
       clear H'
       try clear c14; try clear c14b0; try clear c14b1; try clear c15; try clear c15b0; try clear c15b1; try clear c16; try clear c16b0; try clear c16b1; try clear p17; try clear q17; try clear qi17; try clear c22b0; try clear c23b0; try clear hcz10_0; try clear hcz24_0; try clear hcz8_0; try clear hfz10_0; try clear hfz24_0; try clear hfz8_0; try clear hx17_0; try clear hx632_0; try clear p632; try clear q632
       obtain ⟨x5_3, x7_3, rfl, HA, HK3, HO_5, BK624, HB⟩ := hrel
       have hl5_3 := (Kd.R_reads' HO_5.out).1
       rw [hl5_3] at HO_5
       (try simp only [hl5_3])
       (try simp only [hl5_3] at BK624)
       cases gk with
       | zero => exact absurd HA.out (by simp [spec_CountFactorizations.l1])
       | succ k3 =>
        have H := HA.out
        clear HA
        simp only [spec_CountFactorizations.l1] at H
        replace H := gi H; obtain ⟨c25b0, H⟩ | ⟨c25b0, H⟩ := H
        ·replace H := gd H; obtain ⟨c26b0, H⟩ := H
         by_cases c27 : x7_3 < (x5_3.length : Int)
         rotate_left
         ·rw [if_neg c27] at H
          exact absurd H (by simp)
         rw [if_pos c27] at H
         have c27b0 : decide (x7_3 < (x5_3.length : Int)) = true := decide_eq_true c27
         (try simp only [hl5_2, hl5_3] at c27b0)
         clear c27
         replace H := gd H; obtain ⟨c28b0, H⟩ := H
         replace H := gd H; obtain ⟨c29b0, H⟩ := H
         obtain ⟨ji30, hji30⟩ : ∃ j_ : Int, (wrap64 (x7_3 - (rd l0_0 x6_2))) = j_ := ⟨_, rfl⟩
         replace H : (if 0 ≤ (ji30) then (if (ji30) < (x5_3.length : Int) then (spec_CountFactorizations.l1 k3 a1 (x5_3.set (x7_3 : Int).toNat (wrap64 ((rd x5_3 x7_3) + (rd x5_3 (ji30))))) x6_2 (wrap64 (x7_3 + 1)) l0_0) else (none)) else (none)) = some r := by first | (rw [hji30] at H; exact H) | (simp only [hji30] at H ⊢; exact H)
         have hji30w : (IntKind.i64.wrap (x7_3 - (rd l0_0 x6_2))) = ji30 := (i64_w _).trans hji30
         replace H := gd H; obtain ⟨c31b0, H⟩ := H
         by_cases c32 : (ji30) < (x5_3.length : Int)
         rotate_left
         ·rw [if_neg c32] at H
          exact absurd H (by simp)
         rw [if_pos c32] at H
         have c32b0 : decide ((ji30) < (x5_3.length : Int)) = true := decide_eq_true c32
         (try simp only [hl5_2, hl5_3] at c32b0)
         clear c32
         obtain ⟨y636, hy636⟩ : ∃ y_ : List Int, y_ = (x5_3.set (x7_3 : Int).toNat (wrap64 ((rd x5_3 x7_3) + (rd x5_3 (ji30))))) := ⟨_, rfl⟩
         replace H : (spec_CountFactorizations.l1 k3 a1 y636 x6_2 (wrap64 (x7_3 + 1)) l0_0) = some r := by first | (rw [hy636]; with_reducible first | exact H | exact bs H) | (with_reducible first | exact bs H | exact H) | (rw [hy636]; exact H) | exact H
         have Ny636 := am hy636
         clear hy636
         have H' := am H
         clear H
         try go_wp2
         replace HO_5 := am (Kd.R_drew HO_5.out)
         replace BK624 := bd BK624
         replace HB := am (below_drew1 HB.out)
         obtain ⟨⟨ad633, e633, hx633_0⟩, p633, q633⟩ := pq (Kd.at_int (Kd.R_reads' HO_5.out).2.2 x7_3)
         obtain rfl : (⟨go17, 0, none⟩ : Addr) = ad633 := (by injection e633)
         (first | simp only [add_plain] at hx633_0 | simp only [add_at] at hx633_0 | simp only [Addr.add, Nat.zero_add] at hx633_0 | skip)
         obtain ⟨⟨ad634, e634, hx634_0⟩, p634, q634⟩ := pq (Kd.at_int HR0_0.out x6_2)
         have hw634_0 := hx634_0
         obtain rfl : ad632 = ad634 := (by injection e634)
         replace hx634_0 := hw HB hx634_0
         obtain ⟨⟨ad635, e635, hx635_0⟩, p635, q635⟩ := pq (Kd.at_int (Kd.R_reads' HO_5.out).2.2 (ji30))
         obtain rfl : (⟨go17, 0, none⟩ : Addr) = ad635 := (by injection e635)
         (first | simp only [add_plain] at hx635_0 | simp only [add_at] at hx635_0 | simp only [Addr.add, Nat.zero_add] at hx635_0 | skip)
         have p33 : 0 ≤ (x7_3 : Int) := of_decide_eq_true (by first | (with_reducible assumption) | assumption)
         have q33 : (x7_3 : Int) < ((x5_3.length : Int) : Int) := of_decide_eq_true (by first | (with_reducible assumption) | assumption)
         obtain ⟨hx33_0, hf33_0⟩ := Kd.R_celln 0 HO_5.out (x7_3 : Int) p33 q33
         replace p33 := eq_true p33
         replace q33 := eq_true q33
         have HP35 := Kd.R_putn HO_5.out (x7_3 : Int) (wrap64 ((rd x5_3 x7_3) + (rd x5_3 (ji30))))
         rw [← Ny636.out] at HP35
         have HQ35 := am HP35
         clear HP35
         refine start_ (n := 19) (S := fun w' => w'.cell? ⟨gb624, 0, none⟩ = some (.slice (some ad632) l0_0.length c0_0) ∧ w'.cell? ⟨go17, (x7_3).toNat, none⟩ = some (.int .i64 (rd x5_3 x7_3)) ∧ w'.cell? (ad632.add (x6_2).toNat) = some (.int .i64 (rd l0_0 x6_2)) ∧ w'.cell? ⟨go17, ((ji30)).toNat, none⟩ = some (.int .i64 (rd x5_3 (ji30)))) (ds := [18]) (yz 19 0) (by kernel_rfl) rfl rfl ⟨bc BK624 0 _, hx633_0, ((HB.out.cell (World.block_lt_of_cell? w _ hw634_0)).trans hw634_0), hx635_0⟩ (fun hHeld => ?_); refine with_tabW spec_CountFactorizations.tab11 spec_CountFactorizations.bits11 (fun HT_ HW_ => ?_)
         generalize wr.drew = w34 at HO_5 BK624 HB HQ35 hf33_0 hx33_0 hx633_0 hx634_0 hx635_0 hHeld ⊢
         refine pa 0 (some 38) (yz 19 1) HT_ ?_
         refine pa 1 (some 39) (yz 19 3) HT_ ?_
         refine pa 2 (some 40) (yz 19 7) HT_ ?_
         refine pa 3 (some 41) (yz 19 15) HT_ ?_
         refine pa 4 (some 42) (yz 19 31) HT_ ?_
         refine pa 6 (some 44) (yz 19 95) HT_ ?_
         refine pa 7 (some 45) (yz 19 223) HT_ ?_
         refine pa 8 (some 46) (yz 19 479) HT_ ?_
         refine pa 10 (some 48) (yz 19 1503) HT_ ?_
         refine tk 5 (some 43) (yz 19 1535) HT_ HW_ hHeld ?_
         refine tk 9 (some 47) (yz 19 2047) HT_ HW_ hHeld ?_
         refine pa 11 (some 49) (yz 19 4095) HT_ ?_
         refine tk 12 (some 50) (yz 19 8191) HT_ HW_ hHeld ?_
         refine pa 13 (some 51) (yz 19 16383) HT_ ?_
         refine pa 14 (some 52) (yz 19 32767) HT_ ?_
         refine tk 15 (some 53) (yz 19 65535) HT_ HW_ hHeld ?_
         refine pa 16 (some 54) (yz 19 131071) HT_ ?_
         refine pa 17 (some 55) (yz 19 262143) HT_ ?_
         refine last_ (i := 18) (N := none) (yz 19 524287) rfl rfl (one_of HT_.out (by kernel_rfl)) (by decide) (fun K hK => ?_)
         refine skip_ (w1 := ?_) (by rfl) rfl ?_ ?_
         rotate_left
         ·go_simp
          rfl
         refine hK.out _ _ ?_
         clear hK K
         refine done_ (done_of HT_.out (by kernel_rfl)) ?_
         try go_wp2
         (try simp only [← hl5_3])
         go_roundg k3
         case measure => have := HJ2.out; have := HK2.out; have := HK3.out; omega
         case rel => exact ⟨(y636), (wrap64 (x7_3 + 1)), rr, H', ⟨by have := HJ2.out; have := HK2.out; have := HK3.out; omega⟩, ⟨by (try simp only [hl5_2]); (try simp only [hl5_3]); (with_reducible repeat (first | apply Kd.R_alloc | apply Kd.R_drewN | apply Kd.R_drew)); exact HQ35.out⟩, ⟨by (try simp only [hl5_2]); (try simp only [hl5_3]); (with_reducible repeat (first | refine blk_drewN ?_ _ | refine blk_drew ?_ | refine blk_alloc ?_ _)); refine blk_far ?_ (by have h_ := Kd.R_ne HO_5.out BK624.out (by decide); intro e_; exact h_ (by rw [e_]; rfl)) _; (with_reducible repeat (first | refine blk_drewN ?_ _ | refine blk_drew ?_ | refine blk_alloc ?_ _)); exact BK624.out⟩, ⟨bw⟩⟩
        have H' := am H
        clear H
        go_wp2
        (try simp only [← hl5_2, ← hl5_3])
        go_roundg k3
        case measure => have := HJ2.out; have := HK2.out; have := HK3.out; omega
        case rel => exact ⟨(x5_3), (wrap64 (x6_2 + 1)), rr, H', ⟨by have := HJ2.out; have := HK2.out; have := HK3.out; omega⟩, ⟨by (try simp only [hl5_2]); (try simp only [hl5_3]); (with_reducible repeat (first | apply Kd.R_alloc | apply Kd.R_drewN | apply Kd.R_drew)); exact HO_5.out⟩, ⟨by (try simp only [hl5_2]); (try simp only [hl5_3]); (with_reducible repeat (first | refine blk_drewN ?_ _ | refine blk_drew ?_ | refine blk_alloc ?_ _)); exact BK624.out⟩, ⟨bw⟩⟩
     replace H := gd H; obtain ⟨c36b0, H⟩ := H
     by_cases c37 : a1 < (x5_2.length : Int)
     rotate_left
     ·rw [if_neg c37] at H
      exact absurd H (by simp)
     rw [if_pos c37] at H
     have c37b0 : decide (a1 < (x5_2.length : Int)) = true := decide_eq_true c37
     (try simp only [hl5_2] at c37b0)
     clear c37
     obtain rfl := Option.some.inj H
     have hcz38_0 := bc BK624 0 (.slice A0_0 l0_0.length c0_0)
     have hfz38_0 := blk_frozen BK624.out 0
     obtain ⟨⟨ad631, e631, hx631_0⟩, p631, q631⟩ := pq (Kd.at_int (Kd.R_reads' HO_5.out).2.2 a1)
     obtain rfl : (⟨go17, 0, none⟩ : Addr) = ad631 := (by injection e631)
     (first | simp only [add_plain] at hx631_0 | simp only [add_at] at hx631_0 | simp only [Addr.add, Nat.zero_add] at hx631_0 | skip)
     go_wp2
     go_ret
     exact ⟨by first | rfl | (simp [errW_none, errW_some] <;> rfl) | (simp only [← hji13]; first | rfl | (simp [errW_none, errW_some] <;> rfl)) | (simp [*, errW_none, errW_some] <;> rfl), bw⟩

end Go.Proofs.YtbbehmbpoilffaaDoor.C
