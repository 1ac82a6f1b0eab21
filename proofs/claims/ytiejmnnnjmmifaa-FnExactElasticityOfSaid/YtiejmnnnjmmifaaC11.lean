/- Contracts of functions of the program: spec_ElasticityOf, impl_lowest, impl_ElasticityOf, laws_FnExactElasticityOf. -/
import Derived.Test.YtiejmnnnjmmifaaC0
import Derived.Test.YtiejmnnnjmmifaaC1
import Derived.Test.YtiejmnnnjmmifaaC4
import Derived.Test.YtiejmnnnjmmifaaC8
namespace Go.Proofs.Ytiejmnnnjmmifaa.C
open Go.RowKit Go.Proofs.YtiejmnnnjmmifaaW.PrintWords Go.Proofs.YtiejmnnnjmmifaaW.PrintLast Go.Proofs.YtiejmnnnjmmifaaW.PrintMore
attribute [local go_sem] max2_int min2_int max_two min_two max_three min_three max_four min_four
set_option linter.unusedVariables false
set_option linter.unusedSimpArgs false

/-! ### spec_ElasticityOf: function 31 -/
def spec_ElasticityOf.f (k : Nat) (l0_0 : List Int) (a1 : Int) : Option (Int × Int) := (spec_LengthsOf.f k l0_0 a1).bind fun t577 => (if (t577.length : Int) = 0 then (some (0, 0)) else (if a1 = 0 then (some (0, 0)) else (if 0 ≤ (wrap64 ((t577.length : Int) - 1)) then (if (wrap64 ((t577.length : Int) - 1)) < (t577.length : Int) then (if 0 < (t577.length : Int) then ((spec_GcdOf.f k (rd t577 (wrap64 ((t577.length : Int) - 1))) (rd t577 0)).bind fun t582 => (if t582 = 0 then (none) else (some (wrap64 (Int.tdiv (rd t577 (wrap64 ((t577.length : Int) - 1))) t582), wrap64 (Int.tdiv (rd t577 0) t582))))) else (none)) else (none)) else (none))))
set_option maxHeartbeats 8000000 in
set_option maxRecDepth 100000 in
theorem spec_ElasticityOf.calls (k : Nat) (A0_0 : Option Addr) (c0_0 : Nat) (l0_0 : List Int) (a1 : Int) (r1 : Int) (r2 : Int) (w : World) (hr0_0 : Kd.C (Kd.int .i64) w A0_0 l0_0.length l0_0) (hc0_0 : l0_0.length ≤ c0_0) (h : spec_ElasticityOf.f k l0_0 a1 = some (r1, r2)) :
  Calls Try.prog 31 #[.agg #[.slice A0_0 l0_0.length c0_0], .int .i64 a1] w fun e w' => e = .returned (.tuple #[.int .i64 r1, .int .i64 r2]) ∧ Below w.heap.size w w' := by
 have hu27 := Try.underlying27
 have HR0_0 := Aside0.mk hr0_0
 have HC0_0 := Aside0.mk hc0_0
 clear hr0_0 hc0_0
 have HB := Aside0.mk (Below.refl w.heap.size w)
 have H : ((spec_LengthsOf.f k l0_0 a1).bind fun t577 => (if (t577.length : Int) = 0 then (some (0, 0)) else (if a1 = 0 then (some (0, 0)) else (if 0 ≤ (wrap64 ((t577.length : Int) - 1)) then (if (wrap64 ((t577.length : Int) - 1)) < (t577.length : Int) then (if 0 < (t577.length : Int) then ((spec_GcdOf.f k (rd t577 (wrap64 ((t577.length : Int) - 1))) (rd t577 0)).bind fun t582 => (if t582 = 0 then (none) else (some (wrap64 (Int.tdiv (rd t577 (wrap64 ((t577.length : Int) - 1))) t582), wrap64 (Int.tdiv (rd t577 0) t582))))) else (none)) else (none)) else (none))))) = some (r1, r2) := h
 clear h
 replace H := ga H; obtain ⟨t577, A3, H⟩ := H
 by_cases c4 : (t577.length : Int) = 0
 ·rw [if_pos c4] at H
  have c4b0 : ((t577.length : Int) == 0) = true := beq_iff_eq.mpr c4
  have c4b1 : ((t577.length : Int) != 0) = false := bne_eq_false_iff_eq.mpr c4
  clear c4
  simp only [Option.some.injEq, Prod.mk.injEq] at H
  obtain ⟨rfl, rfl⟩ := H
  go_enter Try.func31, Try.ntmps31
  go_wp2_with (first | ((with_reducible refine gate_dst (N := 2) rfl ?_); refine bx 2 #[.slice A0_0 l0_0.length c0_0] 27 ?_; intro gb576 hg w5 hbox hb; have BK576 := Aside0.mk (hbox); have GW576 := Aside0.mk (gs hg : w.heap.size ≤ gb576); have GE576 := Aside0.mk (gs hg : w.heap.size ≤ gb576); replace HB := Aside0.mk (below_step bw hb); clear hb hbox hg; have hcz6_0 := bc BK576 0 (.slice A0_0 l0_0.length c0_0); have hfz6_0 := blk_frozen BK576.out 0) | (go_at_call 27; (with_reducible refine (spec_LengthsOf.calls k _ _ l0_0 a1 t577 _ ?side1 ?side2 A3.out).mono ?_); (case side1 => exact co (Kd.C_below HR0_0.out HB.out)); (case side2 => exact HC0_0.out); rintro e w7 ⟨v578, rfl, ho0, hb⟩; have HO579 := Aside0.mk (Kd.R_lower ho0 (below_size bw)); replace BK576 := Aside0.mk (blk_below (g := gb576) (o := .cells #[.slice A0_0 l0_0.length c0_0] 27 (0, 0)) (bo BK576.out) hb); replace HB := Aside0.mk (below_step bw hb); clear hb ho0; obtain ⟨Ao8, co8, eo8⟩ := Kd.R_slice HO579.out; subst eo8))
  repeat (go_quiet (first | ((with_reducible refine gate_dst (N := 2) rfl ?_); refine bx 2 #[.slice A0_0 l0_0.length c0_0] 27 ?_; intro gb576 hg w5 hbox hb; have n0_ := Aside0.mk (below_step bw hb); have n1_ := Aside0.mk (hbox); have n2_ := Aside0.mk (gs hg : w.heap.size ≤ gb576); have n3_ := Aside0.mk (gs hg : w.heap.size ≤ gb576); clear HB; have HB := n0_; have BK576 := n1_; have GW576 := n2_; have GE576 := n3_; clear n0_ n1_ n2_ n3_; clear hb hbox hg; have hcz6_0 := bc BK576 0 (.slice A0_0 l0_0.length c0_0); have hfz6_0 := blk_frozen BK576.out 0) | (go_at_call 27; (with_reducible refine (spec_LengthsOf.calls k _ _ l0_0 a1 t577 _ ?side1 ?side2 A3.out).mono ?_); (case side1 => exact co (Kd.C_below HR0_0.out HB.out)); (case side2 => exact HC0_0.out); rintro e w7 ⟨v578, rfl, ho0, hb⟩; have n0_ := Aside0.mk (Kd.R_lower ho0 (below_size bw)); have n1_ := Aside0.mk (blk_below (g := gb576) (o := .cells #[.slice A0_0 l0_0.length c0_0] 27 (0, 0)) (bo BK576.out) hb); have n2_ := Aside0.mk (below_step bw hb); clear BK576; clear HB; have HO579 := n0_; have BK576 := n1_; have HB := n2_; clear n0_ n1_ n2_; (try clear hb); (try clear hb2); (try clear hk); (try clear hi); (try clear ho0); obtain ⟨Ao8, co8, eo8⟩ := Kd.R_slice HO579.out; subst eo8)); try go_wp2_with (first | ((with_reducible refine gate_dst (N := 2) rfl ?_); refine bx 2 #[.slice A0_0 l0_0.length c0_0] 27 ?_; intro gb576 hg w5 hbox hb; have n0_ := Aside0.mk (below_step bw hb); have n1_ := Aside0.mk (hbox); have n2_ := Aside0.mk (gs hg : w.heap.size ≤ gb576); have n3_ := Aside0.mk (gs hg : w.heap.size ≤ gb576); clear HB; have HB := n0_; have BK576 := n1_; have GW576 := n2_; have GE576 := n3_; clear n0_ n1_ n2_ n3_; clear hb hbox hg; have hcz6_0 := bc BK576 0 (.slice A0_0 l0_0.length c0_0); have hfz6_0 := blk_frozen BK576.out 0) | (go_at_call 27; (with_reducible refine (spec_LengthsOf.calls k _ _ l0_0 a1 t577 _ ?side1 ?side2 A3.out).mono ?_); (case side1 => exact co (Kd.C_below HR0_0.out HB.out)); (case side2 => exact HC0_0.out); rintro e w7 ⟨v578, rfl, ho0, hb⟩; have n0_ := Aside0.mk (Kd.R_lower ho0 (below_size bw)); have n1_ := Aside0.mk (blk_below (g := gb576) (o := .cells #[.slice A0_0 l0_0.length c0_0] 27 (0, 0)) (bo BK576.out) hb); have n2_ := Aside0.mk (below_step bw hb); clear BK576; clear HB; have HO579 := n0_; have BK576 := n1_; have HB := n2_; clear n0_ n1_ n2_; (try clear hb); (try clear hb2); (try clear hk); (try clear hi); (try clear ho0); obtain ⟨Ao8, co8, eo8⟩ := Kd.R_slice HO579.out; subst eo8)))
  go_ret2
  exact ⟨re, bw⟩
 ·rw [if_neg c4] at H
  have c4b0 : ((t577.length : Int) == 0) = false := beq_eq_false_iff_ne.mpr c4
  have c4b1 : ((t577.length : Int) != 0) = true := bne_iff_ne.mpr c4
  have c4b2 : ¬ (t577 = []) := fun h_ => c4 (by rw [h_]; rfl)
  by_cases c9 : a1 = 0
  ·rw [if_pos c9] at H
   have c9b0 : (a1 == 0) = true := beq_iff_eq.mpr c9
   have c9b1 : (a1 != 0) = false := bne_eq_false_iff_eq.mpr c9
   clear c9
   simp only [Option.some.injEq, Prod.mk.injEq] at H
   obtain ⟨rfl, rfl⟩ := H
   go_enter Try.func31, Try.ntmps31
   go_wp2_with (first | ((with_reducible refine gate_dst (N := 2) rfl ?_); refine bx 2 #[.slice A0_0 l0_0.length c0_0] 27 ?_; intro gb576 hg w10 hbox hb; have BK576 := Aside0.mk (hbox); have GW576 := Aside0.mk (gs hg : w.heap.size ≤ gb576); have GE576 := Aside0.mk (gs hg : w.heap.size ≤ gb576); replace HB := Aside0.mk (below_step bw hb); clear hb hbox hg; have hcz11_0 := bc BK576 0 (.slice A0_0 l0_0.length c0_0); have hfz11_0 := blk_frozen BK576.out 0) | (go_at_call 27; (with_reducible refine (spec_LengthsOf.calls k _ _ l0_0 a1 t577 _ ?side1 ?side2 A3.out).mono ?_); (case side1 => exact co (Kd.C_below HR0_0.out HB.out)); (case side2 => exact HC0_0.out); rintro e w12 ⟨v578, rfl, ho0, hb⟩; have HO579 := Aside0.mk (Kd.R_lower ho0 (below_size bw)); replace BK576 := Aside0.mk (blk_below (g := gb576) (o := .cells #[.slice A0_0 l0_0.length c0_0] 27 (0, 0)) (bo BK576.out) hb); replace HB := Aside0.mk (below_step bw hb); clear hb ho0; obtain ⟨Ao13, co13, eo13⟩ := Kd.R_slice HO579.out; subst eo13))
   repeat (go_quiet (first | ((with_reducible refine gate_dst (N := 2) rfl ?_); refine bx 2 #[.slice A0_0 l0_0.length c0_0] 27 ?_; intro gb576 hg w10 hbox hb; have n0_ := Aside0.mk (below_step bw hb); have n1_ := Aside0.mk (hbox); have n2_ := Aside0.mk (gs hg : w.heap.size ≤ gb576); have n3_ := Aside0.mk (gs hg : w.heap.size ≤ gb576); clear HB; have HB := n0_; have BK576 := n1_; have GW576 := n2_; have GE576 := n3_; clear n0_ n1_ n2_ n3_; clear hb hbox hg; have hcz11_0 := bc BK576 0 (.slice A0_0 l0_0.length c0_0); have hfz11_0 := blk_frozen BK576.out 0) | (go_at_call 27; (with_reducible refine (spec_LengthsOf.calls k _ _ l0_0 a1 t577 _ ?side1 ?side2 A3.out).mono ?_); (case side1 => exact co (Kd.C_below HR0_0.out HB.out)); (case side2 => exact HC0_0.out); rintro e w12 ⟨v578, rfl, ho0, hb⟩; have n0_ := Aside0.mk (Kd.R_lower ho0 (below_size bw)); have n1_ := Aside0.mk (blk_below (g := gb576) (o := .cells #[.slice A0_0 l0_0.length c0_0] 27 (0, 0)) (bo BK576.out) hb); have n2_ := Aside0.mk (below_step bw hb); clear BK576; clear HB; have HO579 := n0_; have BK576 := n1_; have HB := n2_; clear n0_ n1_ n2_; (try clear hb); (try clear hb2); (try clear hk); (try clear hi); (try clear ho0); obtain ⟨Ao13, co13, eo13⟩ := Kd.R_slice HO579.out; subst eo13)); try go_wp2_with (first | ((with_reducible refine gate_dst (N := 2) rfl ?_); refine bx 2 #[.slice A0_0 l0_0.length c0_0] 27 ?_; intro gb576 hg w10 hbox hb; have n0_ := Aside0.mk (below_step bw hb); have n1_ := Aside0.mk (hbox); have n2_ := Aside0.mk (gs hg : w.heap.size ≤ gb576); have n3_ := Aside0.mk (gs hg : w.heap.size ≤ gb576); clear HB; have HB := n0_; have BK576 := n1_; have GW576 := n2_; have GE576 := n3_; clear n0_ n1_ n2_ n3_; clear hb hbox hg; have hcz11_0 := bc BK576 0 (.slice A0_0 l0_0.length c0_0); have hfz11_0 := blk_frozen BK576.out 0) | (go_at_call 27; (with_reducible refine (spec_LengthsOf.calls k _ _ l0_0 a1 t577 _ ?side1 ?side2 A3.out).mono ?_); (case side1 => exact co (Kd.C_below HR0_0.out HB.out)); (case side2 => exact HC0_0.out); rintro e w12 ⟨v578, rfl, ho0, hb⟩; have n0_ := Aside0.mk (Kd.R_lower ho0 (below_size bw)); have n1_ := Aside0.mk (blk_below (g := gb576) (o := .cells #[.slice A0_0 l0_0.length c0_0] 27 (0, 0)) (bo BK576.out) hb); have n2_ := Aside0.mk (below_step bw hb); clear BK576; clear HB; have HO579 := n0_; have BK576 := n1_; have HB := n2_; clear n0_ n1_ n2_; (try clear hb); (try clear hb2); (try clear hk); (try clear hi); (try clear ho0); obtain ⟨Ao13, co13, eo13⟩ := Kd.R_slice HO579.out; subst eo13)))
   go_ret2
   exact ⟨re, bw⟩
  ·rw [if_neg c9] at H
   have c9b0 : (a1 == 0) = false := beq_eq_false_iff_ne.mpr c9
   have c9b1 : (a1 != 0) = true := bne_iff_ne.mpr c9
   obtain ⟨ji14, hji14⟩ : ∃ j_ : Int, (wrap64 ((t577.length : Int) - 1)) = j_ := ⟨_, rfl⟩
   replace H : (if 0 ≤ (ji14) then (if (ji14) < (t577.length : Int) then (if 0 < (t577.length : Int) then ((spec_GcdOf.f k (rd t577 (ji14)) (rd t577 0)).bind fun t582 => (if t582 = 0 then (none) else (some (wrap64 (Int.tdiv (rd t577 (ji14)) t582), wrap64 (Int.tdiv (rd t577 0) t582))))) else (none)) else (none)) else (none)) = some (r1, r2) := by first | (rw [hji14] at H; exact H) | (simp only [hji14] at H ⊢; exact H)
   (try rw [hji14] at A3)
   have hji14w : (IntKind.i64.wrap ((t577.length : Int) - 1)) = ji14 := (i64_w _).trans hji14
   replace H := gd H; obtain ⟨c15b0, H⟩ := H
   replace H := gd H; obtain ⟨c16b0, H⟩ := H
   replace H := gp H; obtain ⟨c17, H⟩ := H
   have c17b0 : decide (0 < (t577.length : Int)) = true := decide_eq_true c17
   have c17b1 : decide (0 < t577.length) = true := decide_eq_true (by omega)
   clear c17
   replace H := ga H; obtain ⟨t582, A18, H⟩ := H
   by_cases c19 : t582 = 0
   ·rw [if_pos c19] at H
    exact absurd H (by simp)
   ·rw [if_neg c19] at H
    have c19b0 : (t582 == 0) = false := beq_eq_false_iff_ne.mpr c19
    have c19b1 : (t582 != 0) = true := bne_iff_ne.mpr c19
    simp only [Option.some.injEq, Prod.mk.injEq] at H
    obtain ⟨rfl, rfl⟩ := H
    go_enter Try.func31, Try.ntmps31
    go_wp2_with (first | ((with_reducible refine gate_dst (N := 2) rfl ?_); refine bx 2 #[.slice A0_0 l0_0.length c0_0] 27 ?_; intro gb576 hg w20 hbox hb; have BK576 := Aside0.mk (hbox); have GW576 := Aside0.mk (gs hg : w.heap.size ≤ gb576); have GE576 := Aside0.mk (gs hg : w.heap.size ≤ gb576); replace HB := Aside0.mk (below_step bw hb); clear hb hbox hg; have hcz21_0 := bc BK576 0 (.slice A0_0 l0_0.length c0_0); have hfz21_0 := blk_frozen BK576.out 0) | (go_at_call 27; (with_reducible refine (spec_LengthsOf.calls k _ _ l0_0 a1 t577 _ ?side1 ?side2 A3.out).mono ?_); (case side1 => exact co (Kd.C_below HR0_0.out HB.out)); (case side2 => exact HC0_0.out); rintro e w22 ⟨v578, rfl, ho0, hb⟩; have HO579 := Aside0.mk (Kd.R_lower ho0 (below_size bw)); replace BK576 := Aside0.mk (blk_below (g := gb576) (o := .cells #[.slice A0_0 l0_0.length c0_0] 27 (0, 0)) (bo BK576.out) hb); replace HB := Aside0.mk (below_step bw hb); clear hb ho0; obtain ⟨Ao23, co23, eo23⟩ := Kd.R_slice HO579.out; subst eo23; have p580 : 0 ≤ ((ji14) : Int) := of_decide_eq_true (by first | (with_reducible assumption) | assumption); have q580 : (ji14) < (t577.length : Int) := of_decide_eq_true (by first | (with_reducible assumption) | assumption); obtain ⟨ad580, e580, hx580_0⟩ := Kd.at_int (Kd.R_reads' HO579.out).2.2 (ji14) p580 q580; cases e580; replace p580 := eq_true p580; replace q580 := eq_true q580; have p581 : 0 ≤ (0 : Int) := (by omega); have q581 : 0 < (t577.length : Int) := of_decide_eq_true (by first | (with_reducible assumption) | assumption); obtain ⟨ad581, e581, hx581_0⟩ := Kd.at_int (Kd.R_reads' HO579.out).2.2 0 p581 q581; obtain rfl : ad580 = ad581 := (by injection e581); have qi581 : (0 < t577.length) = True := eq_true (by omega); (try rw [show ((0 : Int)).toNat = 0 from rfl] at hx581_0); (try rw [Addr.add_zero'] at hx581_0); replace p581 := eq_true p581; replace q581 := eq_true q581) | (go_at_call 65; (with_reducible refine (spec_GcdOf.calls k (rd t577 (ji14)) (rd t577 0) t582 _ A18.out).mono ?_); rintro e w' ⟨rfl, ⟨nd, rfl⟩⟩; (try first | exact ⟨rfl, _, World.drewN_drewN _ _ _⟩ | exact ⟨rfl, _, Eq.trans (World.drewN_drewN _ _ _) (congrArg (World.drewN _) (Nat.add_assoc _ _ _))⟩)))
    repeat (go_quiet (first | ((with_reducible refine gate_dst (N := 2) rfl ?_); refine bx 2 #[.slice A0_0 l0_0.length c0_0] 27 ?_; intro gb576 hg w20 hbox hb; have n0_ := Aside0.mk (below_step bw hb); have n1_ := Aside0.mk (hbox); have n2_ := Aside0.mk (gs hg : w.heap.size ≤ gb576); have n3_ := Aside0.mk (gs hg : w.heap.size ≤ gb576); clear HB; have HB := n0_; have BK576 := n1_; have GW576 := n2_; have GE576 := n3_; clear n0_ n1_ n2_ n3_; clear hb hbox hg; have hcz21_0 := bc BK576 0 (.slice A0_0 l0_0.length c0_0); have hfz21_0 := blk_frozen BK576.out 0) | (go_at_call 27; (with_reducible refine (spec_LengthsOf.calls k _ _ l0_0 a1 t577 _ ?side1 ?side2 A3.out).mono ?_); (case side1 => exact co (Kd.C_below HR0_0.out HB.out)); (case side2 => exact HC0_0.out); rintro e w22 ⟨v578, rfl, ho0, hb⟩; have n0_ := Aside0.mk (Kd.R_lower ho0 (below_size bw)); have n1_ := Aside0.mk (blk_below (g := gb576) (o := .cells #[.slice A0_0 l0_0.length c0_0] 27 (0, 0)) (bo BK576.out) hb); have n2_ := Aside0.mk (below_step bw hb); clear BK576; clear HB; have HO579 := n0_; have BK576 := n1_; have HB := n2_; clear n0_ n1_ n2_; (try clear hb); (try clear hb2); (try clear hk); (try clear hi); (try clear ho0); obtain ⟨Ao23, co23, eo23⟩ := Kd.R_slice HO579.out; subst eo23; have p580 : 0 ≤ ((ji14) : Int) := of_decide_eq_true (by first | (with_reducible assumption) | assumption); have q580 : (ji14) < (t577.length : Int) := of_decide_eq_true (by first | (with_reducible assumption) | assumption); obtain ⟨ad580, e580, hx580_0⟩ := Kd.at_int (Kd.R_reads' HO579.out).2.2 (ji14) p580 q580; cases e580; replace p580 := eq_true p580; replace q580 := eq_true q580; have p581 : 0 ≤ (0 : Int) := (by omega); have q581 : 0 < (t577.length : Int) := of_decide_eq_true (by first | (with_reducible assumption) | assumption); obtain ⟨ad581, e581, hx581_0⟩ := Kd.at_int (Kd.R_reads' HO579.out).2.2 0 p581 q581; obtain rfl : ad580 = ad581 := (by injection e581); have qi581 : (0 < t577.length) = True := eq_true (by omega); (try rw [show ((0 : Int)).toNat = 0 from rfl] at hx581_0); (try rw [Addr.add_zero'] at hx581_0); replace p581 := eq_true p581; replace q581 := eq_true q581) | (go_at_call 65; (with_reducible refine (spec_GcdOf.calls k (rd t577 (ji14)) (rd t577 0) t582 _ A18.out).mono ?_); rintro e w' ⟨rfl, ⟨nd, rfl⟩⟩; (try first | exact ⟨rfl, _, World.drewN_drewN _ _ _⟩ | exact ⟨rfl, _, Eq.trans (World.drewN_drewN _ _ _) (congrArg (World.drewN _) (Nat.add_assoc _ _ _))⟩))); try go_wp2_with (first | ((with_reducible refine gate_dst (N := 2) rfl ?_); refine bx 2 #[.slice A0_0 l0_0.length c0_0] 27 ?_; intro gb576 hg w20 hbox hb; have n0_ := Aside0.mk (below_step bw hb); have n1_ := Aside0.mk (hbox); have n2_ := Aside0.mk (gs hg : w.heap.size ≤ gb576); have n3_ := Aside0.mk (gs hg : w.heap.size ≤ gb576); clear HB; have HB := n0_; have BK576 := n1_; have GW576 := n2_; have GE576 := n3_; clear n0_ n1_ n2_ n3_; clear hb hbox hg; have hcz21_0 := bc BK576 0 (.slice A0_0 l0_0.length c0_0); have hfz21_0 := blk_frozen BK576.out 0) | (go_at_call 27; (with_reducible refine (spec_LengthsOf.calls k _ _ l0_0 a1 t577 _ ?side1 ?side2 A3.out).mono ?_); (case side1 => exact co (Kd.C_below HR0_0.out HB.out)); (case side2 => exact HC0_0.out); rintro e w22 ⟨v578, rfl, ho0, hb⟩; have n0_ := Aside0.mk (Kd.R_lower ho0 (below_size bw)); have n1_ := Aside0.mk (blk_below (g := gb576) (o := .cells #[.slice A0_0 l0_0.length c0_0] 27 (0, 0)) (bo BK576.out) hb); have n2_ := Aside0.mk (below_step bw hb); clear BK576; clear HB; have HO579 := n0_; have BK576 := n1_; have HB := n2_; clear n0_ n1_ n2_; (try clear hb); (try clear hb2); (try clear hk); (try clear hi); (try clear ho0); obtain ⟨Ao23, co23, eo23⟩ := Kd.R_slice HO579.out; subst eo23; have p580 : 0 ≤ ((ji14) : Int) := of_decide_eq_true (by first | (with_reducible assumption) | assumption); have q580 : (ji14) < (t577.length : Int) := of_decide_eq_true (by first | (with_reducible assumption) | assumption); obtain ⟨ad580, e580, hx580_0⟩ := Kd.at_int (Kd.R_reads' HO579.out).2.2 (ji14) p580 q580; cases e580; replace p580 := eq_true p580; replace q580 := eq_true q580; have p581 : 0 ≤ (0 : Int) := (by omega); have q581 : 0 < (t577.length : Int) := of_decide_eq_true (by first | (with_reducible assumption) | assumption); obtain ⟨ad581, e581, hx581_0⟩ := Kd.at_int (Kd.R_reads' HO579.out).2.2 0 p581 q581; obtain rfl : ad580 = ad581 := (by injection e581); have qi581 : (0 < t577.length) = True := eq_true (by omega); (try rw [show ((0 : Int)).toNat = 0 from rfl] at hx581_0); (try rw [Addr.add_zero'] at hx581_0); replace p581 := eq_true p581; replace q581 := eq_true q581) | (go_at_call 65; (with_reducible refine (spec_GcdOf.calls k (rd t577 (ji14)) (rd t577 0) t582 _ A18.out).mono ?_); rintro e w' ⟨rfl, ⟨nd, rfl⟩⟩; (try first | exact ⟨rfl, _, World.drewN_drewN _ _ _⟩ | exact ⟨rfl, _, Eq.trans (World.drewN_drewN _ _ _) (congrArg (World.drewN _) (Nat.add_assoc _ _ _))⟩))))
    go_ret2
    exact ⟨by first | rfl | (simp [errW_none, errW_some] <;> rfl) | (simp only [← hji14]; first | rfl | (simp [errW_none, errW_some] <;> rfl)) | (simp [*, errW_none, errW_some] <;> rfl), bw⟩


/-! ### impl_lowest: function 66 -/
def impl_lowest.f (k : Nat) (a0 : Int) (a1 : Int) : Option (Int × Int) := (impl_GcdOf.f k a0 a1).bind fun t583 => (if t583 = 0 then (some (0, 0)) else (some (wrap64 (Int.tdiv a0 t583), wrap64 (Int.tdiv a1 t583))))
set_option maxHeartbeats 8000000 in
set_option maxRecDepth 100000 in
theorem impl_lowest.calls (k : Nat) (a0 : Int) (a1 : Int) (r1 : Int) (r2 : Int) (w : World) (h : impl_lowest.f k a0 a1 = some (r1, r2)) :
  Calls Try.prog 66 #[.int .i64 a0, .int .i64 a1] w fun e w' => e = .returned (.tuple #[.int .i64 r1, .int .i64 r2]) ∧ Below w.heap.size w w' := by
 have HB := Aside0.mk (Below.refl w.heap.size w)
 have H : ((impl_GcdOf.f k a0 a1).bind fun t583 => (if t583 = 0 then (some (0, 0)) else (some (wrap64 (Int.tdiv a0 t583), wrap64 (Int.tdiv a1 t583))))) = some (r1, r2) := h
 clear h
 replace H := ga H; obtain ⟨t583, A3, H⟩ := H
 by_cases c4 : t583 = 0
 ·rw [if_pos c4] at H
  have c4b0 : (t583 == 0) = true := beq_iff_eq.mpr c4
  have c4b1 : (t583 != 0) = false := bne_eq_false_iff_eq.mpr c4
  clear c4
  simp only [Option.some.injEq, Prod.mk.injEq] at H
  obtain ⟨rfl, rfl⟩ := H
  go_enter Try.func66, Try.ntmps66
  go_wp2_with (first | (go_at_call 101; (with_reducible refine (impl_GcdOf.calls k a0 a1 t583 _ A3.out).mono ?_); rintro e w5 ⟨rfl, hb⟩; replace HB := Aside0.mk (below_step bw hb); clear hb))
  repeat (go_quiet (first | (go_at_call 101; (with_reducible refine (impl_GcdOf.calls k a0 a1 t583 _ A3.out).mono ?_); rintro e w5 ⟨rfl, hb⟩; have n0_ := Aside0.mk (below_step bw hb); clear HB; have HB := n0_; clear n0_; (try clear hb); (try clear hb2); (try clear hk); (try clear hi))); try go_wp2_with (first | (go_at_call 101; (with_reducible refine (impl_GcdOf.calls k a0 a1 t583 _ A3.out).mono ?_); rintro e w5 ⟨rfl, hb⟩; have n0_ := Aside0.mk (below_step bw hb); clear HB; have HB := n0_; clear n0_; (try clear hb); (try clear hb2); (try clear hk); (try clear hi))))
  go_ret2
  exact ⟨re, bw⟩
 ·rw [if_neg c4] at H
  have c4b0 : (t583 == 0) = false := beq_eq_false_iff_ne.mpr c4
  have c4b1 : (t583 != 0) = true := bne_iff_ne.mpr c4
  simp only [Option.some.injEq, Prod.mk.injEq] at H
  obtain ⟨rfl, rfl⟩ := H
  go_enter Try.func66, Try.ntmps66
  go_wp2_with (first | (go_at_call 101; (with_reducible refine (impl_GcdOf.calls k a0 a1 t583 _ A3.out).mono ?_); rintro e w6 ⟨rfl, hb⟩; replace HB := Aside0.mk (below_step bw hb); clear hb))
  repeat (go_quiet (first | (go_at_call 101; (with_reducible refine (impl_GcdOf.calls k a0 a1 t583 _ A3.out).mono ?_); rintro e w6 ⟨rfl, hb⟩; have n0_ := Aside0.mk (below_step bw hb); clear HB; have HB := n0_; clear n0_; (try clear hb); (try clear hb2); (try clear hk); (try clear hi))); try go_wp2_with (first | (go_at_call 101; (with_reducible refine (impl_GcdOf.calls k a0 a1 t583 _ A3.out).mono ?_); rintro e w6 ⟨rfl, hb⟩; have n0_ := Aside0.mk (below_step bw hb); clear HB; have HB := n0_; clear n0_; (try clear hb); (try clear hb2); (try clear hk); (try clear hi))))
  go_ret2
  exact ⟨re, bw⟩


/-! ### impl_ElasticityOf: function 32 -/
def impl_ElasticityOf.f (k : Nat) (l0_0 : List Int) (a1 : Int) : Option (Int × Int) := (impl_LengthsOf.f k l0_0 a1).bind fun t585 => (if a1 = 0 then (some (0, 0)) else (if (t585.length : Int) = 0 then (some (0, 0)) else (if 0 ≤ (wrap64 ((t585.length : Int) - 1)) then (if (wrap64 ((t585.length : Int) - 1)) < (t585.length : Int) then (if 0 < (t585.length : Int) then ((impl_lowest.f k (rd t585 (wrap64 ((t585.length : Int) - 1))) (rd t585 0)).bind fun bt590 => (some (bt590.1, bt590.2))) else (none)) else (none)) else (none))))
def impl_ElasticityOf.T4 : Bool × List (List Nat × List Nat) := (true, [([], []), ([], []), ([1], [1]), ([2], [2]), ([0, 3], [0, 3]), ([4], [4]), ([], []), ([6], [6]), ([7], [7]), ([5, 8], [5, 8]), ([9], [9]), ([9], [9]), ([10, 9, 0, 1, 2, 3, 4, 5, 6, 7, 8, 9, 10, 11], [10]), ([11, 12, 0, 1, 2, 3, 4, 5, 6, 7, 8, 9, 10, 11, 12], [11])])
def impl_ElasticityOf.B4 : List Nat := [0, 0, 2, 6, 15, 31, 0, 64, 192, 511, 1023, 1023, 4095, 8191]
theorem impl_ElasticityOf.tab4 : rtab .any (opsOf Try.f32 4) = impl_ElasticityOf.T4 := by kernel_rfl
theorem impl_ElasticityOf.bits4 : waitsOk impl_ElasticityOf.T4.2 impl_ElasticityOf.B4 = true := by kernel_rfl
set_option maxHeartbeats 8000000 in
set_option maxRecDepth 100000 in
theorem impl_ElasticityOf.calls (k : Nat) (A0_0 : Option Addr) (c0_0 : Nat) (l0_0 : List Int) (a1 : Int) (r1 : Int) (r2 : Int) (w : World) (hr0_0 : Kd.C (Kd.int .i64) w A0_0 l0_0.length l0_0) (hc0_0 : l0_0.length ≤ c0_0) (h : impl_ElasticityOf.f k l0_0 a1 = some (r1, r2)) :
  Calls Try.prog 32 #[.agg #[.slice A0_0 l0_0.length c0_0], .int .i64 a1] w fun e w' => e = .returned (.tuple #[.int .i64 r1, .int .i64 r2]) ∧ Below w.heap.size w w' := by
 have hu27 := Try.underlying27
 have HR0_0 := Aside0.mk hr0_0
 have HC0_0 := Aside0.mk hc0_0
 clear hr0_0 hc0_0
 have HB := Aside0.mk (Below.refl w.heap.size w)
 have H : ((impl_LengthsOf.f k l0_0 a1).bind fun t585 => (if a1 = 0 then (some (0, 0)) else (if (t585.length : Int) = 0 then (some (0, 0)) else (if 0 ≤ (wrap64 ((t585.length : Int) - 1)) then (if (wrap64 ((t585.length : Int) - 1)) < (t585.length : Int) then (if 0 < (t585.length : Int) then ((impl_lowest.f k (rd t585 (wrap64 ((t585.length : Int) - 1))) (rd t585 0)).bind fun bt590 => (some (bt590.1, bt590.2))) else (none)) else (none)) else (none))))) = some (r1, r2) := h
 clear h
 replace H := ga H; obtain ⟨t585, A3, H⟩ := H
 by_cases c4 : a1 = 0
 ·rw [if_pos c4] at H
  have c4b0 : (a1 == 0) = true := beq_iff_eq.mpr c4
  have c4b1 : (a1 != 0) = false := bne_eq_false_iff_eq.mpr c4
  clear c4
  simp only [Option.some.injEq, Prod.mk.injEq] at H
  obtain ⟨rfl, rfl⟩ := H
  go_enter Try.func32, Try.ntmps32
  go_wp2_with (first | ((with_reducible refine gate_dst (N := 2) rfl ?_); (try (refine gate_guard (by rfl) ?_; dsimp only)); refine bx 2 #[.slice A0_0 l0_0.length c0_0] 27 ?_; intro gb584 hg w5 hbox hb; have BK584 := Aside0.mk (hbox); have GW584 := Aside0.mk (gs hg : w.heap.size ≤ gb584); have GE584 := Aside0.mk (gs hg : w.heap.size ≤ gb584); replace HB := Aside0.mk (below_step bw hb); clear hb hbox hg; have hcz6_0 := bc BK584 0 (.slice A0_0 l0_0.length c0_0); have hfz6_0 := blk_frozen BK584.out 0) | ((with_reducible refine gate_callee (f := 28) rfl ?_); refine gl (some 9) Try.func28 #[.agg #[.slice A0_0 l0_0.length c0_0], .int .i64 a1] ?_; (with_reducible refine (impl_LengthsOf.calls k _ _ l0_0 a1 t585 _ ?side1 ?side2 A3.out).mono ?_); (case side1 => exact co (Kd.C_below HR0_0.out HB.out)); (case side2 => exact HC0_0.out); rintro e w7 ⟨v586, rfl, ho0, hb⟩; refine ⟨_, rfl, ?_⟩; have HO587 := Aside0.mk (Kd.R_lower ho0 (below_size bw)); replace BK584 := Aside0.mk (blk_below (g := gb584) (o := .cells #[.slice A0_0 l0_0.length c0_0] 27 (0, 0)) (bo BK584.out) hb); replace HB := Aside0.mk (below_step bw hb); clear hb ho0))
  go_ret2
  exact ⟨re, bw⟩
 ·rw [if_neg c4] at H
  have c4b0 : (a1 == 0) = false := beq_eq_false_iff_ne.mpr c4
  have c4b1 : (a1 != 0) = true := bne_iff_ne.mpr c4
  by_cases c8 : (t585.length : Int) = 0
  ·rw [if_pos c8] at H
   have c8b0 : ((t585.length : Int) == 0) = true := beq_iff_eq.mpr c8
   have c8b1 : ((t585.length : Int) != 0) = false := bne_eq_false_iff_eq.mpr c8
   clear c8
   simp only [Option.some.injEq, Prod.mk.injEq] at H
   obtain ⟨rfl, rfl⟩ := H
   go_enter Try.func32, Try.ntmps32
   go_wp2_with (first | ((with_reducible refine gate_dst (N := 2) rfl ?_); (try (refine gate_guard (by rfl) ?_; dsimp only)); refine bx 2 #[.slice A0_0 l0_0.length c0_0] 27 ?_; intro gb584 hg w9 hbox hb; have BK584 := Aside0.mk (hbox); have GW584 := Aside0.mk (gs hg : w.heap.size ≤ gb584); have GE584 := Aside0.mk (gs hg : w.heap.size ≤ gb584); replace HB := Aside0.mk (below_step bw hb); clear hb hbox hg; have hcz10_0 := bc BK584 0 (.slice A0_0 l0_0.length c0_0); have hfz10_0 := blk_frozen BK584.out 0) | ((with_reducible refine gate_callee (f := 28) rfl ?_); refine gl (some 9) Try.func28 #[.agg #[.slice A0_0 l0_0.length c0_0], .int .i64 a1] ?_; (with_reducible refine (impl_LengthsOf.calls k _ _ l0_0 a1 t585 _ ?side1 ?side2 A3.out).mono ?_); (case side1 => exact co (Kd.C_below HR0_0.out HB.out)); (case side2 => exact HC0_0.out); rintro e w11 ⟨v586, rfl, ho0, hb⟩; refine ⟨_, rfl, ?_⟩; have HO587 := Aside0.mk (Kd.R_lower ho0 (below_size bw)); replace BK584 := Aside0.mk (blk_below (g := gb584) (o := .cells #[.slice A0_0 l0_0.length c0_0] 27 (0, 0)) (bo BK584.out) hb); replace HB := Aside0.mk (below_step bw hb); clear hb ho0; obtain ⟨Ao12, co12, eo12⟩ := Kd.R_slice HO587.out; subst eo12))
   go_ret2
   exact ⟨re, bw⟩
  ·rw [if_neg c8] at H
   have c8b0 : ((t585.length : Int) == 0) = false := beq_eq_false_iff_ne.mpr c8
   have c8b1 : ((t585.length : Int) != 0) = true := bne_iff_ne.mpr c8
   have c8b2 : ¬ (t585 = []) := fun h_ => c8 (by rw [h_]; rfl)
   obtain ⟨ji13, hji13⟩ : ∃ j_ : Int, (wrap64 ((t585.length : Int) - 1)) = j_ := ⟨_, rfl⟩
   replace H : (if 0 ≤ (ji13) then (if (ji13) < (t585.length : Int) then (if 0 < (t585.length : Int) then ((impl_lowest.f k (rd t585 (ji13)) (rd t585 0)).bind fun bt590 => (some (bt590.1, bt590.2))) else (none)) else (none)) else (none)) = some (r1, r2) := by first | (rw [hji13] at H; exact H) | (simp only [hji13] at H ⊢; exact H)
   (try rw [hji13] at A3)
   have hji13w : (IntKind.i64.wrap ((t585.length : Int) - 1)) = ji13 := (i64_w _).trans hji13
   replace H := gd H; obtain ⟨c14b0, H⟩ := H
   replace H := gd H; obtain ⟨c15b0, H⟩ := H
   replace H := gp H; obtain ⟨c16, H⟩ := H
   have c16b0 : decide (0 < (t585.length : Int)) = true := decide_eq_true c16
   have c16b1 : decide (0 < t585.length) = true := decide_eq_true (by omega)
   clear c16
   replace H := ga H; obtain ⟨⟨t590, t591⟩, A17, H⟩ := H
   replace H : (some (t590, t591)) = some (r1, r2) := H
   simp only [Option.some.injEq, Prod.mk.injEq] at H
   obtain ⟨rfl, rfl⟩ := H
   go_enter Try.func32, Try.ntmps32
   try go_wp2_with (first | ((with_reducible refine gate_dst (N := 2) rfl ?_); (try (refine gate_guard (by rfl) ?_; dsimp only)); refine bx 2 #[.slice A0_0 l0_0.length c0_0] 27 ?_; intro gb584 hg w18 hbox hb; have BK584 := Aside0.mk (hbox); have GW584 := Aside0.mk (gs hg : w.heap.size ≤ gb584); have GE584 := Aside0.mk (gs hg : w.heap.size ≤ gb584); replace HB := Aside0.mk (below_step bw hb); clear hb hbox hg; have hcz19_0 := bc BK584 0 (.slice A0_0 l0_0.length c0_0); have hfz19_0 := blk_frozen BK584.out 0) | ((with_reducible refine gate_callee (f := 28) rfl ?_); refine gl (some 9) Try.func28 #[.agg #[.slice A0_0 l0_0.length c0_0], .int .i64 a1] ?_; (with_reducible refine (impl_LengthsOf.calls k _ _ l0_0 a1 t585 _ ?side1 ?side2 A3.out).mono ?_); (case side1 => exact co (Kd.C_below HR0_0.out HB.out)); (case side2 => exact HC0_0.out); rintro e w20 ⟨v586, rfl, ho0, hb⟩; refine ⟨_, rfl, ?_⟩; have HO587 := Aside0.mk (Kd.R_lower ho0 (below_size bw)); replace BK584 := Aside0.mk (blk_below (g := gb584) (o := .cells #[.slice A0_0 l0_0.length c0_0] 27 (0, 0)) (bo BK584.out) hb); replace HB := Aside0.mk (below_step bw hb); clear hb ho0; obtain ⟨Ao21, co21, eo21⟩ := Kd.R_slice HO587.out; subst eo21))
   replace HO587 := Aside0.mk (Kd.R_drew HO587.out)
   replace BK584 := Aside0.mk (blk_drew BK584.out)
   replace HB := Aside0.mk (below_drew1 HB.out)
   obtain ⟨⟨ad588, e588, hx588_0⟩, p588, q588⟩ := pq (Kd.at_int (Kd.R_reads' HO587.out).2.2 (ji13))
   cases e588
   have p589 : 0 ≤ (0 : Int) := (by omega)
   have q589 : 0 < (t585.length : Int) := of_decide_eq_true (by first | (with_reducible assumption) | assumption)
   obtain ⟨ad589, e589, hx589_0⟩ := Kd.at_int (Kd.R_reads' HO587.out).2.2 0 p589 q589
   obtain rfl : ad588 = ad589 := (by injection e589)
   have qi589 : (0 < t585.length) = True := eq_true (by omega)
   (try rw [show ((0 : Int)).toNat = 0 from rfl] at hx589_0)
   (try rw [Addr.add_zero'] at hx589_0)
   replace p589 := eq_true p589
   replace q589 := eq_true q589
   refine start_ (n := 14) (S := fun w' => w'.cell? (ad588.add ((ji13)).toNat) = some (.int .i64 (rd t585 (ji13))) ∧ w'.cell? ad588 = some (.int .i64 (rd t585 0))) (ds := []) #[Z,Z,Z,Z,Z,Z,Z,Z,Z,Z,Z,Z,Z,Z] (by kernel_rfl) rfl rfl ⟨hx588_0, hx589_0⟩ (fun hHeld => ?_); refine with_tabW impl_ElasticityOf.tab4 impl_ElasticityOf.bits4 (fun HT_ HW_ => ?_)
   generalize w20.drew = w22 at HO587 BK584 HB hx588_0 hx589_0 hHeld ⊢
   refine pa 0 (some 17) #[Y,Z,Z,Z,Z,Z,Z,Z,Z,Z,Z,Z,Z,Z] HT_ ?_
   refine pa 1 (some 18) #[Y,Y,Z,Z,Z,Z,Z,Z,Z,Z,Z,Z,Z,Z] HT_ ?_
   refine pa 2 (some 19) #[Y,Y,Y,Z,Z,Z,Z,Z,Z,Z,Z,Z,Z,Z] HT_ ?_
   refine pa 3 (some 20) #[Y,Y,Y,Y,Z,Z,Z,Z,Z,Z,Z,Z,Z,Z] HT_ ?_
   refine pa 4 (some 21) #[Y,Y,Y,Y,Y,Z,Z,Z,Z,Z,Z,Z,Z,Z] HT_ ?_
   refine pa 6 (some 23) #[Y,Y,Y,Y,Y,Z,Y,Z,Z,Z,Z,Z,Z,Z] HT_ ?_
   refine pa 7 (some 24) #[Y,Y,Y,Y,Y,Z,Y,Y,Z,Z,Z,Z,Z,Z] HT_ ?_
   refine take_ (i := 5) (N := some 22) (v := ?_) (a' := ?_) #[Y,Y,Y,Y,Y,Y,Y,Y,Z,Z,Z,Z,Z,Z] rfl rfl (take_ofW HT_.out HW_.out (by kernel_rfl)) (fun _ _ _ h => h) (Or.inl ⟨by rfl, ?_⟩) hHeld ?_ ?_
   rotate_left
   ·rintro w' ⟨s0, s1⟩
    go_simp
    with_reducible rfl
   rotate_left
   ·simp only [Act.put, qa, qb, qc, i64_w, i32_w]
    rfl
   refine take_ (i := 8) (N := some 25) (v := ?_) (a' := ?_) #[Y,Y,Y,Y,Y,Y,Y,Y,Y,Z,Z,Z,Z,Z] rfl rfl (take_ofW HT_.out HW_.out (by kernel_rfl)) (fun _ _ _ h => h) (Or.inl ⟨by rfl, ?_⟩) hHeld ?_ ?_
   rotate_left
   ·rintro w' ⟨s0, s1⟩
    go_simp
    with_reducible rfl
   rotate_left
   ·simp only [Act.put, qa, qb, qc, i64_w, i32_w]
    rfl
   refine oa 9 (some 26) #[Y,Y,Y,Y,Y,Y,Y,Y,Y,Y,Z,Z,Z,Z] HT_ (fun K hK => ?_)
   refine goes_ Try.func66 (by kernel_rfl) rfl #[.int .i64 (rd t585 (ji13)), .int .i64 (rd t585 0)] (by rfl) rfl rfl (by (try simp only [List.map_toArray, List.map_cons, List.map_nil]); first | done | (simp only [hji13]; rfl) | rfl | (simp only [List.length_drop, List.length_take]; rfl)) ?_
   with_reducible refine (impl_lowest.calls k (rd t585 (ji13)) (rd t585 0) t590 t591 _ A17.out).mono ?_
   rintro e w23 ⟨rfl, hb⟩
   have HS0_ := (hb.cell (World.block_lt_of_cell? _ _ (hHeld.1))).trans (hHeld.1)
   have HS1_ := (hb.cell (World.block_lt_of_cell? _ _ (hHeld.2))).trans (hHeld.2)
   refine ⟨_, rfl, ?_⟩
   replace HO587 := Aside0.mk (Kd.R_below (ro HO587.out) hb)
   replace BK584 := Aside0.mk (blk_below (g := gb584) (o := .cells #[.slice A0_0 l0_0.length c0_0] 27 (0, 0)) (bo BK584.out) hb)
   replace HB := Aside0.mk (below_step bw hb)
   clear hb
   refine hK.out _ _ ⟨HS0_, HS1_⟩ (fun hHeld => ?_)
   clear hK K
   refine norm_ (a' := ?_) ?_ ?_
   rotate_left
   ·show Act.put _ (some 26) _ = _
    simp only [Act.put, qa, qb, qc, i64_w, i32_w]
    rfl
   refine pa 10 (some 27) #[Y,Y,Y,Y,Y,Y,Y,Y,Y,Y,Y,Z,Z,Z] HT_ ?_
   refine pa 11 (some 28) #[Y,Y,Y,Y,Y,Y,Y,Y,Y,Y,Y,Y,Z,Z] HT_ ?_
   refine pa 12 (some 4) #[Y,Y,Y,Y,Y,Y,Y,Y,Y,Y,Y,Y,Y,Z] HT_ ?_
   refine pa 13 (some 5) #[Y,Y,Y,Y,Y,Y,Y,Y,Y,Y,Y,Y,Y,Y] HT_ ?_
   refine done_ (done_of HT_.out (by kernel_rfl)) ?_
   try go_wp2
   go_ret2
   exact ⟨by first | rfl | (simp [errW_none, errW_some] <;> rfl) | (simp only [← hji13]; first | rfl | (simp [errW_none, errW_some] <;> rfl)) | (simp [*, errW_none, errW_some] <;> rfl), bw⟩


/-! ### laws_FnExactElasticityOf: function 7 -/
def laws_FnExactElasticityOf.j0 : Nat → Bool → List Int → List Int → Option (Bool)
 | 0, _, _, _ => none
 | k + 1, x38, x593000, x603000 => if x38 = true then (some false) else ((laws_toSemigroup.f k x593000).bind fun t605 => ((laws_eqSemigroup.f k x603000 t605).bind fun t608 => (if t608 = true then (some true) else (some false))))
def laws_FnExactElasticityOf.f (k : Nat) (l0_0 : List Int) (a1 : Int) : Option (Bool) := (laws_szSemigroup.f l0_0 1048576).bind fun t593 => (if t593 < 0 then (some true) else ((laws_toSemigroup.f k l0_0).bind fun t594 => ((spec_ElasticityOf.f k t594 a1).bind fun bt597 => ((laws_toSemigroup.f k l0_0).bind fun t599 => ((impl_ElasticityOf.f k t599 a1).bind fun bt603 => (if bt603.1 = bt597.1 then (laws_FnExactElasticityOf.j0 k (bt603.2 != bt597.2) l0_0 t599) else (laws_FnExactElasticityOf.j0 k true l0_0 t599)))))))
set_option maxHeartbeats 8000000 in
set_option maxRecDepth 100000 in
theorem laws_FnExactElasticityOf.calls (k : Nat) (A0_0 : Option Addr) (c0_0 : Nat) (l0_0 : List Int) (a1 : Int) (w : World) (hr0_0 : Kd.C (Kd.int .i64) w A0_0 l0_0.length l0_0) (hc0_0 : l0_0.length ≤ c0_0) (h : laws_FnExactElasticityOf.f k l0_0 a1 = some true) :
  Calls Try.prog 7 #[.agg #[.slice A0_0 l0_0.length c0_0], .int .i64 a1] w fun e w' => e = .returned (.bool true) ∧ Below w.heap.size w w' := by
 have hu24 := Try.underlying24
 have hu27 := Try.underlying27
 have HR0_0 := Aside0.mk hr0_0
 have HC0_0 := Aside0.mk hc0_0
 clear hr0_0 hc0_0
 have HB := Aside0.mk (Below.refl w.heap.size w)
 have H : ((laws_szSemigroup.f l0_0 1048576).bind fun t593 => (if t593 < 0 then (some true) else ((laws_toSemigroup.f k l0_0).bind fun t594 => ((spec_ElasticityOf.f k t594 a1).bind fun bt597 => ((laws_toSemigroup.f k l0_0).bind fun t599 => ((impl_ElasticityOf.f k t599 a1).bind fun bt603 => (if bt603.1 = bt597.1 then (laws_FnExactElasticityOf.j0 k (bt603.2 != bt597.2) l0_0 t599) else (laws_FnExactElasticityOf.j0 k true l0_0 t599)))))))) = some true := h
 clear h
 replace H := ga H; obtain ⟨t593, A3, H⟩ := H
 replace H := gi H; obtain ⟨c4b0, H⟩ | ⟨c4b0, H⟩ := H
 ·skip
  go_enter Try.func7, Try.ntmps7
  go_wp2_with (first | ((with_reducible refine gate_dst (N := 2) rfl ?_); refine bx 2 #[.slice A0_0 l0_0.length c0_0] 24 ?_; intro gb592 hg w5 hbox hb; have BK592 := Aside0.mk (hbox); have GW592 := Aside0.mk (gs hg : w.heap.size ≤ gb592); have GE592 := Aside0.mk (gs hg : w.heap.size ≤ gb592); replace HB := Aside0.mk (below_step bw hb); clear hb hbox hg; have hcz6_0 := bc BK592 0 (.slice A0_0 l0_0.length c0_0); have hfz6_0 := blk_frozen BK592.out 0) | ((with_reducible refine gate_callee (f := 15) rfl ?_); refine gl (some 13) Try.func15 #[.agg #[.slice A0_0 l0_0.length c0_0], .int .i64 1048576] ?_; (with_reducible refine (laws_szSemigroup.calls _ _ l0_0 1048576 t593 _ ?side1 ?side2 A3.out).mono ?_); (case side1 => exact co (Kd.C_below HR0_0.out HB.out)); (case side2 => exact HC0_0.out); rintro e w7 ⟨rfl, hb⟩; refine ⟨_, rfl, ?_⟩; replace BK592 := Aside0.mk (blk_below (g := gb592) (o := .cells #[.slice A0_0 l0_0.length c0_0] 24 (0, 0)) (bo BK592.out) hb); replace HB := Aside0.mk (below_step bw hb); clear hb))
  go_ret
  exact ⟨re, bw⟩
 ·replace H := ga H; obtain ⟨t594, A8, H⟩ := H
  replace H := ga H; obtain ⟨⟨t597, t598⟩, A9, H⟩ := H
  replace H : ((laws_toSemigroup.f k l0_0).bind fun t599 => ((impl_ElasticityOf.f k t599 a1).bind fun bt603 => (if bt603.1 = t597 then (laws_FnExactElasticityOf.j0 k (bt603.2 != t598) l0_0 t599) else (laws_FnExactElasticityOf.j0 k true l0_0 t599)))) = some true := H
  replace H := ga H; obtain ⟨t599, A10, H⟩ := H
  replace H := ga H; obtain ⟨⟨t603, t604⟩, A11, H⟩ := H
  replace H : (if t603 = t597 then (laws_FnExactElasticityOf.j0 k (t604 != t598) l0_0 t599) else (laws_FnExactElasticityOf.j0 k true l0_0 t599)) = some true := H
  have HC12 := Aside0.mk H
  clear H
  go_enter Try.func7, Try.ntmps7
  go_upto_region 8 with (first | ((with_reducible refine gate_dst (N := 2) rfl ?_); refine bx 2 #[.slice A0_0 l0_0.length c0_0] 24 ?_; intro gb592 hg w13 hbox hb; have BK592 := Aside0.mk (hbox); have GW592 := Aside0.mk (gs hg : w.heap.size ≤ gb592); have GE592 := Aside0.mk (gs hg : w.heap.size ≤ gb592); replace HB := Aside0.mk (below_step bw hb); clear hb hbox hg; have hcz14_0 := bc BK592 0 (.slice A0_0 l0_0.length c0_0); have hfz14_0 := blk_frozen BK592.out 0) | ((with_reducible refine gate_callee (f := 15) rfl ?_); refine gl (some 13) Try.func15 #[.agg #[.slice A0_0 l0_0.length c0_0], .int .i64 1048576] ?_; (with_reducible refine (laws_szSemigroup.calls _ _ l0_0 1048576 t593 _ ?side1 ?side2 A3.out).mono ?_); (case side1 => exact co (Kd.C_below HR0_0.out HB.out)); (case side2 => exact HC0_0.out); rintro e w15 ⟨rfl, hb⟩; refine ⟨_, rfl, ?_⟩; replace BK592 := Aside0.mk (blk_below (g := gb592) (o := .cells #[.slice A0_0 l0_0.length c0_0] 24 (0, 0)) (bo BK592.out) hb); replace HB := Aside0.mk (below_step bw hb); clear hb; have hcz16_0 := bc BK592 0 (.slice A0_0 l0_0.length c0_0); have hfz16_0 := blk_frozen BK592.out 0) | ((with_reducible refine gate_callee (f := 17) rfl ?_); refine gl (some 18) Try.func17 #[.agg #[.slice A0_0 l0_0.length c0_0]] ?_; (with_reducible refine (laws_toSemigroup.calls k _ _ l0_0 t594 _ ?side1 ?side2 A8.out).mono ?_); (case side1 => exact co (Kd.C_below HR0_0.out HB.out)); (case side2 => exact HC0_0.out); rintro e w17 ⟨v595, rfl, ho0, hb⟩; refine ⟨_, rfl, ?_⟩; have HO596 := Aside0.mk (Kd.R_lower ho0 (below_size bw)); replace BK592 := Aside0.mk (blk_below (g := gb592) (o := .cells #[.slice A0_0 l0_0.length c0_0] 24 (0, 0)) (bo BK592.out) hb); replace HB := Aside0.mk (below_step bw hb); clear hb ho0; obtain ⟨Ao18, co18, eo18⟩ := Kd.R_slice HO596.out; subst eo18) | ((with_reducible refine gate_callee (f := 31) rfl ?_); refine gl (some 20) Try.func31 #[.agg #[.slice Ao18 t594.length co18], .int .i64 a1] ?_; (with_reducible refine (spec_ElasticityOf.calls k _ _ t594 a1 t597 t598 _ ?side1 ?side2 A9.out).mono ?_); (case side1 => exact co (Kd.R_reads' HO596.out).2.2); (case side2 => exact (Kd.R_reads' HO596.out).2.1); rintro e w19 ⟨rfl, hb⟩; refine ⟨_, rfl, ?_⟩; replace HO596 := Aside0.mk (Kd.R_below (ro HO596.out) hb); replace BK592 := Aside0.mk (blk_below (g := gb592) (o := .cells #[.slice A0_0 l0_0.length c0_0] 24 (0, 0)) (bo BK592.out) hb); replace HB := Aside0.mk (below_step bw hb); clear hb; have hcz20_0 := bc BK592 0 (.slice A0_0 l0_0.length c0_0); have hfz20_0 := blk_frozen BK592.out 0) | ((with_reducible refine gate_callee (f := 17) rfl ?_); refine gl (some 24) Try.func17 #[.agg #[.slice A0_0 l0_0.length c0_0]] ?_; (with_reducible refine (laws_toSemigroup.calls k _ _ l0_0 t599 _ ?side1 ?side2 A10.out).mono ?_); (case side1 => exact co (Kd.C_below HR0_0.out HB.out)); (case side2 => exact HC0_0.out); rintro e w21 ⟨v600, rfl, ho0, hb⟩; refine ⟨_, rfl, ?_⟩; have HO601 := Aside0.mk (Kd.R_lower (Kd.R_new' ho0 (Kd.R_lt (ro HO596.out))) (below_size bw)); replace HO596 := Aside0.mk (Kd.R_elder' (ro HO596.out) (Kd.R_base ho0) hb); replace BK592 := Aside0.mk (blk_below (g := gb592) (o := .cells #[.slice A0_0 l0_0.length c0_0] 24 (0, 0)) (bo BK592.out) hb); replace HB := Aside0.mk (below_step bw hb); clear hb ho0) | ((with_reducible refine gate_dst (N := 8) rfl ?_); refine bx 8 #[.slice none 0 0] 27 ?_; intro gb602 hg w22 hbox hb; replace HO596 := Aside0.mk (Kd.R_below (ro HO596.out) hb); replace HO601 := Aside0.mk (Kd.R_below (ro HO601.out) hb); have BK602 := Aside0.mk (hbox); have GW602 := Aside0.mk (gs hg : w.heap.size ≤ gb602); have GE602 := Aside0.mk (gs hg : w.heap.size ≤ gb602); replace HB := Aside0.mk (below_step bw hb); have NB592_602 := Aside0.mk ((by rw [hg]; exact Nat.ne_of_lt (blk_lt (g := gb592) (o := .cells #[.slice A0_0 l0_0.length c0_0] 24 (0, 0)) (bo BK592.out)) : gb592 ≠ gb602)); have NB602_592 := Aside0.mk ((by rw [hg]; exact Nat.ne_of_gt (blk_lt (g := gb592) (o := .cells #[.slice A0_0 l0_0.length c0_0] 24 (0, 0)) (bo BK592.out)) : gb602 ≠ gb592)); replace BK592 := Aside0.mk (blk_below (g := gb592) (o := .cells #[.slice A0_0 l0_0.length c0_0] 24 (0, 0)) (bo BK592.out) hb); clear hb hbox hg; obtain ⟨Ao23, co23, eo23⟩ := Kd.R_slice HO601.out; subst eo23; have hnb24 := NB602_592.out; have hnc24 := NB592_602.out; have hcz25_0 := bc BK602 0 (.slice none 0 0); have hfz25_0 := blk_frozen BK602.out 0) | ((with_reducible refine gate_callee (f := 32) rfl ?_); refine gl (some 28) Try.func32 #[.agg #[.slice Ao23 t599.length co23], .int .i64 a1] ?_; (with_reducible refine (impl_ElasticityOf.calls k _ _ t599 a1 t603 t604 _ ?side1 ?side2 A11.out).mono ?_); (case side1 => refine (Kd.R_reads' (e := 3) (base := w.heap.size) (ok := fun k_ => (True ∧ some k_ ≠ (.slice Ao18 t594.length co18 : Value).ownBlock)) (n := t599.length) (c := co23) ?_).2.2; exact (by (with_reducible repeat (first | apply Kd.R_alloc | apply Kd.R_drewN | apply Kd.R_drew)); exact (Kd.R_mono (Kd.R_far (p := ⟨gb602, 0, none⟩) (Kd.R_types HO601.out BK602.out (by decide)) (fun _ hk => hk.2) (.slice Ao23 t599.length co23)) (fun _ h_ => h_.1)))); (case side2 => exact (Kd.R_reads' HO601.out).2.1); rintro e w26 ⟨rfl, hb⟩; refine ⟨_, rfl, ?_⟩; replace HO596 := Aside0.mk (Kd.R_below (by (with_reducible repeat (first | apply Kd.R_alloc | apply Kd.R_drewN | apply Kd.R_drew)); exact (Kd.R_mono (Kd.R_far (p := ⟨gb602, 0, none⟩) (Kd.R_types HO596.out BK602.out (by decide)) (fun _ hk => hk.2) (.slice Ao23 t599.length co23)) (fun _ h_ => h_.1))) hb); replace HO601 := Aside0.mk (Kd.R_below (by (with_reducible repeat (first | apply Kd.R_alloc | apply Kd.R_drewN | apply Kd.R_drew)); exact (Kd.R_mono (Kd.R_far (p := ⟨gb602, 0, none⟩) (Kd.R_types HO601.out BK602.out (by decide)) (fun _ hk => hk.2) (.slice Ao23 t599.length co23)) (fun _ h_ => h_.1))) hb); replace BK592 := Aside0.mk (blk_below (g := gb592) (o := .cells #[.slice A0_0 l0_0.length c0_0] 24 (0, 0)) (by (with_reducible repeat (first | refine blk_drewN ?_ _ | refine blk_drew ?_ | refine blk_alloc ?_ _)); refine blk_far ?_ NB592_602.out _; (with_reducible repeat (first | refine blk_drewN ?_ _ | refine blk_drew ?_ | refine blk_alloc ?_ _)); exact BK592.out) hb); replace BK602 := Aside0.mk (blk_below (g := gb602) (o := .cells #[.slice Ao23 t599.length co23] 27 (0, 0)) (by (with_reducible repeat (first | refine blk_drewN ?_ _ | refine blk_drew ?_ | refine blk_alloc ?_ _)); refine blk_put (cs := #[.slice none 0 0]) ?_ 0 _ rfl; (with_reducible repeat (first | refine blk_drewN ?_ _ | refine blk_drew ?_ | refine blk_alloc ?_ _)); exact BK602.out) hb); replace HB := Aside0.mk (below_step bw hb); clear hb))
  (try simp only [Act.put, List.setIfInBounds_toArray, List.set_cons_zero, List.set_cons_succ])
  go_cut [38] (fun v38 wc => ∃ (kq : Nat) (x38_11 : Bool), v38 = .bool x38_11 ∧ Aside0 (laws_FnExactElasticityOf.j0 kq x38_11 l0_0 t599 = some true) ∧ Aside0 (kq ≤ k) ∧ Aside0 (Kd.R (Kd.int .i64) 3 wc w.heap.size (fun _ => True) (.slice Ao23 t599.length co23) t599) ∧ Aside0 (wc.heap[gb592]? = some (.cells #[(.slice A0_0 l0_0.length c0_0)] 24 (0, 0))) ∧ Aside0 (wc.heap[gb602]? = some (.cells #[(.slice Ao23 t599.length co23)] 27 (0, 0))) ∧ Aside0 (Below w.heap.size w wc))
  case first =>
   have H := HC12.out
   clear HC12
   by_cases c27 : t603 = t597
   ·rw [if_pos c27] at H
    have c27b0 : (t603 == t597) = true := beq_iff_eq.mpr c27
    have c27b1 : (t603 != t597) = false := bne_eq_false_iff_eq.mpr c27
    clear c27
    (first | rw [c27b0] | (simp only [i64_w, i32_w]; rw [c27b0]) | skip)
    have H' := Aside0.mk H
    clear H
    go_wp2
    go_meet
    case rel => exact ⟨_, ((t604 != t598)), rr, H', ⟨om⟩, ⟨by (with_reducible repeat (first | apply Kd.R_alloc | apply Kd.R_drewN | apply Kd.R_drew)); exact Kd.R_mono HO601.out (fun _ hk => trivial)⟩, ⟨bo BK592.out⟩, ⟨bo BK602.out⟩, ⟨bw⟩⟩
   ·rw [if_neg c27] at H
    have c27b0 : (t603 == t597) = false := beq_eq_false_iff_ne.mpr c27
    have c27b1 : (t603 != t597) = true := bne_iff_ne.mpr c27
    (first | rw [c27b0] | (simp only [i64_w, i32_w]; rw [c27b0]) | skip)
    have H' := Aside0.mk H
    clear H
    go_wp2
    go_meet
    case rel => exact ⟨_, (true), rr, H', ⟨om⟩, ⟨by (with_reducible repeat (first | apply Kd.R_alloc | apply Kd.R_drewN | apply Kd.R_drew)); exact Kd.R_mono HO601.out (fun _ hk => trivial)⟩, ⟨bo BK592.out⟩, ⟨bo BK602.out⟩, ⟨bw⟩⟩
  case rest =>
   clear HC12
   try clear c4b0; try clear c27; try clear c27b0; try clear c27b1; try clear hcz14_0; try clear hcz16_0; try clear hcz20_0; try clear hcz25_0; try clear hcz6_0; try clear hfz14_0; try clear hfz16_0; try clear hfz20_0; try clear hfz25_0; try clear hfz6_0
   obtain ⟨kq, x38_11, rfl, HA, HJ11, HO_603000, BK592, BK602, HB⟩ := hcut
   cases kq with
   | zero => exact absurd HA.out (by simp [laws_FnExactElasticityOf.j0])
   | succ kj11 =>
    have H := HA.out
    clear HA
    simp only [laws_FnExactElasticityOf.j0] at H
    replace H := gb H; obtain ⟨rfl, H⟩ | ⟨rfl, H⟩ := H
    ·exact absurd (Option.some.inj H) (by decide)
    ·replace H := ga H; obtain ⟨t605, A29, H⟩ := H
     replace H := ga H; obtain ⟨t608, A30, H⟩ := H
     by_cases c31 : t608 = true
     ·subst c31
      have H1 : (some true) = some true := rfl
      clear H
      have H := H1
      clear H1
      skip
      try go_wp2
      replace HO_603000 := Aside0.mk (Kd.R_drew HO_603000.out)
      replace BK592 := Aside0.mk (blk_drew BK592.out)
      replace BK602 := Aside0.mk (blk_drew BK602.out)
      replace HB := Aside0.mk (below_drew1 HB.out)
      refine start_ (n := 5) (S := fun w' => w'.cell? ⟨gb602, 0, none⟩ = some (.slice Ao23 t599.length co23) ∧ w'.cell? ⟨gb592, 0, none⟩ = some (.slice A0_0 l0_0.length c0_0)) (ds := []) #[Z,Z,Z,Z,Z] (by kernel_rfl) rfl rfl ⟨(blk_cell BK602.out 0).trans rfl, (blk_cell BK592.out 0).trans rfl⟩ (fun hHeld => ?_)
      generalize wc.drew = w32 at HO_603000 BK592 BK602 HB hHeld ⊢
      refine take_ (i := 0) (N := some 39) (v := ?_) (a' := ?_) #[Y,Z,Z,Z,Z] rfl rfl (by kernel_rfl) (fun _ _ _ h => h) (Or.inl ⟨by rfl, ?_⟩) hHeld ?_ ?_
      rotate_left
      ·rintro w' ⟨s0, s1⟩
       go_simp
       with_reducible rfl
      rotate_left
      ·simp only [Act.put, qa, qb, qc, i64_w, i32_w]
       rfl
      refine take_ (i := 1) (N := some 40) (v := ?_) (a' := ?_) #[Y,Y,Z,Z,Z] rfl rfl (by kernel_rfl) (fun _ _ _ h => h) (Or.inl ⟨by rfl, ?_⟩) hHeld ?_ ?_
      rotate_left
      ·rintro w' ⟨s0, s1⟩
       go_simp
       with_reducible rfl
      rotate_left
      ·simp only [Act.put, qa, qb, qc, i64_w, i32_w]
       rfl
      refine one_ (i := 2) (N := some 41) #[Y,Y,Y,Z,Z] rfl rfl (by kernel_rfl) (by decide) (fun K hK => ?_)
      refine gm Try.func17 #[.agg #[.slice A0_0 l0_0.length c0_0]] ?_
      with_reducible refine (laws_toSemigroup.calls kj11 _ _ l0_0 t605 _ ?side1 ?side2 A29.out).mono ?_
      (case side1 => exact co (Kd.C_below HR0_0.out HB.out))
      (case side2 => exact HC0_0.out)
      rintro e w33 ⟨v606, rfl, ho0, hb⟩
      refine ⟨_, rfl, ?_⟩
      have HO607 := Aside0.mk (Kd.R_lower (Kd.R_new' ho0 (Kd.R_lt (ro HO_603000.out))) (below_size bw))
      replace HO_603000 := Aside0.mk (Kd.R_elder' (ro HO_603000.out) (Kd.R_base ho0) hb)
      replace BK592 := Aside0.mk (blk_below (g := gb592) (o := .cells #[.slice A0_0 l0_0.length c0_0] 24 (0, 0)) (bo BK592.out) hb)
      replace BK602 := Aside0.mk (blk_below (g := gb602) (o := .cells #[.slice Ao23 t599.length co23] 27 (0, 0)) (bo BK602.out) hb)
      replace HB := Aside0.mk (below_step bw hb)
      clear hb ho0
      obtain ⟨Ao34, co34, eo34⟩ := Kd.R_slice HO607.out
      (first | subst eo34 | (injection eo34 with f1_ f2_ f3_; have f4_ := f1_.symm; have f5_ := f3_.symm; clear f1_ f2_ f3_; subst f4_; subst f5_))
      refine hK.out _ _ ⟨(blk_cell BK602.out 0).trans rfl, (blk_cell BK592.out 0).trans rfl⟩ (fun hHeld => ?_)
      clear hK K
      refine norm_ (a' := ?_) ?_ ?_
      rotate_left
      ·show Act.put _ (some 41) _ = _
       simp only [Act.put, qa, qb, qc, i64_w, i32_w]
       rfl
      refine one_ (i := 3) (N := some 42) #[Y,Y,Y,Y,Z] rfl rfl (by kernel_rfl) (by decide) (fun K hK => ?_)
      refine gm Try.func21 #[.agg #[.slice Ao23 t599.length co23], .agg #[.slice Ao34 t605.length co34]] ?_
      with_reducible refine (laws_eqSemigroup.calls kj11 _ _ t599 _ _ t605 true _ ?side1 ?side2 ?side3 ?side4 A30.out).mono ?_
      (case side1 => exact co (Kd.R_reads' HO_603000.out).2.2)
      (case side2 => exact (Kd.R_reads' HO_603000.out).2.1)
      (case side3 => exact co (Kd.R_reads' HO607.out).2.2)
      (case side4 => exact (Kd.R_reads' HO607.out).2.1)
      rintro e w35 ⟨rfl, hb⟩
      refine ⟨_, rfl, ?_⟩
      replace HO_603000 := Aside0.mk (Kd.R_below (ro HO_603000.out) hb)
      replace HO607 := Aside0.mk (Kd.R_below (ro HO607.out) hb)
      replace BK592 := Aside0.mk (blk_below (g := gb592) (o := .cells #[.slice A0_0 l0_0.length c0_0] 24 (0, 0)) (bo BK592.out) hb)
      replace BK602 := Aside0.mk (blk_below (g := gb602) (o := .cells #[.slice Ao23 t599.length co23] 27 (0, 0)) (bo BK602.out) hb)
      replace HB := Aside0.mk (below_step bw hb)
      clear hb
      refine hK.out _ _ ⟨(blk_cell BK602.out 0).trans rfl, (blk_cell BK592.out 0).trans rfl⟩ (fun hHeld => ?_)
      clear hK K
      refine norm_ (a' := ?_) ?_ ?_
      rotate_left
      ·show Act.put _ (some 42) _ = _
       simp only [Act.put, qa, qb, qc, i64_w, i32_w]
       rfl
      refine pure_ (i := 4) (N := some 43) (v := ?_) (a' := ?_) #[Y,Y,Y,Y,Y] rfl rfl (by kernel_rfl) (fun _ _ _ h => h) (Or.inl ⟨by rfl, ?_⟩) ?_ ?_
      rotate_left
      ·intro w'
       go_simp
       with_reducible rfl
      rotate_left
      ·simp only [Act.put, qa, qb, qc, i64_w, i32_w]
       rfl
      refine done_ (by kernel_rfl) ?_
      try go_wp2
      go_ret
      exact ⟨re, bw⟩
     ·replace c31 := Bool.eq_false_iff.mpr c31
      subst c31
      have H1 : (some false) = some true := by rw [if_neg (show ¬ (false = true) by decide)] at H; exact H
      clear H
      have H := H1
      clear H1
      exact absurd (Option.some.inj H) (by decide)
end Go.Proofs.Ytiejmnnnjmmifaa.C
