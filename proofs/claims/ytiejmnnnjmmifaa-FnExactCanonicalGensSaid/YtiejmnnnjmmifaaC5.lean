/- Contracts of functions of the program: spec_FrobeniusOf, spec_HasNumber, spec_PseudoFrobenius, spec_CanonicalGens, impl_within, impl_allWithin, impl_IsAscending, impl_GcdOf, impl_GcdOfList. -/
import Derived.Test.YtiejmnnnjmmifaaC0
import Derived.Test.YtiejmnnnjmmifaaC2
import Derived.Test.YtiejmnnnjmmifaaC4
namespace Go.Proofs.Ytiejmnnnjmmifaa.C
open Go.RowKit Go.Proofs.YtiejmnnnjmmifaaW.PrintWords Go.Proofs.YtiejmnnnjmmifaaW.PrintLast Go.Proofs.YtiejmnnnjmmifaaW.PrintMore
attribute [local go_sem] max2_int min2_int max_two min_two max_three min_three max_four min_four
set_option linter.unusedVariables false
set_option linter.unusedSimpArgs false

/-! ### spec_FrobeniusOf: function 73 -/
def spec_FrobeniusOf.f (k : Nat) (l0_0 : List Int) : Option (Int) := (spec_Gaps.f k l0_0).bind fun t251 => (if (t251.length : Int) = 0 then (some (-1)) else (if 0 ≤ (wrap64 ((t251.length : Int) - 1)) then (if (wrap64 ((t251.length : Int) - 1)) < (t251.length : Int) then (some (rd t251 (wrap64 ((t251.length : Int) - 1)))) else (none)) else (none)))
set_option maxHeartbeats 8000000 in
set_option maxRecDepth 100000 in
theorem spec_FrobeniusOf.calls (k : Nat) (A0_0 : Option Addr) (c0_0 : Nat) (l0_0 : List Int) (r : Int) (w : World) (hr0_0 : Kd.C (Kd.int .i64) w A0_0 l0_0.length l0_0) (hc0_0 : l0_0.length ≤ c0_0) (h : spec_FrobeniusOf.f k l0_0 = some r) :
  Calls Try.prog 73 #[.agg #[.slice A0_0 l0_0.length c0_0]] w fun e w' => e = .returned (.int .i64 r) ∧ Below w.heap.size w w' := by
 have hu27 := Try.underlying27
 have HR0_0 := Aside0.mk hr0_0
 have HC0_0 := Aside0.mk hc0_0
 clear hr0_0 hc0_0
 have HB := Aside0.mk (Below.refl w.heap.size w)
 have H : ((spec_Gaps.f k l0_0).bind fun t251 => (if (t251.length : Int) = 0 then (some (-1)) else (if 0 ≤ (wrap64 ((t251.length : Int) - 1)) then (if (wrap64 ((t251.length : Int) - 1)) < (t251.length : Int) then (some (rd t251 (wrap64 ((t251.length : Int) - 1)))) else (none)) else (none)))) = some r := h
 clear h
 replace H := ga H; obtain ⟨t251, A2, H⟩ := H
 by_cases c3 : (t251.length : Int) = 0
 ·rw [if_pos c3] at H
  have c3b0 : ((t251.length : Int) == 0) = true := beq_iff_eq.mpr c3
  have c3b1 : ((t251.length : Int) != 0) = false := bne_eq_false_iff_eq.mpr c3
  clear c3
  obtain rfl := Option.some.inj H
  go_enter Try.func73, Try.ntmps73
  go_wp2_with (first | ((with_reducible refine gate_dst (N := 1) rfl ?_); refine bx 1 #[.slice A0_0 l0_0.length c0_0] 27 ?_; intro gb250 hg w4 hbox hb; have BK250 := Aside0.mk (hbox); have GW250 := Aside0.mk (gs hg : w.heap.size ≤ gb250); have GE250 := Aside0.mk (gs hg : w.heap.size ≤ gb250); replace HB := Aside0.mk (below_step bw hb); clear hb hbox hg; have hcz5_0 := bc BK250 0 (.slice A0_0 l0_0.length c0_0); have hfz5_0 := blk_frozen BK250.out 0) | ((with_reducible refine gate_callee (f := 112) rfl ?_); refine gl (some 5) Try.func112 #[.agg #[.slice A0_0 l0_0.length c0_0]] ?_; (with_reducible refine (spec_Gaps.calls k _ _ l0_0 t251 _ ?side1 ?side2 A2.out).mono ?_); (case side1 => exact co (Kd.C_below HR0_0.out HB.out)); (case side2 => exact HC0_0.out); rintro e w6 ⟨v252, rfl, ho0, hb⟩; refine ⟨_, rfl, ?_⟩; have HO253 := Aside0.mk (Kd.R_lower ho0 (below_size bw)); replace BK250 := Aside0.mk (blk_below (g := gb250) (o := .cells #[.slice A0_0 l0_0.length c0_0] 27 (0, 0)) (bo BK250.out) hb); replace HB := Aside0.mk (below_step bw hb); clear hb ho0; obtain ⟨Ao7, co7, eo7⟩ := Kd.R_slice HO253.out; subst eo7))
  go_ret
  exact ⟨re, bw⟩
 ·rw [if_neg c3] at H
  have c3b0 : ((t251.length : Int) == 0) = false := beq_eq_false_iff_ne.mpr c3
  have c3b1 : ((t251.length : Int) != 0) = true := bne_iff_ne.mpr c3
  have c3b2 : ¬ (t251 = []) := fun h_ => c3 (by rw [h_]; rfl)
  obtain ⟨ji8, hji8⟩ : ∃ j_ : Int, (wrap64 ((t251.length : Int) - 1)) = j_ := ⟨_, rfl⟩
  replace H : (if 0 ≤ (ji8) then (if (ji8) < (t251.length : Int) then (some (rd t251 (ji8))) else (none)) else (none)) = some r := by first | (rw [hji8] at H; exact H) | (simp only [hji8] at H ⊢; exact H)
  (try rw [hji8] at A2)
  have hji8w : (IntKind.i64.wrap ((t251.length : Int) - 1)) = ji8 := (i64_w _).trans hji8
  replace H := gd H; obtain ⟨c9b0, H⟩ := H
  replace H := gd H; obtain ⟨c10b0, H⟩ := H
  obtain rfl := Option.some.inj H
  go_enter Try.func73, Try.ntmps73
  go_wp2_with (first | ((with_reducible refine gate_dst (N := 1) rfl ?_); refine bx 1 #[.slice A0_0 l0_0.length c0_0] 27 ?_; intro gb250 hg w11 hbox hb; have BK250 := Aside0.mk (hbox); have GW250 := Aside0.mk (gs hg : w.heap.size ≤ gb250); have GE250 := Aside0.mk (gs hg : w.heap.size ≤ gb250); replace HB := Aside0.mk (below_step bw hb); clear hb hbox hg; have hcz12_0 := bc BK250 0 (.slice A0_0 l0_0.length c0_0); have hfz12_0 := blk_frozen BK250.out 0) | ((with_reducible refine gate_callee (f := 112) rfl ?_); refine gl (some 5) Try.func112 #[.agg #[.slice A0_0 l0_0.length c0_0]] ?_; (with_reducible refine (spec_Gaps.calls k _ _ l0_0 t251 _ ?side1 ?side2 A2.out).mono ?_); (case side1 => exact co (Kd.C_below HR0_0.out HB.out)); (case side2 => exact HC0_0.out); rintro e w13 ⟨v252, rfl, ho0, hb⟩; refine ⟨_, rfl, ?_⟩; have HO253 := Aside0.mk (Kd.R_lower ho0 (below_size bw)); replace BK250 := Aside0.mk (blk_below (g := gb250) (o := .cells #[.slice A0_0 l0_0.length c0_0] 27 (0, 0)) (bo BK250.out) hb); replace HB := Aside0.mk (below_step bw hb); clear hb ho0; obtain ⟨Ao14, co14, eo14⟩ := Kd.R_slice HO253.out; subst eo14; have p254 : 0 ≤ ((ji8) : Int) := of_decide_eq_true (by first | (with_reducible assumption) | assumption); have q254 : (ji8) < (t251.length : Int) := of_decide_eq_true (by first | (with_reducible assumption) | assumption); obtain ⟨ad254, e254, hx254_0⟩ := Kd.at_int (Kd.R_reads' HO253.out).2.2 (ji8) p254 q254; cases e254; replace p254 := eq_true p254; replace q254 := eq_true q254))
  go_ret
  exact ⟨by first | rfl | (simp [errW_none, errW_some] <;> rfl) | (simp only [← hji8]; first | rfl | (simp [errW_none, errW_some] <;> rfl)) | (simp [*, errW_none, errW_some] <;> rfl), bw⟩


/-! ### spec_HasNumber: function 56 -/
def spec_HasNumber.l0 : Nat → List Int → Int → Int → Option (Bool)
 | 0, _, _, _ => none
 | k + 1, x0, x1, x5 => if x5 < (x0.length : Int) then (if 0 ≤ x5 then (if (rd x0 x5) = x1 then (some true) else (spec_HasNumber.l0 k x0 x1 (wrap64 (x5 + 1)))) else (none)) else (some false)
def spec_HasNumber.f (k : Nat) (l0 : List Int) (a1 : Int) : Option (Bool) := spec_HasNumber.l0 k l0 a1 0
set_option maxHeartbeats 8000000 in
set_option maxRecDepth 100000 in
theorem spec_HasNumber.calls (k : Nat) (A0 : Option Addr) (c0 : Nat) (l0 : List Int) (a1 : Int) (r : Bool) (w : World) (hr0 : Kd.C (Kd.int .i64) w A0 l0.length l0) (hc0 : l0.length ≤ c0) (h : spec_HasNumber.f k l0 a1 = some r) :
  Calls Try.prog 56 #[.slice A0 l0.length c0, .int .i64 a1] w fun e w' => e = .returned (.bool r) ∧ Drawn0 w w' := by
 have HR0 := Aside0.mk hr0
 have HC0 := Aside0.mk hc0
 clear hr0 hc0
 have H : (spec_HasNumber.l0 k l0 a1 0) = some r := h
 clear h
 have H' := Aside0.mk H
 clear H
 go_enter Try.func56, Try.ntmps56
 go_wp2
 go_loopg [5] k (fun kq v5 w' => ∃ (x5_1 : Int), v5 = .int .i64 x5_1 ∧ Aside0 (spec_HasNumber.l0 kq l0 a1 x5_1 = some r) ∧ Aside0 (kq ≤ k) ∧ Drawn0 w w')
 case atStart => exact ⟨(0), rr, H', ⟨Nat.le_refl _⟩, dw⟩
 case round =>
  clear H'
  obtain ⟨x5_1, rfl, HA, HK1, ⟨m1, rfl⟩⟩ := hrel
  cases gk with
  | zero => exact absurd HA.out (by simp [spec_HasNumber.l0])
  | succ k1 =>
   have H := HA.out
   clear HA
   simp only [spec_HasNumber.l0] at H
   replace H := gi H; obtain ⟨c3b0, H⟩ | ⟨c3b0, H⟩ := H
   ·replace H := gd H; obtain ⟨c4b0, H⟩ := H
    by_cases c5 : (rd l0 x5_1) = a1
    ·rw [if_pos c5] at H
     have c5b0 : ((rd l0 x5_1) == a1) = true := beq_iff_eq.mpr c5
     have c5b1 : ((rd l0 x5_1) != a1) = false := bne_eq_false_iff_eq.mpr c5
     clear c5
     obtain rfl := Option.some.inj H
     obtain ⟨⟨ad255, e255, hx255_0⟩, p255, q255⟩ := pq (Kd.at_int HR0.out x5_1)
     cases e255
     go_wp2
     go_ret
     exact ⟨rr, dw⟩
    ·rw [if_neg c5] at H
     have c5b0 : ((rd l0 x5_1) == a1) = false := beq_eq_false_iff_ne.mpr c5
     have c5b1 : ((rd l0 x5_1) != a1) = true := bne_iff_ne.mpr c5
     have H' := Aside0.mk H
     clear H
     obtain ⟨⟨ad255, e255, hx255_0⟩, p255, q255⟩ := pq (Kd.at_int HR0.out x5_1)
     cases e255
     go_wp2
     go_roundg k1
     case measure => have := HK1.out; omega
     case rel => exact ⟨(wrap64 (x5_1 + 1)), rr, H', ⟨by have := HK1.out; omega⟩, dw⟩
   ·obtain rfl := Option.some.inj H
    go_wp2
    go_ret
    exact ⟨rr, dw⟩


/-! ### spec_PseudoFrobenius: function 74 -/
mutual
def spec_PseudoFrobenius.l0 : Nat → List Int → List Int → Int → List Int → Option (List Int)
 | 0, _, _, _, _ => none
 | k + 1, x3, x4, x5, x257000 => if x5 < (x4.length : Int) then (spec_PseudoFrobenius.l1 k x3 x4 x5 true 0 x257000) else (some x3)
def spec_PseudoFrobenius.l1 : Nat → List Int → List Int → Int → Bool → Int → List Int → Option (List Int)
 | 0, _, _, _, _, _, _ => none
 | k + 1, x3, x4, x5, x6, x7, x257000 => if x7 < (x257000.length : Int) then (if x6 = true then (if 0 ≤ x5 then (if x5 < (x4.length : Int) then (if 0 ≤ x7 then ((spec_HasNumber.f k x4 (wrap64 ((rd x4 x5) + (rd x257000 x7)))).bind fun t265 => (spec_PseudoFrobenius.l1 k x3 x4 x5 (!t265) (wrap64 (x7 + 1)) x257000)) else (none)) else (none)) else (none)) else (spec_PseudoFrobenius.l1 k x3 x4 x5 false (wrap64 (x7 + 1)) x257000)) else (if x6 = true then (if 0 ≤ x5 then (if x5 < (x4.length : Int) then (if x3.length < 17592186044416 then (spec_PseudoFrobenius.l0 k (x3 ++ [rd x4 x5]) x4 (wrap64 (x5 + 1)) x257000) else (none)) else (none)) else (none)) else (spec_PseudoFrobenius.l0 k x3 x4 (wrap64 (x5 + 1)) x257000))
end
def spec_PseudoFrobenius.f (k : Nat) (l0_0 : List Int) : Option (List Int) := (spec_Gaps.f k l0_0).bind fun t260 => (spec_PseudoFrobenius.l0 k (([] : List Int)) t260 0 l0_0)
set_option maxHeartbeats 8000000 in
set_option maxRecDepth 100000 in
theorem spec_PseudoFrobenius.calls (k : Nat) (A0_0 : Option Addr) (c0_0 : Nat) (l0_0 : List Int) (r : List Int) (w : World) (hr0_0 : Kd.C (Kd.int .i64) w A0_0 l0_0.length l0_0) (hc0_0 : l0_0.length ≤ c0_0) (h : spec_PseudoFrobenius.f k l0_0 = some r) :
  Calls Try.prog 74 #[.agg #[.slice A0_0 l0_0.length c0_0]] w fun e w' => ∃ v0_ : Value, e = .returned (v0_) ∧ Kd.R (Kd.int .i64) 3 w' w.heap.size (fun _ => True) v0_ r ∧ Below w.heap.size w w' := by
 have hu27 := Try.underlying27
 have HR0_0 := Aside0.mk hr0_0
 have HC0_0 := Aside0.mk hc0_0
 clear hr0_0 hc0_0
 have HB := Aside0.mk (Below.refl w.heap.size w)
 have H : ((spec_Gaps.f k l0_0).bind fun t260 => (spec_PseudoFrobenius.l0 k (([] : List Int)) t260 0 l0_0)) = some r := h
 clear h
 obtain ⟨y257, hy257⟩ : ∃ y_ : List Int, y_ = (([] : List Int)) := ⟨_, rfl⟩
 replace H : ((spec_Gaps.f k l0_0).bind fun t260 => (spec_PseudoFrobenius.l0 k y257 t260 0 l0_0)) = some r := by first | (rw [hy257]; with_reducible exact H) | (have H2_ := (Option.bind_some _ _).symm.trans H; rw [hy257]; with_reducible exact H2_) | (have H2_ := (Option.bind_some _ _).symm.trans H; with_reducible exact H2_) | with_reducible exact H | (rw [hy257]; exact H) | exact H
 have Ny257 := Aside0.mk hy257
 clear hy257
 replace H := ga H; obtain ⟨t260, A2, H⟩ := H
 have H' := Aside0.mk H
 clear H
 go_enter Try.func74, Try.ntmps74
 go_wp2_with (first | ((with_reducible refine gate_dst (N := 1) rfl ?_); refine bx 1 #[.slice A0_0 l0_0.length c0_0] 27 ?_; intro gb256 hg w3 hbox hb; have BK256 := Aside0.mk (hbox); have GW256 := Aside0.mk (gs hg : w.heap.size ≤ gb256); have GE256 := Aside0.mk (gs hg : w.heap.size ≤ gb256); replace HB := Aside0.mk (below_step bw hb); clear hb hbox hg) | ((with_reducible refine gate_dst (N := 8) rfl ?_); refine Kd.R_lit (Kd.int .i64) _ 3 ?hg (N := 8) ?hd (xs := ([] : List Int)) (inner := []) (ok := fun _ => True) (okp := fun _ => True) ?hr ?hp (fun _ hk => hk) trivial (Below.refl _ _) (Nat.le_refl _) (by simp) ?_; (case hd => rfl); (case hg => rfl); (case hr => first | (go_simp; done) | (go_simp; rfl)); (case hp => exact (Reps.none _ _)); intro v258 w4 ho5 hb hg_ hnew_; clear hg_ hnew_; (first | rw [← Ny257.out] at ho5 | (simp only [Int.reduceToNat] at ho5; rw [← Ny257.out] at ho5)); have HO259 := Aside0.mk (Kd.R_lower ho5 (below_size bw)); replace BK256 := Aside0.mk (blk_below (g := gb256) (o := .cells #[.slice A0_0 l0_0.length c0_0] 27 (0, 0)) (bo BK256.out) hb); replace HB := Aside0.mk (below_step bw hb); clear hb ho5; have hcz6_0 := bc BK256 0 (.slice A0_0 l0_0.length c0_0); have hfz6_0 := blk_frozen BK256.out 0) | (go_at_call 112; (with_reducible refine (spec_Gaps.calls k _ _ l0_0 t260 _ ?side1 ?side2 A2.out).mono ?_); (case side1 => exact co (Kd.C_below HR0_0.out HB.out)); (case side2 => exact HC0_0.out); rintro e w7 ⟨v261, rfl, ho0, hb⟩; have HO262 := Aside0.mk (Kd.R_lower (Kd.R_new' ho0 (Kd.R_lt (ro HO259.out))) (below_size bw)); replace HO259 := Aside0.mk (Kd.R_elder' (ro HO259.out) (Kd.R_base ho0) hb); replace BK256 := Aside0.mk (blk_below (g := gb256) (o := .cells #[.slice A0_0 l0_0.length c0_0] 27 (0, 0)) (bo BK256.out) hb); replace HB := Aside0.mk (below_step bw hb); clear hb ho0))
 repeat (go_quiet (first | ((with_reducible refine gate_dst (N := 1) rfl ?_); refine bx 1 #[.slice A0_0 l0_0.length c0_0] 27 ?_; intro gb256 hg w3 hbox hb; have n0_ := Aside0.mk (below_step bw hb); have n1_ := Aside0.mk (hbox); have n2_ := Aside0.mk (gs hg : w.heap.size ≤ gb256); have n3_ := Aside0.mk (gs hg : w.heap.size ≤ gb256); clear HB; have HB := n0_; have BK256 := n1_; have GW256 := n2_; have GE256 := n3_; clear n0_ n1_ n2_ n3_; clear hb hbox hg) | ((with_reducible refine gate_dst (N := 8) rfl ?_); refine Kd.R_lit (Kd.int .i64) _ 3 ?hg (N := 8) ?hd (xs := ([] : List Int)) (inner := []) (ok := fun _ => True) (okp := fun _ => True) ?hr ?hp (fun _ hk => hk) trivial (Below.refl _ _) (Nat.le_refl _) (by simp) ?_; (case hd => rfl); (case hg => rfl); (case hr => first | (go_simp; done) | (go_simp; rfl)); (case hp => exact (Reps.none _ _)); intro v258 w4 ho5 hb hg_ hnew_; clear hg_ hnew_; (first | rw [← Ny257.out] at ho5 | (simp only [Int.reduceToNat] at ho5; rw [← Ny257.out] at ho5)); have n0_ := Aside0.mk (Kd.R_lower ho5 (below_size bw)); have n1_ := Aside0.mk (blk_below (g := gb256) (o := .cells #[.slice A0_0 l0_0.length c0_0] 27 (0, 0)) (bo BK256.out) hb); have n2_ := Aside0.mk (below_step bw hb); clear BK256; clear HB; have HO259 := n0_; have BK256 := n1_; have HB := n2_; clear n0_ n1_ n2_; clear hb ho5; have hcz6_0 := bc BK256 0 (.slice A0_0 l0_0.length c0_0); have hfz6_0 := blk_frozen BK256.out 0) | (go_at_call 112; (with_reducible refine (spec_Gaps.calls k _ _ l0_0 t260 _ ?side1 ?side2 A2.out).mono ?_); (case side1 => exact co (Kd.C_below HR0_0.out HB.out)); (case side2 => exact HC0_0.out); rintro e w7 ⟨v261, rfl, ho0, hb⟩; have n0_ := Aside0.mk (Kd.R_elder' (ro HO259.out) (Kd.R_base ho0) hb); have n1_ := Aside0.mk (Kd.R_lower (Kd.R_new' ho0 (Kd.R_lt (ro HO259.out))) (below_size bw)); have n2_ := Aside0.mk (blk_below (g := gb256) (o := .cells #[.slice A0_0 l0_0.length c0_0] 27 (0, 0)) (bo BK256.out) hb); have n3_ := Aside0.mk (below_step bw hb); clear HO259; clear BK256; clear HB; have HO259 := n0_; have HO262 := n1_; have BK256 := n2_; have HB := n3_; clear n0_ n1_ n2_ n3_; (try clear hb); (try clear hb2); (try clear hk); (try clear hi); (try clear ho0))); try go_wp2_with (first | ((with_reducible refine gate_dst (N := 1) rfl ?_); refine bx 1 #[.slice A0_0 l0_0.length c0_0] 27 ?_; intro gb256 hg w3 hbox hb; have n0_ := Aside0.mk (below_step bw hb); have n1_ := Aside0.mk (hbox); have n2_ := Aside0.mk (gs hg : w.heap.size ≤ gb256); have n3_ := Aside0.mk (gs hg : w.heap.size ≤ gb256); clear HB; have HB := n0_; have BK256 := n1_; have GW256 := n2_; have GE256 := n3_; clear n0_ n1_ n2_ n3_; clear hb hbox hg) | ((with_reducible refine gate_dst (N := 8) rfl ?_); refine Kd.R_lit (Kd.int .i64) _ 3 ?hg (N := 8) ?hd (xs := ([] : List Int)) (inner := []) (ok := fun _ => True) (okp := fun _ => True) ?hr ?hp (fun _ hk => hk) trivial (Below.refl _ _) (Nat.le_refl _) (by simp) ?_; (case hd => rfl); (case hg => rfl); (case hr => first | (go_simp; done) | (go_simp; rfl)); (case hp => exact (Reps.none _ _)); intro v258 w4 ho5 hb hg_ hnew_; clear hg_ hnew_; (first | rw [← Ny257.out] at ho5 | (simp only [Int.reduceToNat] at ho5; rw [← Ny257.out] at ho5)); have n0_ := Aside0.mk (Kd.R_lower ho5 (below_size bw)); have n1_ := Aside0.mk (blk_below (g := gb256) (o := .cells #[.slice A0_0 l0_0.length c0_0] 27 (0, 0)) (bo BK256.out) hb); have n2_ := Aside0.mk (below_step bw hb); clear BK256; clear HB; have HO259 := n0_; have BK256 := n1_; have HB := n2_; clear n0_ n1_ n2_; clear hb ho5; have hcz6_0 := bc BK256 0 (.slice A0_0 l0_0.length c0_0); have hfz6_0 := blk_frozen BK256.out 0) | (go_at_call 112; (with_reducible refine (spec_Gaps.calls k _ _ l0_0 t260 _ ?side1 ?side2 A2.out).mono ?_); (case side1 => exact co (Kd.C_below HR0_0.out HB.out)); (case side2 => exact HC0_0.out); rintro e w7 ⟨v261, rfl, ho0, hb⟩; have n0_ := Aside0.mk (Kd.R_elder' (ro HO259.out) (Kd.R_base ho0) hb); have n1_ := Aside0.mk (Kd.R_lower (Kd.R_new' ho0 (Kd.R_lt (ro HO259.out))) (below_size bw)); have n2_ := Aside0.mk (blk_below (g := gb256) (o := .cells #[.slice A0_0 l0_0.length c0_0] 27 (0, 0)) (bo BK256.out) hb); have n3_ := Aside0.mk (below_step bw hb); clear HO259; clear BK256; clear HB; have HO259 := n0_; have HO262 := n1_; have BK256 := n2_; have HB := n3_; clear n0_ n1_ n2_ n3_; (try clear hb); (try clear hb2); (try clear hk); (try clear hi); (try clear ho0))))
 go_loopg [3, 5] k (fun kq v3 v5 w' => ∃ (x3_1 : List Int) (x5_1 : Int), v5 = .int .i64 x5_1 ∧ Aside0 (spec_PseudoFrobenius.l0 kq x3_1 t260 x5_1 l0_0 = some r) ∧ Aside0 (kq ≤ k) ∧ Aside0 (Kd.R (Kd.int .i64) 3 w' w.heap.size (fun k_ => some k_ ≠ (v261 : Value).ownBlock) v3 x3_1) ∧ Aside0 (Kd.R (Kd.int .i64) 3 w' w.heap.size (fun k_ => some k_ ≠ (v3 : Value).ownBlock) v261 t260) ∧ Aside0 (w'.heap[gb256]? = some (.cells #[(.slice A0_0 l0_0.length c0_0)] 27 (0, 0))) ∧ Aside0 (Below w.heap.size w w'))
 case atStart => exact ⟨(y257), (0), rr, H', ⟨Nat.le_refl _⟩, ⟨by (with_reducible repeat (first | apply Kd.R_alloc | apply Kd.R_drewN | apply Kd.R_drew)); exact Kd.R_mono HO259.out (fun _ hk => hk.2)⟩, ⟨by (with_reducible repeat (first | apply Kd.R_alloc | apply Kd.R_drewN | apply Kd.R_drew)); exact Kd.R_mono HO262.out (fun _ hk => hk.2)⟩, ⟨bo BK256.out⟩, ⟨bw⟩⟩
 case round =>
  clear H'
  try clear hcz6_0; try clear hfz6_0
  obtain ⟨x3_1, x5_1, rfl, HA, HK1, HO_3, HO_4, BK256, HB⟩ := hrel
  cases gk with
  | zero => exact absurd HA.out (by simp [spec_PseudoFrobenius.l0])
  | succ k1 =>
   have H := HA.out
   clear HA
   simp only [spec_PseudoFrobenius.l0] at H
   replace H := gi H; obtain ⟨c8b0, H⟩ | ⟨c8b0, H⟩ := H
   ·have H' := Aside0.mk H
    clear H
    obtain ⟨Ao9, co9, eo9⟩ := Kd.R_slice HO_4.out
    subst eo9
    go_wp2
    repeat (go_quiet (fail); try go_wp2)
    go_loopg [6, 7] k1 (fun kq v6 v7 w' => ∃ (x6_2 : Bool) (x7_2 : Int), v6 = .bool x6_2 ∧ v7 = .int .i64 x7_2 ∧ Aside0 (spec_PseudoFrobenius.l1 kq x3_1 t260 x5_1 x6_2 x7_2 l0_0 = some r) ∧ Aside0 (kq ≤ k1) ∧ Aside0 (Kd.R (Kd.int .i64) 3 w' w.heap.size (fun k_ => some k_ ≠ ((.slice Ao9 t260.length co9) : Value).ownBlock) u3 x3_1) ∧ Aside0 (Kd.R (Kd.int .i64) 3 w' w.heap.size (fun k_ => some k_ ≠ (u3 : Value).ownBlock) (.slice Ao9 t260.length co9) t260) ∧ Aside0 (w'.heap[gb256]? = some (.cells #[(.slice A0_0 l0_0.length c0_0)] 27 (0, 0))) ∧ Aside0 (Below w.heap.size w w'))
    case atStart => exact ⟨(true), (0), rr, rr, H', ⟨Nat.le_refl _⟩, ⟨ro HO_3.out⟩, ⟨ro HO_4.out⟩, ⟨bo BK256.out⟩, ⟨bw⟩⟩
    case round =>
     clear H'
     try clear c8b0; try clear hcz6_0; try clear hfz6_0
     obtain ⟨x6_2, x7_2, rfl, rfl, HA, HK2, HO_3, HO_4, BK256, HB⟩ := hrel
     cases gk with
     | zero => exact absurd HA.out (by simp [spec_PseudoFrobenius.l1])
     | succ k2 =>
      have H := HA.out
      clear HA
      simp only [spec_PseudoFrobenius.l1] at H
      replace H := gi H; obtain ⟨c10b0, H⟩ | ⟨c10b0, H⟩ := H
      ·replace H := gb H; obtain ⟨rfl, H⟩ | ⟨rfl, H⟩ := H
       ·replace H := gd H; obtain ⟨c12b0, H⟩ := H
        replace H := gd H; obtain ⟨c13b0, H⟩ := H
        replace H := gd H; obtain ⟨c14b0, H⟩ := H
        replace H := ga H; obtain ⟨t265, A15, H⟩ := H
        have H' := Aside0.mk H
        clear H
        have hcz16_0 := bc BK256 0 (.slice A0_0 l0_0.length c0_0)
        have hfz16_0 := blk_frozen BK256.out 0
        obtain ⟨⟨ad263, e263, hx263_0⟩, p263, q263⟩ := pq (Kd.at_int (Kd.R_reads' HO_4.out).2.2 x5_1)
        cases e263
        obtain ⟨⟨ad264, e264, hx264_0⟩, p264, q264⟩ := pq (Kd.at_int HR0_0.out x7_2)
        cases e264
        replace hx264_0 := (HB.out.cell (World.block_lt_of_cell? w _ hx264_0)).trans hx264_0
        go_wp2_with (first | (go_at_call 56; (with_reducible refine (spec_HasNumber.calls k2 _ _ t260 (wrap64 ((rd t260 x5_1) + (rd l0_0 x7_2))) t265 _ ?side1 ?side2 A15.out).mono ?_); (case side1 => exact co (Kd.R_reads' HO_4.out).2.2); (case side2 => exact (Kd.R_reads' HO_4.out).2.1); rintro e w' ⟨rfl, ⟨nd, rfl⟩⟩; (try first | exact ⟨rfl, _, World.drewN_drewN _ _ _⟩ | exact ⟨rfl, _, Eq.trans (World.drewN_drewN _ _ _) (congrArg (World.drewN _) (Nat.add_assoc _ _ _))⟩)))
        repeat (go_quiet (first | (go_at_call 56; (with_reducible refine (spec_HasNumber.calls k2 _ _ t260 (wrap64 ((rd t260 x5_1) + (rd l0_0 x7_2))) t265 _ ?side1 ?side2 A15.out).mono ?_); (case side1 => exact co (Kd.R_reads' HO_4.out).2.2); (case side2 => exact (Kd.R_reads' HO_4.out).2.1); rintro e w' ⟨rfl, ⟨nd, rfl⟩⟩; (try first | exact ⟨rfl, _, World.drewN_drewN _ _ _⟩ | exact ⟨rfl, _, Eq.trans (World.drewN_drewN _ _ _) (congrArg (World.drewN _) (Nat.add_assoc _ _ _))⟩))); try go_wp2_with (first | (go_at_call 56; (with_reducible refine (spec_HasNumber.calls k2 _ _ t260 (wrap64 ((rd t260 x5_1) + (rd l0_0 x7_2))) t265 _ ?side1 ?side2 A15.out).mono ?_); (case side1 => exact co (Kd.R_reads' HO_4.out).2.2); (case side2 => exact (Kd.R_reads' HO_4.out).2.1); rintro e w' ⟨rfl, ⟨nd, rfl⟩⟩; (try first | exact ⟨rfl, _, World.drewN_drewN _ _ _⟩ | exact ⟨rfl, _, Eq.trans (World.drewN_drewN _ _ _) (congrArg (World.drewN _) (Nat.add_assoc _ _ _))⟩))))
        go_roundg k2
        case measure => have := HK1.out; have := HK2.out; omega
        case rel => exact ⟨(!t265), (wrap64 (x7_2 + 1)), rr, rr, H', ⟨by have := HK1.out; have := HK2.out; omega⟩, ⟨ro HO_3.out⟩, ⟨ro HO_4.out⟩, ⟨bo BK256.out⟩, ⟨bw⟩⟩
       ·have H' := Aside0.mk H
        clear H
        have hcz17_0 := bc BK256 0 (.slice A0_0 l0_0.length c0_0)
        have hfz17_0 := blk_frozen BK256.out 0
        go_wp2
        repeat (go_quiet (fail); try go_wp2)
        go_roundg k2
        case measure => have := HK1.out; have := HK2.out; omega
        case rel => exact ⟨(false), (wrap64 (x7_2 + 1)), rr, rr, H', ⟨by have := HK1.out; have := HK2.out; omega⟩, ⟨ro HO_3.out⟩, ⟨ro HO_4.out⟩, ⟨bo BK256.out⟩, ⟨bw⟩⟩
      ·replace H := gb H; obtain ⟨rfl, H⟩ | ⟨rfl, H⟩ := H
       ·replace H := gd H; obtain ⟨c19b0, H⟩ := H
        replace H := gd H; obtain ⟨c20b0, H⟩ := H
        by_cases c21 : x3_1.length < 17592186044416
        rotate_left
        ·rw [if_neg c21] at H
         exact absurd H (by simp)
        rw [if_pos c21] at H
        have LMc21 := Aside0.mk c21
        clear c21
        obtain ⟨y267, hy267⟩ : ∃ y_ : List Int, y_ = (x3_1 ++ [rd t260 x5_1]) := ⟨_, rfl⟩
        replace H : (spec_PseudoFrobenius.l0 k2 y267 t260 (wrap64 (x5_1 + 1)) l0_0) = some r := by first | (rw [hy267]; with_reducible exact H) | (have H2_ := (Option.bind_some _ _).symm.trans H; rw [hy267]; with_reducible exact H2_) | (have H2_ := (Option.bind_some _ _).symm.trans H; with_reducible exact H2_) | with_reducible exact H | (rw [hy267]; exact H) | exact H
        have Ny267 := Aside0.mk hy267
        clear hy267
        have H' := Aside0.mk H
        clear H
        have hcz22_0 := bc BK256 0 (.slice A0_0 l0_0.length c0_0)
        have hfz22_0 := blk_frozen BK256.out 0
        obtain ⟨⟨ad266, e266, hx266_0⟩, p266, q266⟩ := pq (Kd.at_int (Kd.R_reads' HO_4.out).2.2 x5_1)
        cases e266
        go_wp2_with (first | ((with_reducible refine gate_builtin (b := .append) (xs := #[.tmp 41, .tmp 46]) rfl ?_); at_builtin; refine Kd.R_append (Kd.int .i64) (w0 := w) w.heap.size rfl (.tmp 41) (.tmp 46) 22 3 (.int .i64 0) 8 rfl Try.underlying22 info3 rfl (by decide) (by omega) u3 x3_1 (rd t260 x5_1) [.int .i64 (rd t260 x5_1)] (fun k_ => some k_ ≠ (.slice (some ad266) t260.length co9 : Value).ownBlock) (fun _ => False) rfl rfl ?aP (fun _ hk => hk.elim) ?aF ?aO ?aB ?aS ?aL ?_; (case aP => exact rfl); (case aB => exact bw); (case aF => exact (fun k_ hk => Kd.fresh' (Kd.R_lt (ro HO_4.out)) k_ hk)); (case aO => exact (ro HO_3.out)); (case aS => exact (below_size bw)); (case aL => have := LMc21.out; omega); intro v268 w23 ho hb hg hat; rw [← Ny267.out] at ho; replace HO_4 := Aside0.mk (Kd.R_after (ok := (fun _ => True)) (by (with_reducible repeat (first | apply Kd.R_alloc | apply Kd.R_drewN | apply Kd.R_drew)); exact Kd.R_mono HO_4.out (fun _ hk => ⟨trivial, by first | exact hk | exact (by intro a n m c x h; cases a <;> exact h : ∀ (a : Option Addr) (n m c x : Nat), some x ≠ (Value.slice a n c).ownBlock → some x ≠ (Value.slice a m c).ownBlock) _ _ _ _ _ hk⟩)) hg hat); replace BK256 := Aside0.mk (blk_grown (g := gb256) (o := .cells #[.slice A0_0 l0_0.length c0_0] 27 (0, 0)) (bo BK256.out) hg (Kd.R_ne HO_3.out BK256.out (by decide))); replace HB := Aside0.mk (hb); have HO269 := Aside0.mk (ho); clear HO_3 ho hb hg hat))
        repeat (go_quiet (first | ((with_reducible refine gate_builtin (b := .append) (xs := #[.tmp 41, .tmp 46]) rfl ?_); at_builtin; refine Kd.R_append (Kd.int .i64) (w0 := w) w.heap.size rfl (.tmp 41) (.tmp 46) 22 3 (.int .i64 0) 8 rfl Try.underlying22 info3 rfl (by decide) (by omega) u3 x3_1 (rd t260 x5_1) [.int .i64 (rd t260 x5_1)] (fun k_ => some k_ ≠ (.slice (some ad266) t260.length co9 : Value).ownBlock) (fun _ => False) rfl rfl ?aP (fun _ hk => hk.elim) ?aF ?aO ?aB ?aS ?aL ?_; (case aP => exact rfl); (case aB => exact bw); (case aF => exact (fun k_ hk => Kd.fresh' (Kd.R_lt (ro HO_4.out)) k_ hk)); (case aO => exact (ro HO_3.out)); (case aS => exact (below_size bw)); (case aL => have := LMc21.out; omega); intro v268 w23 ho hb hg hat; rw [← Ny267.out] at ho; have n0_ := Aside0.mk (Kd.R_after (ok := (fun _ => True)) (by (with_reducible repeat (first | apply Kd.R_alloc | apply Kd.R_drewN | apply Kd.R_drew)); exact Kd.R_mono HO_4.out (fun _ hk => ⟨trivial, by first | exact hk | exact (by intro a n m c x h; cases a <;> exact h : ∀ (a : Option Addr) (n m c x : Nat), some x ≠ (Value.slice a n c).ownBlock → some x ≠ (Value.slice a m c).ownBlock) _ _ _ _ _ hk⟩)) hg hat); have n1_ := Aside0.mk (blk_grown (g := gb256) (o := .cells #[.slice A0_0 l0_0.length c0_0] 27 (0, 0)) (bo BK256.out) hg (Kd.R_ne HO_3.out BK256.out (by decide))); have n2_ := Aside0.mk (hb); have n3_ := Aside0.mk (ho); clear HO_4; clear BK256; clear HB; clear HO_3; have HO_4 := n0_; have BK256 := n1_; have HB := n2_; have HO269 := n3_; clear n0_ n1_ n2_ n3_; clear ho hb hg hat)); try go_wp2_with (first | ((with_reducible refine gate_builtin (b := .append) (xs := #[.tmp 41, .tmp 46]) rfl ?_); at_builtin; refine Kd.R_append (Kd.int .i64) (w0 := w) w.heap.size rfl (.tmp 41) (.tmp 46) 22 3 (.int .i64 0) 8 rfl Try.underlying22 info3 rfl (by decide) (by omega) u3 x3_1 (rd t260 x5_1) [.int .i64 (rd t260 x5_1)] (fun k_ => some k_ ≠ (.slice (some ad266) t260.length co9 : Value).ownBlock) (fun _ => False) rfl rfl ?aP (fun _ hk => hk.elim) ?aF ?aO ?aB ?aS ?aL ?_; (case aP => exact rfl); (case aB => exact bw); (case aF => exact (fun k_ hk => Kd.fresh' (Kd.R_lt (ro HO_4.out)) k_ hk)); (case aO => exact (ro HO_3.out)); (case aS => exact (below_size bw)); (case aL => have := LMc21.out; omega); intro v268 w23 ho hb hg hat; rw [← Ny267.out] at ho; have n0_ := Aside0.mk (Kd.R_after (ok := (fun _ => True)) (by (with_reducible repeat (first | apply Kd.R_alloc | apply Kd.R_drewN | apply Kd.R_drew)); exact Kd.R_mono HO_4.out (fun _ hk => ⟨trivial, by first | exact hk | exact (by intro a n m c x h; cases a <;> exact h : ∀ (a : Option Addr) (n m c x : Nat), some x ≠ (Value.slice a n c).ownBlock → some x ≠ (Value.slice a m c).ownBlock) _ _ _ _ _ hk⟩)) hg hat); have n1_ := Aside0.mk (blk_grown (g := gb256) (o := .cells #[.slice A0_0 l0_0.length c0_0] 27 (0, 0)) (bo BK256.out) hg (Kd.R_ne HO_3.out BK256.out (by decide))); have n2_ := Aside0.mk (hb); have n3_ := Aside0.mk (ho); clear HO_4; clear BK256; clear HB; clear HO_3; have HO_4 := n0_; have BK256 := n1_; have HB := n2_; have HO269 := n3_; clear n0_ n1_ n2_ n3_; clear ho hb hg hat)))
        go_roundg k2
        case measure => have := HK1.out; have := HK2.out; omega
        case rel => exact ⟨(y267), (wrap64 (x5_1 + 1)), rr, H', ⟨by have := HK1.out; have := HK2.out; omega⟩, ⟨ro HO269.out⟩, ⟨by (with_reducible repeat (first | apply Kd.R_alloc | apply Kd.R_drewN | apply Kd.R_drew)); exact Kd.R_mono HO_4.out (fun _ hk => hk.2)⟩, ⟨bo BK256.out⟩, ⟨bw⟩⟩
       ·have H' := Aside0.mk H
        clear H
        have hcz24_0 := bc BK256 0 (.slice A0_0 l0_0.length c0_0)
        have hfz24_0 := blk_frozen BK256.out 0
        go_wp2
        repeat (go_quiet (fail); try go_wp2)
        go_roundg k2
        case measure => have := HK1.out; have := HK2.out; omega
        case rel => exact ⟨(x3_1), (wrap64 (x5_1 + 1)), rr, H', ⟨by have := HK1.out; have := HK2.out; omega⟩, ⟨ro HO_3.out⟩, ⟨ro HO_4.out⟩, ⟨bo BK256.out⟩, ⟨bw⟩⟩
   ·obtain rfl := Option.some.inj H
    obtain ⟨Ao25, co25, eo25⟩ := Kd.R_slice HO_4.out
    subst eo25
    go_wp2
    repeat (go_quiet (fail); try go_wp2)
    go_ret
    exact ⟨_, re, by (with_reducible repeat (first | apply Kd.R_alloc | apply Kd.R_drewN | apply Kd.R_drew)); exact Kd.R_mono HO_3.out (fun _ hk => trivial), bw⟩


/-! ### spec_CanonicalGens: function 41 -/
def spec_CanonicalGens.l0 : Nat → Int → List Int → List Int → Int → Option (List Int)
 | 0, _, _, _, _ => none
 | k + 1, x3, x4, x5, x6 => if x6 < (x4.length : Int) then (if 0 ≤ x6 then (if x5.length < 17592186044416 then (spec_CanonicalGens.l0 k x3 x4 (x5 ++ [wrap64 (x3 - (rd x4 x6))]) (wrap64 (x6 + 1))) else (none)) else (none)) else ((spec_SortList.f k x5).bind fun t289 => (some t289))
def spec_CanonicalGens.f (k : Nat) (l0_0 : List Int) : Option (List Int) := (spec_IsSemigroup.f k l0_0).bind fun t271 => (if t271 = true then ((spec_FrobeniusOf.f k l0_0).bind fun t275 => ((spec_PseudoFrobenius.f k l0_0).bind fun t276 => (if (t276.length : Int) = 0 then (some (([0] : List Int))) else (spec_CanonicalGens.l0 k t275 t276 (([] : List Int)) 0)))) else (some (([] : List Int))))
set_option maxHeartbeats 8000000 in
set_option maxRecDepth 100000 in
theorem spec_CanonicalGens.calls (k : Nat) (A0_0 : Option Addr) (c0_0 : Nat) (l0_0 : List Int) (r : List Int) (w : World) (hr0_0 : Kd.C (Kd.int .i64) w A0_0 l0_0.length l0_0) (hc0_0 : l0_0.length ≤ c0_0) (h : spec_CanonicalGens.f k l0_0 = some r) :
  Calls Try.prog 41 #[.agg #[.slice A0_0 l0_0.length c0_0]] w fun e w' => ∃ v0_ : Value, e = .returned (v0_) ∧ Kd.R (Kd.int .i64) 3 w' w.heap.size (fun _ => True) v0_ r ∧ Below w.heap.size w w' := by
 have hu27 := Try.underlying27
 have HR0_0 := Aside0.mk hr0_0
 have HC0_0 := Aside0.mk hc0_0
 clear hr0_0 hc0_0
 have HB := Aside0.mk (Below.refl w.heap.size w)
 have H : ((spec_IsSemigroup.f k l0_0).bind fun t271 => (if t271 = true then ((spec_FrobeniusOf.f k l0_0).bind fun t275 => ((spec_PseudoFrobenius.f k l0_0).bind fun t276 => (if (t276.length : Int) = 0 then (some (([0] : List Int))) else (spec_CanonicalGens.l0 k t275 t276 (([] : List Int)) 0)))) else (some (([] : List Int))))) = some r := h
 clear h
 replace H := ga H; obtain ⟨t271, A2, H⟩ := H
 replace H := gb H; obtain ⟨rfl, H⟩ | ⟨rfl, H⟩ := H
 ·replace H := ga H; obtain ⟨t275, A4, H⟩ := H
  replace H := ga H; obtain ⟨t276, A5, H⟩ := H
  by_cases c6 : (t276.length : Int) = 0
  ·rw [if_pos c6] at H
   have c6b0 : ((t276.length : Int) == 0) = true := beq_iff_eq.mpr c6
   have c6b1 : ((t276.length : Int) != 0) = false := bne_eq_false_iff_eq.mpr c6
   clear c6
   obtain ⟨y279, hy279⟩ : ∃ y_ : List Int, y_ = (([0] : List Int)) := ⟨_, rfl⟩
   replace H : (some y279) = some r := by first | (rw [hy279]; with_reducible exact H) | (have H2_ := (Option.bind_some _ _).symm.trans H; rw [hy279]; with_reducible exact H2_) | (have H2_ := (Option.bind_some _ _).symm.trans H; with_reducible exact H2_) | with_reducible exact H | (rw [hy279]; exact H) | exact H
   have Ny279 := Aside0.mk hy279
   clear hy279
   obtain rfl := Option.some.inj H
   go_enter Try.func41, Try.ntmps41
   go_wp2_with (first | ((with_reducible refine gate_dst (N := 1) rfl ?_); refine bx 1 #[.slice A0_0 l0_0.length c0_0] 27 ?_; intro gb270 hg w7 hbox hb; have BK270 := Aside0.mk (hbox); have GW270 := Aside0.mk (gs hg : w.heap.size ≤ gb270); have GE270 := Aside0.mk (gs hg : w.heap.size ≤ gb270); replace HB := Aside0.mk (below_step bw hb); clear hb hbox hg; have hcz8_0 := bc BK270 0 (.slice A0_0 l0_0.length c0_0); have hfz8_0 := blk_frozen BK270.out 0) | ((with_reducible refine gate_callee (f := 71) rfl ?_); refine gl (some 8) Try.func71 #[.agg #[.slice A0_0 l0_0.length c0_0]] ?_; (with_reducible refine (spec_IsSemigroup.calls k _ _ l0_0 true _ ?side1 ?side2 A2.out).mono ?_); (case side1 => exact co (Kd.C_below HR0_0.out HB.out)); (case side2 => exact HC0_0.out); rintro e w9 ⟨rfl, hb⟩; refine ⟨_, rfl, ?_⟩; replace BK270 := Aside0.mk (blk_below (g := gb270) (o := .cells #[.slice A0_0 l0_0.length c0_0] 27 (0, 0)) (bo BK270.out) hb); replace HB := Aside0.mk (below_step bw hb); clear hb; have hcz10_0 := bc BK270 0 (.slice A0_0 l0_0.length c0_0); have hfz10_0 := blk_frozen BK270.out 0) | ((with_reducible refine gate_callee (f := 73) rfl ?_); refine gl (some 12) Try.func73 #[.agg #[.slice A0_0 l0_0.length c0_0]] ?_; (with_reducible refine (spec_FrobeniusOf.calls k _ _ l0_0 t275 _ ?side1 ?side2 A4.out).mono ?_); (case side1 => exact co (Kd.C_below HR0_0.out HB.out)); (case side2 => exact HC0_0.out); rintro e w11 ⟨rfl, hb⟩; refine ⟨_, rfl, ?_⟩; replace BK270 := Aside0.mk (blk_below (g := gb270) (o := .cells #[.slice A0_0 l0_0.length c0_0] 27 (0, 0)) (bo BK270.out) hb); replace HB := Aside0.mk (below_step bw hb); clear hb; have hcz12_0 := bc BK270 0 (.slice A0_0 l0_0.length c0_0); have hfz12_0 := blk_frozen BK270.out 0) | ((with_reducible refine gate_callee (f := 74) rfl ?_); refine gl (some 14) Try.func74 #[.agg #[.slice A0_0 l0_0.length c0_0]] ?_; (with_reducible refine (spec_PseudoFrobenius.calls k _ _ l0_0 t276 _ ?side1 ?side2 A5.out).mono ?_); (case side1 => exact co (Kd.C_below HR0_0.out HB.out)); (case side2 => exact HC0_0.out); rintro e w13 ⟨v277, rfl, ho0, hb⟩; refine ⟨_, rfl, ?_⟩; have HO278 := Aside0.mk (Kd.R_lower ho0 (below_size bw)); replace BK270 := Aside0.mk (blk_below (g := gb270) (o := .cells #[.slice A0_0 l0_0.length c0_0] 27 (0, 0)) (bo BK270.out) hb); replace HB := Aside0.mk (below_step bw hb); clear hb ho0; obtain ⟨Ao14, co14, eo14⟩ := Kd.R_slice HO278.out; subst eo14) | ((with_reducible refine gate_dst (N := 18) rfl ?_); refine Kd.R_lit (Kd.int .i64) _ 3 ?hg (N := 18) ?hd (xs := ([0] : List Int)) (inner := [.int .i64 0]) (ok := fun _ => True) (okp := fun _ => True) ?hr ?hp (fun _ hk => hk) trivial (Below.refl _ _) (Nat.le_refl _) (by simp) ?_; (case hd => rfl); (case hg => rfl); (case hr => first | (go_simp; done) | (go_simp; rfl)); (case hp => exact (Reps.one (show Kd.M (Kd.int .i64) _ _ _ 0 [.int .i64 0] from rfl) (Reps.none _ _))); intro v280 w15 ho16 hb hg_ hnew_; clear hg_ hnew_; (first | rw [← Ny279.out] at ho16 | (simp only [Int.reduceToNat] at ho16; rw [← Ny279.out] at ho16)); have HO281 := Aside0.mk (Kd.R_lower (Kd.R_new' ho16 (Kd.R_lt (ro HO278.out))) (below_size bw)); replace HO278 := Aside0.mk (Kd.R_elder' (ro HO278.out) (Kd.R_base ho16) hb); replace BK270 := Aside0.mk (blk_below (g := gb270) (o := .cells #[.slice A0_0 l0_0.length c0_0] 27 (0, 0)) (bo BK270.out) hb); replace HB := Aside0.mk (below_step bw hb); clear hb ho16))
   go_ret
   exact ⟨_, re, by (with_reducible repeat (first | apply Kd.R_alloc | apply Kd.R_drewN | apply Kd.R_drew)); exact Kd.R_mono HO281.out (fun _ hk => trivial), bw⟩
  ·rw [if_neg c6] at H
   have c6b0 : ((t276.length : Int) == 0) = false := beq_eq_false_iff_ne.mpr c6
   have c6b1 : ((t276.length : Int) != 0) = true := bne_iff_ne.mpr c6
   have c6b2 : ¬ (t276 = []) := fun h_ => c6 (by rw [h_]; rfl)
   obtain ⟨y282, hy282⟩ : ∃ y_ : List Int, y_ = (([] : List Int)) := ⟨_, rfl⟩
   replace H : (spec_CanonicalGens.l0 k t275 t276 y282 0) = some r := by first | (rw [hy282]; with_reducible exact H) | (have H2_ := (Option.bind_some _ _).symm.trans H; rw [hy282]; with_reducible exact H2_) | (have H2_ := (Option.bind_some _ _).symm.trans H; with_reducible exact H2_) | with_reducible exact H | (rw [hy282]; exact H) | exact H
   have Ny282 := Aside0.mk hy282
   clear hy282
   have H' := Aside0.mk H
   clear H
   go_enter Try.func41, Try.ntmps41
   go_wp2_with (first | ((with_reducible refine gate_dst (N := 1) rfl ?_); refine bx 1 #[.slice A0_0 l0_0.length c0_0] 27 ?_; intro gb270 hg w17 hbox hb; have BK270 := Aside0.mk (hbox); have GW270 := Aside0.mk (gs hg : w.heap.size ≤ gb270); have GE270 := Aside0.mk (gs hg : w.heap.size ≤ gb270); replace HB := Aside0.mk (below_step bw hb); clear hb hbox hg; have hcz18_0 := bc BK270 0 (.slice A0_0 l0_0.length c0_0); have hfz18_0 := blk_frozen BK270.out 0) | ((with_reducible refine gate_callee (f := 71) rfl ?_); refine gl (some 8) Try.func71 #[.agg #[.slice A0_0 l0_0.length c0_0]] ?_; (with_reducible refine (spec_IsSemigroup.calls k _ _ l0_0 true _ ?side1 ?side2 A2.out).mono ?_); (case side1 => exact co (Kd.C_below HR0_0.out HB.out)); (case side2 => exact HC0_0.out); rintro e w19 ⟨rfl, hb⟩; refine ⟨_, rfl, ?_⟩; replace BK270 := Aside0.mk (blk_below (g := gb270) (o := .cells #[.slice A0_0 l0_0.length c0_0] 27 (0, 0)) (bo BK270.out) hb); replace HB := Aside0.mk (below_step bw hb); clear hb; have hcz20_0 := bc BK270 0 (.slice A0_0 l0_0.length c0_0); have hfz20_0 := blk_frozen BK270.out 0) | ((with_reducible refine gate_callee (f := 73) rfl ?_); refine gl (some 12) Try.func73 #[.agg #[.slice A0_0 l0_0.length c0_0]] ?_; (with_reducible refine (spec_FrobeniusOf.calls k _ _ l0_0 t275 _ ?side1 ?side2 A4.out).mono ?_); (case side1 => exact co (Kd.C_below HR0_0.out HB.out)); (case side2 => exact HC0_0.out); rintro e w21 ⟨rfl, hb⟩; refine ⟨_, rfl, ?_⟩; replace BK270 := Aside0.mk (blk_below (g := gb270) (o := .cells #[.slice A0_0 l0_0.length c0_0] 27 (0, 0)) (bo BK270.out) hb); replace HB := Aside0.mk (below_step bw hb); clear hb; have hcz22_0 := bc BK270 0 (.slice A0_0 l0_0.length c0_0); have hfz22_0 := blk_frozen BK270.out 0) | ((with_reducible refine gate_callee (f := 74) rfl ?_); refine gl (some 14) Try.func74 #[.agg #[.slice A0_0 l0_0.length c0_0]] ?_; (with_reducible refine (spec_PseudoFrobenius.calls k _ _ l0_0 t276 _ ?side1 ?side2 A5.out).mono ?_); (case side1 => exact co (Kd.C_below HR0_0.out HB.out)); (case side2 => exact HC0_0.out); rintro e w23 ⟨v277, rfl, ho0, hb⟩; refine ⟨_, rfl, ?_⟩; have HO278 := Aside0.mk (Kd.R_lower ho0 (below_size bw)); replace BK270 := Aside0.mk (blk_below (g := gb270) (o := .cells #[.slice A0_0 l0_0.length c0_0] 27 (0, 0)) (bo BK270.out) hb); replace HB := Aside0.mk (below_step bw hb); clear hb ho0; obtain ⟨Ao24, co24, eo24⟩ := Kd.R_slice HO278.out; subst eo24) | ((with_reducible refine gate_dst (N := 19) rfl ?_); refine Kd.R_lit (Kd.int .i64) _ 3 ?hg (N := 19) ?hd (xs := ([] : List Int)) (inner := []) (ok := fun _ => True) (okp := fun _ => True) ?hr ?hp (fun _ hk => hk) trivial (Below.refl _ _) (Nat.le_refl _) (by simp) ?_; (case hd => rfl); (case hg => rfl); (case hr => first | (go_simp; done) | (go_simp; rfl)); (case hp => exact (Reps.none _ _)); intro v283 w25 ho26 hb hg_ hnew_; clear hg_ hnew_; (first | rw [← Ny282.out] at ho26 | (simp only [Int.reduceToNat] at ho26; rw [← Ny282.out] at ho26)); have HO284 := Aside0.mk (Kd.R_lower (Kd.R_new' ho26 (Kd.R_lt (ro HO278.out))) (below_size bw)); replace HO278 := Aside0.mk (Kd.R_elder' (ro HO278.out) (Kd.R_base ho26) hb); replace BK270 := Aside0.mk (blk_below (g := gb270) (o := .cells #[.slice A0_0 l0_0.length c0_0] 27 (0, 0)) (bo BK270.out) hb); replace HB := Aside0.mk (below_step bw hb); clear hb ho26))
   go_loopg [5, 6] k (fun kq v5 v6 w' => ∃ (x5_1 : List Int) (x6_1 : Int), v6 = .int .i64 x6_1 ∧ Aside0 (spec_CanonicalGens.l0 kq t275 t276 x5_1 x6_1 = some r) ∧ Aside0 (kq ≤ k) ∧ Aside0 (Kd.R (Kd.int .i64) 3 w' w.heap.size (fun k_ => some k_ ≠ (v5 : Value).ownBlock) (.slice Ao24 t276.length co24) t276) ∧ Aside0 (Kd.R (Kd.int .i64) 3 w' w.heap.size (fun k_ => some k_ ≠ ((.slice Ao24 t276.length co24) : Value).ownBlock) v5 x5_1) ∧ Aside0 (w'.heap[gb270]? = some (.cells #[(.slice A0_0 l0_0.length c0_0)] 27 (0, 0))) ∧ Aside0 (Below w.heap.size w w'))
   case atStart => exact ⟨(y282), (0), rr, H', ⟨Nat.le_refl _⟩, ⟨by (with_reducible repeat (first | apply Kd.R_alloc | apply Kd.R_drewN | apply Kd.R_drew)); exact Kd.R_mono HO278.out (fun _ hk => hk.2)⟩, ⟨by (with_reducible repeat (first | apply Kd.R_alloc | apply Kd.R_drewN | apply Kd.R_drew)); exact Kd.R_mono HO284.out (fun _ hk => hk.2)⟩, ⟨bo BK270.out⟩, ⟨bw⟩⟩
   case round =>
    clear H'
    try clear c6; try clear c6b0; try clear c6b1; try clear c6b2; try clear hcz10_0; try clear hcz12_0; try clear hcz18_0; try clear hcz20_0; try clear hcz22_0; try clear hcz8_0; try clear hfz10_0; try clear hfz12_0; try clear hfz18_0; try clear hfz20_0; try clear hfz22_0; try clear hfz8_0
    obtain ⟨x5_1, x6_1, rfl, HA, HK1, HO_4, HO_5, BK270, HB⟩ := hrel
    cases gk with
    | zero => exact absurd HA.out (by simp [spec_CanonicalGens.l0])
    | succ k1 =>
     have H := HA.out
     clear HA
     simp only [spec_CanonicalGens.l0] at H
     replace H := gi H; obtain ⟨c27b0, H⟩ | ⟨c27b0, H⟩ := H
     ·replace H := gd H; obtain ⟨c28b0, H⟩ := H
      by_cases c29 : x5_1.length < 17592186044416
      rotate_left
      ·rw [if_neg c29] at H
       exact absurd H (by simp)
      rw [if_pos c29] at H
      have LMc29 := Aside0.mk c29
      clear c29
      obtain ⟨y286, hy286⟩ : ∃ y_ : List Int, y_ = (x5_1 ++ [wrap64 (t275 - (rd t276 x6_1))]) := ⟨_, rfl⟩
      replace H : (spec_CanonicalGens.l0 k1 t275 t276 y286 (wrap64 (x6_1 + 1))) = some r := by first | (rw [hy286]; with_reducible exact H) | (have H2_ := (Option.bind_some _ _).symm.trans H; rw [hy286]; with_reducible exact H2_) | (have H2_ := (Option.bind_some _ _).symm.trans H; with_reducible exact H2_) | with_reducible exact H | (rw [hy286]; exact H) | exact H
      have Ny286 := Aside0.mk hy286
      clear hy286
      have H' := Aside0.mk H
      clear H
      obtain ⟨⟨ad285, e285, hx285_0⟩, p285, q285⟩ := pq (Kd.at_int (Kd.R_reads' HO_4.out).2.2 x6_1)
      cases e285
      go_wp2_with (first | ((with_reducible refine gate_builtin (b := .append) (xs := #[.tmp 26, .tmp 33]) rfl ?_); at_builtin; refine Kd.R_append (Kd.int .i64) (w0 := w) w.heap.size rfl (.tmp 26) (.tmp 33) 22 3 (.int .i64 0) 8 rfl Try.underlying22 info3 rfl (by decide) (by omega) u5 x5_1 (wrap64 (t275 - (rd t276 x6_1))) [.int .i64 (wrap64 (t275 - (rd t276 x6_1)))] (fun k_ => some k_ ≠ (.slice (some ad285) t276.length co24 : Value).ownBlock) (fun _ => False) rfl rfl ?aP (fun _ hk => hk.elim) ?aF ?aO ?aB ?aS ?aL ?_; (case aP => exact rfl); (case aB => exact bw); (case aF => exact (fun k_ hk => Kd.fresh' (Kd.R_lt (ro HO_4.out)) k_ hk)); (case aO => exact (ro HO_5.out)); (case aS => exact (below_size bw)); (case aL => have := LMc29.out; omega); intro v287 w30 ho hb hg hat; rw [← Ny286.out] at ho; replace HO_4 := Aside0.mk (Kd.R_after (ok := (fun _ => True)) (by (with_reducible repeat (first | apply Kd.R_alloc | apply Kd.R_drewN | apply Kd.R_drew)); exact Kd.R_mono HO_4.out (fun _ hk => ⟨trivial, by first | exact hk | exact (by intro a n m c x h; cases a <;> exact h : ∀ (a : Option Addr) (n m c x : Nat), some x ≠ (Value.slice a n c).ownBlock → some x ≠ (Value.slice a m c).ownBlock) _ _ _ _ _ hk⟩)) hg hat); replace BK270 := Aside0.mk (blk_grown (g := gb270) (o := .cells #[.slice A0_0 l0_0.length c0_0] 27 (0, 0)) (bo BK270.out) hg (Kd.R_ne HO_5.out BK270.out (by decide))); replace HB := Aside0.mk (hb); have HO288 := Aside0.mk (ho); clear HO_5 ho hb hg hat))
      go_roundg k1
      case measure => have := HK1.out; omega
      case rel => exact ⟨(y286), (wrap64 (x6_1 + 1)), rr, H', ⟨by have := HK1.out; omega⟩, ⟨by (with_reducible repeat (first | apply Kd.R_alloc | apply Kd.R_drewN | apply Kd.R_drew)); exact Kd.R_mono HO_4.out (fun _ hk => hk.2)⟩, ⟨ro HO288.out⟩, ⟨bo BK270.out⟩, ⟨bw⟩⟩
     ·replace H := ga H; obtain ⟨t289, A31, H⟩ := H
      obtain rfl := Option.some.inj H
      obtain ⟨Ao32, co32, eo32⟩ := Kd.R_slice HO_5.out
      subst eo32
      go_wp2_with (first | ((with_reducible refine gate_callee (f := 57) rfl ?_); refine gl (some 36) Try.func57 #[.slice Ao32 x5_1.length co32] ?_; (with_reducible refine (spec_SortList.calls k1 _ _ x5_1 t289 _ ?side1 ?side2 A31.out).mono ?_); (case side1 => exact co (Kd.R_reads' HO_5.out).2.2); (case side2 => exact (Kd.R_reads' HO_5.out).2.1); rintro e w33 ⟨v290, rfl, ho0, hb⟩; refine ⟨_, rfl, ?_⟩; have HO291 := Aside0.mk (Kd.R_lower (Kd.R_new' (Kd.R_new' ho0 (Kd.R_lt (ro HO_4.out))) (Kd.R_lt (ro HO_5.out))) (below_size bw)); replace HO_4 := Aside0.mk (Kd.R_elder' (ro HO_4.out) (Kd.R_base ho0) hb); replace HO_5 := Aside0.mk (Kd.R_elder' (ro HO_5.out) (Kd.R_base ho0) hb); replace BK270 := Aside0.mk (blk_below (g := gb270) (o := .cells #[.slice A0_0 l0_0.length c0_0] 27 (0, 0)) (bo BK270.out) hb); replace HB := Aside0.mk (below_step bw hb); clear hb ho0))
      go_ret
      exact ⟨_, re, by (with_reducible repeat (first | apply Kd.R_alloc | apply Kd.R_drewN | apply Kd.R_drew)); exact Kd.R_mono HO291.out (fun _ hk => trivial), bw⟩
 ·obtain ⟨y272, hy272⟩ : ∃ y_ : List Int, y_ = (([] : List Int)) := ⟨_, rfl⟩
  replace H : (some y272) = some r := by first | (rw [hy272]; with_reducible exact H) | (have H2_ := (Option.bind_some _ _).symm.trans H; rw [hy272]; with_reducible exact H2_) | (have H2_ := (Option.bind_some _ _).symm.trans H; with_reducible exact H2_) | with_reducible exact H | (rw [hy272]; exact H) | exact H
  have Ny272 := Aside0.mk hy272
  clear hy272
  obtain rfl := Option.some.inj H
  go_enter Try.func41, Try.ntmps41
  go_wp2_with (first | ((with_reducible refine gate_dst (N := 1) rfl ?_); refine bx 1 #[.slice A0_0 l0_0.length c0_0] 27 ?_; intro gb270 hg w34 hbox hb; have BK270 := Aside0.mk (hbox); have GW270 := Aside0.mk (gs hg : w.heap.size ≤ gb270); have GE270 := Aside0.mk (gs hg : w.heap.size ≤ gb270); replace HB := Aside0.mk (below_step bw hb); clear hb hbox hg; have hcz35_0 := bc BK270 0 (.slice A0_0 l0_0.length c0_0); have hfz35_0 := blk_frozen BK270.out 0) | ((with_reducible refine gate_callee (f := 71) rfl ?_); refine gl (some 8) Try.func71 #[.agg #[.slice A0_0 l0_0.length c0_0]] ?_; (with_reducible refine (spec_IsSemigroup.calls k _ _ l0_0 false _ ?side1 ?side2 A2.out).mono ?_); (case side1 => exact co (Kd.C_below HR0_0.out HB.out)); (case side2 => exact HC0_0.out); rintro e w36 ⟨rfl, hb⟩; refine ⟨_, rfl, ?_⟩; replace BK270 := Aside0.mk (blk_below (g := gb270) (o := .cells #[.slice A0_0 l0_0.length c0_0] 27 (0, 0)) (bo BK270.out) hb); replace HB := Aside0.mk (below_step bw hb); clear hb) | ((with_reducible refine gate_dst (N := 10) rfl ?_); refine Kd.R_lit (Kd.int .i64) _ 3 ?hg (N := 10) ?hd (xs := ([] : List Int)) (inner := []) (ok := fun _ => True) (okp := fun _ => True) ?hr ?hp (fun _ hk => hk) trivial (Below.refl _ _) (Nat.le_refl _) (by simp) ?_; (case hd => rfl); (case hg => rfl); (case hr => first | (go_simp; done) | (go_simp; rfl)); (case hp => exact (Reps.none _ _)); intro v273 w37 ho38 hb hg_ hnew_; clear hg_ hnew_; (first | rw [← Ny272.out] at ho38 | (simp only [Int.reduceToNat] at ho38; rw [← Ny272.out] at ho38)); have HO274 := Aside0.mk (Kd.R_lower ho38 (below_size bw)); replace BK270 := Aside0.mk (blk_below (g := gb270) (o := .cells #[.slice A0_0 l0_0.length c0_0] 27 (0, 0)) (bo BK270.out) hb); replace HB := Aside0.mk (below_step bw hb); clear hb ho38))
  go_ret
  exact ⟨_, re, ro HO274.out, bw⟩


/-! ### impl_within: function 59 -/
def impl_within.f (a0 : Int) (a1 : Int) (a2 : Int) : Option (Bool) := if a0 ≥ a1 then (some (decide (a0 ≤ a2))) else (some false)
set_option maxHeartbeats 8000000 in
set_option maxRecDepth 100000 in
theorem impl_within.calls (a0 : Int) (a1 : Int) (a2 : Int) (r : Bool) (w : World) (h : impl_within.f a0 a1 a2 = some r) :
  Calls Try.prog 59 #[.int .i64 a0, .int .i64 a1, .int .i64 a2] w fun e w' => e = .returned (.bool r) ∧ Drawn0 w w' := by
 have H : (if a0 ≥ a1 then (some (decide (a0 ≤ a2))) else (some false)) = some r := h
 clear h
 replace H := gj H; obtain ⟨c4, H⟩ | ⟨c4, H⟩ := H
 ·have c4b0 : decide (a1 ≤ a0) = true := decide_eq_true c4
  clear c4
  obtain rfl := Option.some.inj H
  go_enter Try.func59, Try.ntmps59
  go_wp2
  go_ret
  exact ⟨rr, dw⟩
 ·have c4b0 : decide (a1 ≤ a0) = false := decide_eq_false c4
  clear c4
  obtain rfl := Option.some.inj H
  go_enter Try.func59, Try.ntmps59
  go_wp2
  go_ret
  exact ⟨rr, dw⟩


/-! ### impl_allWithin: function 90 -/
def impl_allWithin.l0 : Nat → Int → Int → List Int → Int → Int → Option (Bool)
 | 0, _, _, _, _, _ => none
 | k + 1, x1, x2, x9, x10, x11 => if x11 < x10 then (if 0 ≤ x11 then (if x11 < (x9.length : Int) then ((impl_within.f (rd x9 x11) x1 x2).bind fun t293 => (if t293 = true then (impl_allWithin.l0 k x1 x2 x9 x10 (wrap64 (x11 + 1))) else (some false))) else (none)) else (none)) else (some true)
def impl_allWithin.f (k : Nat) (l0 : List Int) (a1 : Int) (a2 : Int) : Option (Bool) := impl_allWithin.l0 k a1 a2 l0 (l0.length : Int) 0
set_option maxHeartbeats 8000000 in
set_option maxRecDepth 100000 in
theorem impl_allWithin.calls (k : Nat) (A0 : Option Addr) (c0 : Nat) (l0 : List Int) (a1 : Int) (a2 : Int) (r : Bool) (w : World) (hr0 : Kd.C (Kd.int .i64) w A0 l0.length l0) (hc0 : l0.length ≤ c0) (h : impl_allWithin.f k l0 a1 a2 = some r) :
  Calls Try.prog 90 #[.slice A0 l0.length c0, .int .i64 a1, .int .i64 a2] w fun e w' => e = .returned (.bool r) ∧ Drawn0 w w' := by
 have HR0 := Aside0.mk hr0
 have HC0 := Aside0.mk hc0
 clear hr0 hc0
 have H : (impl_allWithin.l0 k a1 a2 l0 (l0.length : Int) 0) = some r := h
 clear h
 have H' := Aside0.mk H
 clear H
 go_enter Try.func90, Try.ntmps90
 go_wp2
 go_loopg [11] k (fun kq v11 w' => ∃ (x11_1 : Int), v11 = .int .i64 x11_1 ∧ Aside0 (impl_allWithin.l0 kq a1 a2 l0 (l0.length : Int) x11_1 = some r) ∧ Aside0 (kq ≤ k) ∧ Drawn0 w w')
 case atStart => exact ⟨(0), rr, H', ⟨Nat.le_refl _⟩, dw⟩
 case round =>
  clear H'
  obtain ⟨x11_1, rfl, HA, HK1, ⟨m1, rfl⟩⟩ := hrel
  cases gk with
  | zero => exact absurd HA.out (by simp [impl_allWithin.l0])
  | succ k1 =>
   have H := HA.out
   clear HA
   simp only [impl_allWithin.l0] at H
   replace H := gi H; obtain ⟨c4b0, H⟩ | ⟨c4b0, H⟩ := H
   ·replace H := gd H; obtain ⟨c5b0, H⟩ := H
    replace H := gd H; obtain ⟨c6b0, H⟩ := H
    replace H := ga H; obtain ⟨t293, A7, H⟩ := H
    replace H := gb H; obtain ⟨rfl, H⟩ | ⟨rfl, H⟩ := H
    ·have H' := Aside0.mk H
     clear H
     obtain ⟨⟨ad292, e292, hx292_0⟩, p292, q292⟩ := pq (Kd.at_int HR0.out x11_1)
     cases e292
     go_wp2_with (first | ((with_reducible refine gate_callee (f := 59) rfl ?_); refine gl (some 18) Try.func59 #[.int .i64 (rd l0 x11_1), .int .i64 a1, .int .i64 a2] ?_; (with_reducible refine (impl_within.calls (rd l0 x11_1) a1 a2 true _ A7.out).mono ?_); rintro e w' ⟨rfl, ⟨nd, rfl⟩⟩; refine ⟨_, rfl, ?_⟩))
     go_roundg k1
     case measure => have := HK1.out; omega
     case rel => exact ⟨(wrap64 (x11_1 + 1)), rr, H', ⟨by have := HK1.out; omega⟩, dw⟩
    ·obtain rfl := Option.some.inj H
     obtain ⟨⟨ad292, e292, hx292_0⟩, p292, q292⟩ := pq (Kd.at_int HR0.out x11_1)
     cases e292
     go_wp2_with (first | ((with_reducible refine gate_callee (f := 59) rfl ?_); refine gl (some 18) Try.func59 #[.int .i64 (rd l0 x11_1), .int .i64 a1, .int .i64 a2] ?_; (with_reducible refine (impl_within.calls (rd l0 x11_1) a1 a2 false _ A7.out).mono ?_); rintro e w' ⟨rfl, ⟨nd, rfl⟩⟩; refine ⟨_, rfl, ?_⟩))
     go_ret
     exact ⟨rr, dw⟩
   ·obtain rfl := Option.some.inj H
    go_wp2
    go_ret
    exact ⟨rr, dw⟩


/-! ### impl_IsAscending: function 92 -/
def impl_IsAscending.l0 : Nat → List Int → Int → Option (Bool)
 | 0, _, _ => none
 | k + 1, x0, x3 => if x3 < (x0.length : Int) then (if 0 ≤ x3 then (if 0 ≤ (wrap64 (x3 - 1)) then (if (wrap64 (x3 - 1)) < (x0.length : Int) then (if (rd x0 x3) ≤ (rd x0 (wrap64 (x3 - 1))) then (some false) else (impl_IsAscending.l0 k x0 (wrap64 (x3 + 1)))) else (none)) else (none)) else (none)) else (some true)
def impl_IsAscending.f (k : Nat) (l0 : List Int) : Option (Bool) := impl_IsAscending.l0 k l0 1
set_option maxHeartbeats 8000000 in
set_option maxRecDepth 100000 in
theorem impl_IsAscending.calls (k : Nat) (A0 : Option Addr) (c0 : Nat) (l0 : List Int) (r : Bool) (w : World) (hr0 : Kd.C (Kd.int .i64) w A0 l0.length l0) (hc0 : l0.length ≤ c0) (h : impl_IsAscending.f k l0 = some r) :
  Calls Try.prog 92 #[.slice A0 l0.length c0] w fun e w' => e = .returned (.bool r) ∧ Drawn0 w w' := by
 have HR0 := Aside0.mk hr0
 have HC0 := Aside0.mk hc0
 clear hr0 hc0
 have H : (impl_IsAscending.l0 k l0 1) = some r := h
 clear h
 have H' := Aside0.mk H
 clear H
 go_enter Try.func92, Try.ntmps92
 go_wp2
 repeat (go_quiet (fail); try go_wp2)
 go_loopg [3] k (fun kq v3 w' => ∃ (x3_1 : Int), v3 = .int .i64 x3_1 ∧ Aside0 (impl_IsAscending.l0 kq l0 x3_1 = some r) ∧ Aside0 (kq ≤ k) ∧ Drawn0 w w')
 case atStart => exact ⟨(1), rr, H', ⟨Nat.le_refl _⟩, dw⟩
 case round =>
  clear H'
  obtain ⟨x3_1, rfl, HA, HK1, ⟨m1, rfl⟩⟩ := hrel
  cases gk with
  | zero => exact absurd HA.out (by simp [impl_IsAscending.l0])
  | succ k1 =>
   have H := HA.out
   clear HA
   simp only [impl_IsAscending.l0] at H
   replace H := gi H; obtain ⟨c2b0, H⟩ | ⟨c2b0, H⟩ := H
   ·replace H := gd H; obtain ⟨c3b0, H⟩ := H
    obtain ⟨ji4, hji4⟩ : ∃ j_ : Int, (wrap64 (x3_1 - 1)) = j_ := ⟨_, rfl⟩
    replace H : (if 0 ≤ (ji4) then (if (ji4) < (l0.length : Int) then (if (rd l0 x3_1) ≤ (rd l0 (ji4)) then (some false) else (impl_IsAscending.l0 k1 l0 (wrap64 (x3_1 + 1)))) else (none)) else (none)) = some r := by first | (rw [hji4] at H; exact H) | (simp only [hji4] at H ⊢; exact H)
    have hji4w : (IntKind.i64.wrap (x3_1 - 1)) = ji4 := (i64_w _).trans hji4
    replace H := gd H; obtain ⟨c5b0, H⟩ := H
    replace H := gd H; obtain ⟨c6b0, H⟩ := H
    replace H := gi H; obtain ⟨c7b0, H⟩ | ⟨c7b0, H⟩ := H
    ·obtain rfl := Option.some.inj H
     obtain ⟨⟨ad294, e294, hx294_0⟩, p294, q294⟩ := pq (Kd.at_int HR0.out x3_1)
     cases e294
     obtain ⟨⟨ad295, e295, hx295_0⟩, p295, q295⟩ := pq (Kd.at_int HR0.out (ji4))
     obtain rfl : ad294 = ad295 := (by injection e295)
     go_wp2
     repeat (go_quiet (fail); try go_wp2)
     go_ret
     exact ⟨by first | rfl | (simp; done) | (simp only [← hji4] <;> (first | rfl | simp)) | (simp [*]; done), dw⟩
    ·have H' := Aside0.mk H
     clear H
     obtain ⟨⟨ad294, e294, hx294_0⟩, p294, q294⟩ := pq (Kd.at_int HR0.out x3_1)
     cases e294
     obtain ⟨⟨ad295, e295, hx295_0⟩, p295, q295⟩ := pq (Kd.at_int HR0.out (ji4))
     obtain rfl : ad294 = ad295 := (by injection e295)
     go_wp2
     repeat (go_quiet (fail); try go_wp2)
     go_roundg k1
     case measure => have := HK1.out; omega
     case rel => exact ⟨(wrap64 (x3_1 + 1)), rr, H', ⟨by have := HK1.out; omega⟩, dw⟩
   ·obtain rfl := Option.some.inj H
    go_wp2
    repeat (go_quiet (fail); try go_wp2)
    go_ret
    exact ⟨rr, dw⟩


/-! ### impl_GcdOf: function 101 -/
def impl_GcdOf.l0 : Nat → Int → Int → Option (Int)
 | 0, _, _ => none
 | k + 1, x0, x1 => if x0 = 0 then (some x1) else (impl_GcdOf.l0 k (Int.tmod x1 x0) x0)
def impl_GcdOf.f (k : Nat) (a0 : Int) (a1 : Int) : Option (Int) := (impl_allWithin.f k (([a0, a1] : List Int)) (-1000000) 1000000).bind fun t299 => (if t299 = true then (impl_GcdOf.l0 k (mx a0 (wrap64 (-a0))) (mx a1 (wrap64 (-a1)))) else (some 0))
set_option maxHeartbeats 8000000 in
set_option maxRecDepth 100000 in
theorem impl_GcdOf.calls (k : Nat) (a0 : Int) (a1 : Int) (r : Int) (w : World) (h : impl_GcdOf.f k a0 a1 = some r) :
  Calls Try.prog 101 #[.int .i64 a0, .int .i64 a1] w fun e w' => e = .returned (.int .i64 r) ∧ Below w.heap.size w w' := by
 have HB := Aside0.mk (Below.refl w.heap.size w)
 have H : ((impl_allWithin.f k (([a0, a1] : List Int)) (-1000000) 1000000).bind fun t299 => (if t299 = true then (impl_GcdOf.l0 k (mx a0 (wrap64 (-a0))) (mx a1 (wrap64 (-a1)))) else (some 0))) = some r := h
 clear h
 obtain ⟨y296, hy296⟩ : ∃ y_ : List Int, y_ = (([a0, a1] : List Int)) := ⟨_, rfl⟩
 replace H : ((impl_allWithin.f k y296 (-1000000) 1000000).bind fun t299 => (if t299 = true then (impl_GcdOf.l0 k (mx a0 (wrap64 (-a0))) (mx a1 (wrap64 (-a1)))) else (some 0))) = some r := by first | (rw [hy296]; with_reducible exact H) | (have H2_ := (Option.bind_some _ _).symm.trans H; rw [hy296]; with_reducible exact H2_) | (have H2_ := (Option.bind_some _ _).symm.trans H; with_reducible exact H2_) | with_reducible exact H | (rw [hy296]; exact H) | exact H
 have Ny296 := Aside0.mk hy296
 clear hy296
 replace H := ga H; obtain ⟨t299, A3, H⟩ := H
 replace H := gb H; obtain ⟨rfl, H⟩ | ⟨rfl, H⟩ := H
 ·obtain ⟨ji5, hji5⟩ : ∃ j_ : Int, (mx a0 (wrap64 (-a0))) = j_ := ⟨_, rfl⟩
  replace H : (impl_GcdOf.l0 k ji5 (mx a1 (wrap64 (-a1)))) = some r := by first | (rw [hji5] at H; exact H) | (simp only [hji5] at H ⊢; exact H)
  (try rw [hji5] at A3)
  have hji5_ : (if a0 < (wrap64 (-a0)) then (wrap64 (-a0)) else a0) = ji5 := hji5
  obtain ⟨ji6, hji6⟩ : ∃ j_ : Int, (mx a1 (wrap64 (-a1))) = j_ := ⟨_, rfl⟩
  replace H : (impl_GcdOf.l0 k ji5 ji6) = some r := by first | (rw [hji6] at H; exact H) | (simp only [hji6] at H ⊢; exact H)
  (try rw [hji6] at A3)
  have hji6_ : (if a1 < (wrap64 (-a1)) then (wrap64 (-a1)) else a1) = ji6 := hji6
  have H' := Aside0.mk H
  clear H
  go_enter Try.func101, Try.ntmps101
  go_wp2_with (first | ((with_reducible refine gate_dst (N := 7) rfl ?_); refine Kd.R_lit (Kd.int .i64) _ 3 ?hg (N := 7) ?hd (xs := ([a0, a1] : List Int)) (inner := [.int .i64 a0, .int .i64 a1]) (ok := fun _ => True) (okp := fun _ => True) ?hr ?hp (fun _ hk => hk) trivial (Below.refl _ _) (Nat.le_refl _) (by simp) ?_; (case hd => rfl); (case hg => rfl); (case hr => first | (go_simp; done) | (go_simp; rfl)); (case hp => exact (Reps.one (show Kd.M (Kd.int .i64) _ _ _ a0 [.int .i64 a0] from rfl) (Reps.one (show Kd.M (Kd.int .i64) _ _ _ a1 [.int .i64 a1] from rfl) (Reps.none _ _)))); intro v297 w7 ho8 hb hg_ hnew_; clear hg_ hnew_; (first | rw [← Ny296.out] at ho8 | (simp only [Int.reduceToNat] at ho8; rw [← Ny296.out] at ho8)); have HO298 := Aside0.mk (Kd.R_lower ho8 (below_size bw)); replace HB := Aside0.mk (below_step bw hb); clear hb ho8; obtain ⟨Ao9, co9, eo9⟩ := Kd.R_slice HO298.out; subst eo9) | ((with_reducible refine gate_callee (f := 90) rfl ?_); refine gl (some 8) Try.func90 #[.slice Ao9 y296.length co9, .int .i64 (-1000000), .int .i64 1000000] ?_; (with_reducible refine (impl_allWithin.calls k _ _ y296 (-1000000) 1000000 true _ ?side1 ?side2 A3.out).mono ?_); (case side1 => exact co (Kd.R_reads' HO298.out).2.2); (case side2 => exact (Kd.R_reads' HO298.out).2.1); rintro e w' ⟨rfl, ⟨nd, rfl⟩⟩; refine ⟨_, rfl, ?_⟩))
  go_loopg [0, 1] k (fun kq v0 v1 w' => ∃ (x0_1 : Int) (x1_1 : Int), v0 = .int .i64 x0_1 ∧ v1 = .int .i64 x1_1 ∧ Aside0 (impl_GcdOf.l0 kq x0_1 x1_1 = some r) ∧ Aside0 (kq ≤ k) ∧ Aside0 (Below w.heap.size w w'))
  case atStart => exact ⟨(ji5), (ji6), (by first | rfl | (simp; done) | (simp only [← hji5] <;> (first | rfl | simp)) | (simp [*]; done)), (by first | rfl | (simp; done) | (simp only [← hji6] <;> (first | rfl | simp)) | (simp [*]; done)), H', ⟨Nat.le_refl _⟩, ⟨bw⟩⟩
  case round =>
   clear H'
   obtain ⟨x0_1, x1_1, rfl, rfl, HA, HK1, HB⟩ := hrel
   cases gk with
   | zero => exact absurd HA.out (by simp [impl_GcdOf.l0])
   | succ k1 =>
    have H := HA.out
    clear HA
    simp only [impl_GcdOf.l0] at H
    by_cases c10 : x0_1 = 0
    ·rw [if_pos c10] at H
     have c10b0 : (x0_1 == 0) = true := beq_iff_eq.mpr c10
     have c10b1 : (x0_1 != 0) = false := bne_eq_false_iff_eq.mpr c10
     clear c10
     obtain rfl := Option.some.inj H
     go_wp2
     go_ret
     exact ⟨by first | rfl | (simp [errW_none, errW_some] <;> rfl) | (simp only [← hji5, ← hji6]; first | rfl | (simp [errW_none, errW_some] <;> rfl)) | (simp [*, errW_none, errW_some] <;> rfl), bw⟩
    ·rw [if_neg c10] at H
     have c10b0 : (x0_1 == 0) = false := beq_eq_false_iff_ne.mpr c10
     have c10b1 : (x0_1 != 0) = true := bne_iff_ne.mpr c10
     have H' := Aside0.mk H
     clear H
     go_wp2
     go_roundg k1
     case measure => have := HK1.out; omega
     case rel => exact ⟨(Int.tmod x1_1 x0_1), (x0_1), rr, rr, H', ⟨by have := HK1.out; omega⟩, ⟨bw⟩⟩
 ·obtain rfl := Option.some.inj H
  go_enter Try.func101, Try.ntmps101
  go_wp2_with (first | ((with_reducible refine gate_dst (N := 7) rfl ?_); refine Kd.R_lit (Kd.int .i64) _ 3 ?hg (N := 7) ?hd (xs := ([a0, a1] : List Int)) (inner := [.int .i64 a0, .int .i64 a1]) (ok := fun _ => True) (okp := fun _ => True) ?hr ?hp (fun _ hk => hk) trivial (Below.refl _ _) (Nat.le_refl _) (by simp) ?_; (case hd => rfl); (case hg => rfl); (case hr => first | (go_simp; done) | (go_simp; rfl)); (case hp => exact (Reps.one (show Kd.M (Kd.int .i64) _ _ _ a0 [.int .i64 a0] from rfl) (Reps.one (show Kd.M (Kd.int .i64) _ _ _ a1 [.int .i64 a1] from rfl) (Reps.none _ _)))); intro v297 w11 ho12 hb hg_ hnew_; clear hg_ hnew_; (first | rw [← Ny296.out] at ho12 | (simp only [Int.reduceToNat] at ho12; rw [← Ny296.out] at ho12)); have HO298 := Aside0.mk (Kd.R_lower ho12 (below_size bw)); replace HB := Aside0.mk (below_step bw hb); clear hb ho12; obtain ⟨Ao13, co13, eo13⟩ := Kd.R_slice HO298.out; subst eo13) | ((with_reducible refine gate_callee (f := 90) rfl ?_); refine gl (some 8) Try.func90 #[.slice Ao13 y296.length co13, .int .i64 (-1000000), .int .i64 1000000] ?_; (with_reducible refine (impl_allWithin.calls k _ _ y296 (-1000000) 1000000 false _ ?side1 ?side2 A3.out).mono ?_); (case side1 => exact co (Kd.R_reads' HO298.out).2.2); (case side2 => exact (Kd.R_reads' HO298.out).2.1); rintro e w' ⟨rfl, ⟨nd, rfl⟩⟩; refine ⟨_, rfl, ?_⟩))
  go_ret
  exact ⟨re, bw⟩


/-! ### impl_GcdOfList: function 93 -/
def impl_GcdOfList.l0 : Nat → Int → List Int → Int → Int → Option (Int)
 | 0, _, _, _, _ => none
 | k + 1, x3, x6, x7, x8 => if x8 < x7 then (if 0 ≤ x8 then (if x8 < (x6.length : Int) then ((impl_GcdOf.f k x3 (rd x6 x8)).bind fun t301 => (impl_GcdOfList.l0 k t301 x6 x7 (wrap64 (x8 + 1)))) else (none)) else (none)) else (some x3)
def impl_GcdOfList.f (k : Nat) (l0 : List Int) : Option (Int) := impl_GcdOfList.l0 k 0 l0 (l0.length : Int) 0
set_option maxHeartbeats 8000000 in
set_option maxRecDepth 100000 in
theorem impl_GcdOfList.calls (k : Nat) (A0 : Option Addr) (c0 : Nat) (l0 : List Int) (r : Int) (w : World) (hr0 : Kd.C (Kd.int .i64) w A0 l0.length l0) (hc0 : l0.length ≤ c0) (h : impl_GcdOfList.f k l0 = some r) :
  Calls Try.prog 93 #[.slice A0 l0.length c0] w fun e w' => e = .returned (.int .i64 r) ∧ Below w.heap.size w w' := by
 have HR0 := Aside0.mk hr0
 have HC0 := Aside0.mk hc0
 clear hr0 hc0
 have HB := Aside0.mk (Below.refl w.heap.size w)
 have H : (impl_GcdOfList.l0 k 0 l0 (l0.length : Int) 0) = some r := h
 clear h
 have H' := Aside0.mk H
 clear H
 go_enter Try.func93, Try.ntmps93
 go_wp2
 go_loopg [3, 8] k (fun kq v3 v8 w' => ∃ (x3_1 : Int) (x8_1 : Int), v3 = .int .i64 x3_1 ∧ v8 = .int .i64 x8_1 ∧ Aside0 (impl_GcdOfList.l0 kq x3_1 l0 (l0.length : Int) x8_1 = some r) ∧ Aside0 (kq ≤ k) ∧ Aside0 (Below w.heap.size w w'))
 case atStart => exact ⟨(0), (0), rr, rr, H', ⟨Nat.le_refl _⟩, ⟨bw⟩⟩
 case round =>
  clear H'
  obtain ⟨x3_1, x8_1, rfl, rfl, HA, HK1, HB⟩ := hrel
  cases gk with
  | zero => exact absurd HA.out (by simp [impl_GcdOfList.l0])
  | succ k1 =>
   have H := HA.out
   clear HA
   simp only [impl_GcdOfList.l0] at H
   replace H := gi H; obtain ⟨c2b0, H⟩ | ⟨c2b0, H⟩ := H
   ·replace H := gd H; obtain ⟨c3b0, H⟩ := H
    replace H := gd H; obtain ⟨c4b0, H⟩ := H
    replace H := ga H; obtain ⟨t301, A5, H⟩ := H
    have H' := Aside0.mk H
    clear H
    obtain ⟨⟨ad300, e300, hx300_0⟩, p300, q300⟩ := pq (Kd.at_int HR0.out x8_1)
    cases e300
    replace hx300_0 := (HB.out.cell (World.block_lt_of_cell? w _ hx300_0)).trans hx300_0
    go_wp2_with (first | ((with_reducible refine gate_callee (f := 101) rfl ?_); refine gl (some 14) Try.func101 #[.int .i64 x3_1, .int .i64 (rd l0 x8_1)] ?_; (with_reducible refine (impl_GcdOf.calls k1 x3_1 (rd l0 x8_1) t301 _ A5.out).mono ?_); rintro e w6 ⟨rfl, hb⟩; refine ⟨_, rfl, ?_⟩; replace HB := Aside0.mk (below_step bw hb); clear hb))
    go_roundg k1
    case measure => have := HK1.out; omega
    case rel => exact ⟨(t301), (wrap64 (x8_1 + 1)), rr, rr, H', ⟨by have := HK1.out; omega⟩, ⟨bw⟩⟩
   ·obtain rfl := Option.some.inj H
    go_wp2
    go_ret
    exact ⟨re, bw⟩

end Go.Proofs.Ytiejmnnnjmmifaa.C
