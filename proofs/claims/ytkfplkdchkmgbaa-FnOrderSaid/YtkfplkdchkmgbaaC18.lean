/- Contracts of functions of the program: spec_l4Small. -/
import Derived.Test.YtkfplkdchkmgbaaC0
import Derived.Test.YtkfplkdchkmgbaaC2
namespace Go.Proofs.Ytkfplkdchkmgbaa.C
open Go.RowKit Go.Proofs.YtkfplkdchkmgbaaW.PrintWords Go.Proofs.YtkfplkdchkmgbaaW.PrintLast Go.Proofs.YtkfplkdchkmgbaaW.PrintMore
attribute [local go_sem] max2_int min2_int max_two min_two max_three min_three max_four min_four
set_option linter.unusedVariables false
set_option linter.unusedSimpArgs false

/-! ### spec_l4Small: function 158 -/
def spec_l4Small.l0 : Nat → Int → List Int → List Bool → Int → Option (List Int)
 | 0, _, _, _, _ => none
 | k + 1, x1, x5, x6, x7 => if x7 < x1 then (if 0 ≤ x7 then (if x7 < (x6.length : Int) then (if rdOf false x6 x7 = true then (if x5.length < 17592186044416 then (spec_l4Small.l0 k x1 (x5 ++ [x7]) x6 (wrap64 (x7 + 1))) else (none)) else (spec_l4Small.l0 k x1 x5 x6 (wrap64 (x7 + 1)))) else (none)) else (none)) else (some x5)
def spec_l4Small.f (k : Nat) (l0_0 : List Int) (a1 : Int) : Option (List Int) := (some (([] : List Int) : List Int)).bind fun y584 => (if a1 < 1 then (some y584) else ((spec_l3Table.f k l0_0 a1).bind fun t587 => (spec_l4Small.l0 k a1 y584 t587 0)))
set_option maxHeartbeats 8000000 in
set_option maxRecDepth 100000 in
theorem spec_l4Small.calls (k : Nat) (A0_0 : Option Addr) (c0_0 : Nat) (l0_0 : List Int) (a1 : Int) (r : List Int) (w : World) (hr0_0 : Kd.C (Kd.int .i64) w A0_0 l0_0.length l0_0) (hc0_0 : l0_0.length ≤ c0_0) (h : spec_l4Small.f k l0_0 a1 = some r) :
  Calls Try.prog 158 #[.agg #[.slice A0_0 l0_0.length c0_0], .int .i64 a1] w fun e w' => ∃ v0_ : Value, e = .returned (v0_) ∧ Kd.R (Kd.int .i64) 3 w' w.heap.size (fun _ => True) v0_ r ∧ Below w.heap.size w w' := by
 have hu26 := Try.underlying26
 have HR0_0 := am hr0_0
 have HC0_0 := am hc0_0
 clear hr0_0 hc0_0
 have HB := am (Below.refl w.heap.size w)
 have H : ((some (([] : List Int) : List Int)).bind fun y584 => (if a1 < 1 then (some y584) else ((spec_l3Table.f k l0_0 a1).bind fun t587 => (spec_l4Small.l0 k a1 y584 t587 0)))) = some r := h
 clear h
 obtain ⟨y584, hy584⟩ : ∃ y_ : List Int, y_ = (([] : List Int)) := ⟨_, rfl⟩
 replace H : (if a1 < 1 then (some y584) else ((spec_l3Table.f k l0_0 a1).bind fun t587 => (spec_l4Small.l0 k a1 y584 t587 0))) = some r := by first | (rw [hy584]; with_reducible exact H) | (have H2_ := (Option.bind_some _ _).symm.trans H; rw [hy584]; with_reducible exact H2_) | (have H2_ := (Option.bind_some _ _).symm.trans H; with_reducible exact H2_) | with_reducible exact H | (rw [hy584]; exact H) | exact H
 have Ny584 := am hy584
 clear hy584
 replace H := gi H; obtain ⟨c3b0, H⟩ | ⟨c3b0, H⟩ := H
 ·obtain rfl := Option.some.inj H
  go_enter Try.func158, Try.ntmps158
  go_wp2_with (first | ((with_reducible refine gate_dst (N := 2) rfl ?_); refine bx 2 #[.slice A0_0 l0_0.length c0_0] 26 ?_; intro gb583 hg w4 hbox hb; have BK583 := am (hbox); have GW583 := am (gs hg : w.heap.size ≤ gb583); have GE583 := GW583; replace HB := am (below_step bw hb); clear hb hbox hg) | ((with_reducible refine gate_dst (N := 8) rfl ?_); refine Kd.R_lit (Kd.int .i64) _ 3 ?hg (N := 8) ?hd (xs := ([] : List Int)) (inner := []) (ok := fun _ => True) (okp := fun _ => True) ?hr ?hp (fun _ hk => hk) trivial (Below.refl _ _) (Nat.le_refl _) (by simp) ?_; (case hd => rfl); (case hg => rfl); (case hr => first | (go_simp; done) | (go_simp; rfl)); (case hp => exact (Reps.none _ _)); intro v585 w5 ho6 hb hg_ hnew_; clear hg_ hnew_; (first | rw [← Ny584.out] at ho6 | (simp only [Int.reduceToNat] at ho6; rw [← Ny584.out] at ho6)); have HO586 := am (Kd.R_lower ho6 (below_size bw)); replace BK583 := kb BK583 hb; replace HB := am (below_step bw hb); clear hb ho6))
  go_ret
  exact ⟨_, re, ro HO586.out, bw⟩
 ·replace H := ga H; obtain ⟨t587, A7, H⟩ := H
  have H' := am H
  clear H
  go_enter Try.func158, Try.ntmps158
  go_wp2_with (first | ((with_reducible refine gate_dst (N := 2) rfl ?_); refine bx 2 #[.slice A0_0 l0_0.length c0_0] 26 ?_; intro gb583 hg w8 hbox hb; have BK583 := am (hbox); have GW583 := am (gs hg : w.heap.size ≤ gb583); have GE583 := GW583; replace HB := am (below_step bw hb); clear hb hbox hg) | ((with_reducible refine gate_dst (N := 8) rfl ?_); refine Kd.R_lit (Kd.int .i64) _ 3 ?hg (N := 8) ?hd (xs := ([] : List Int)) (inner := []) (ok := fun _ => True) (okp := fun _ => True) ?hr ?hp (fun _ hk => hk) trivial (Below.refl _ _) (Nat.le_refl _) (by simp) ?_; (case hd => rfl); (case hg => rfl); (case hr => first | (go_simp; done) | (go_simp; rfl)); (case hp => exact (Reps.none _ _)); intro v585 w9 ho10 hb hg_ hnew_; clear hg_ hnew_; (first | rw [← Ny584.out] at ho10 | (simp only [Int.reduceToNat] at ho10; rw [← Ny584.out] at ho10)); have HO586 := am (Kd.R_lower ho10 (below_size bw)); replace BK583 := kb BK583 hb; replace HB := am (below_step bw hb); clear hb ho10; have hcz11_0 := bc BK583 0 (.slice A0_0 l0_0.length c0_0); have hfz11_0 := blk_frozen BK583.out 0) | ((with_reducible refine gate_callee (f := 215) rfl ?_); refine gl (some 15) Try.func215 #[.slice A0_0 l0_0.length c0_0, .int .i64 a1] ?_; (with_reducible refine (spec_l3Table.calls k _ _ l0_0 a1 t587 _ ?side1 ?side2 A7.out).mono ?_); (case side1 => exact co (Kd.C_below HR0_0.out HB.out)); (case side2 => exact HC0_0.out); rintro e w12 ⟨v588, rfl, ho0, hb⟩; refine ⟨_, rfl, ?_⟩; replace HO586 := am (Kd.R_below (ro HO586.out) hb); have HO589 := am (Kd.R_lower ho0 (below_size bw)); replace BK583 := kb BK583 hb; replace HB := am (below_step bw hb); clear hb ho0))
  go_loopg [5, 7] k (fun kq v5 v7 w' => ∃ (x5_1 : List Int) (x7_1 : Int), v7 = .int .i64 x7_1 ∧ Aside0 (spec_l4Small.l0 kq a1 x5_1 t587 x7_1 = some r) ∧ Aside0 (kq ≤ k) ∧ Aside0 (Kd.R (Kd.int .i64) 3 w' w.heap.size (fun _ => True) v5 x5_1) ∧ Aside0 (Kd.R Kd.bool 4 w' w.heap.size (fun _ => True) v588 t587) ∧ Aside0 (w'.heap[gb583]? = some (.cells #[(.slice A0_0 l0_0.length c0_0)] 26 (0, 0))) ∧ Aside0 (Below w.heap.size w w'))
  case atStart => exact ⟨(y584), (0), rr, H', ⟨Nat.le_refl _⟩, ⟨ro HO586.out⟩, ⟨ro HO589.out⟩, ⟨bo BK583.out⟩, ⟨bw⟩⟩
  case round =>
   clear H'
   try clear c3b0; try clear hcz11_0; try clear hfz11_0
   obtain ⟨x5_1, x7_1, rfl, HA, HK1, HO_5, HO_6, BK583, HB⟩ := hrel
   cases gk with
   | zero => exact absurd HA.out (by simp [spec_l4Small.l0])
   | succ k1 =>
    have H := HA.out
    clear HA
    simp only [spec_l4Small.l0] at H
    replace H := gi H; obtain ⟨c13b0, H⟩ | ⟨c13b0, H⟩ := H
    ·replace H := gd H; obtain ⟨c14b0, H⟩ := H
     replace H := gd H; obtain ⟨c15b0, H⟩ := H
     obtain ⟨bq16, hbq16⟩ : ∃ b_ : Bool, b_ = (rdOf false t587 x7_1) := ⟨_, rfl⟩
     replace H : (if bq16 = true then (if x5_1.length < 17592186044416 then (spec_l4Small.l0 k1 a1 (x5_1 ++ [x7_1]) t587 (wrap64 (x7_1 + 1))) else (none)) else (spec_l4Small.l0 k1 a1 x5_1 t587 (wrap64 (x7_1 + 1)))) = some r := by rw [← hbq16] at H; exact H
     have Nbq16 := am hbq16
     clear hbq16
     replace H := gb H; obtain ⟨rfl, H⟩ | ⟨rfl, H⟩ := H
     ·by_cases c18 : x5_1.length < 17592186044416
      rotate_left
      ·rw [if_neg c18] at H
       exact absurd H (by simp)
      rw [if_pos c18] at H
      have LMc18 := am c18
      clear c18
      obtain ⟨y591, hy591⟩ : ∃ y_ : List Int, y_ = (x5_1 ++ [x7_1]) := ⟨_, rfl⟩
      replace H : (spec_l4Small.l0 k1 a1 y591 t587 (wrap64 (x7_1 + 1))) = some r := by first | (rw [hy591]; with_reducible exact H) | (have H2_ := (Option.bind_some _ _).symm.trans H; rw [hy591]; with_reducible exact H2_) | (have H2_ := (Option.bind_some _ _).symm.trans H; with_reducible exact H2_) | with_reducible exact H | (rw [hy591]; exact H) | exact H
      have Ny591 := am hy591
      clear hy591
      have H' := am H
      clear H
      obtain ⟨Ao19, co19, eo19⟩ := Kd.R_slice HO_6.out
      subst eo19
      obtain ⟨⟨ad590, e590, hx590_0⟩, p590, q590⟩ := pq (Kd.at_bool (Kd.R_reads' HO_6.out).2.2 x7_1)
      (try rw [← Nbq16.out] at hx590_0)
      cases e590
      go_wp2_with (first | ((with_reducible refine gate_builtin (b := .append) (xs := #[.tmp 25, .tmp 27]) rfl ?_); at_builtin; refine Kd.R_append (Kd.int .i64) (w0 := w) w.heap.size rfl (.tmp 25) (.tmp 27) 24 3 (.int .i64 0) 8 rfl Try.underlying24 info3 rfl (by decide) (by omega) u5 x5_1 x7_1 [.int .i64 x7_1] (fun _ => True) (fun _ => False) rfl rfl ?aP (fun _ hk => hk.elim) ?aF ?aO ?aB ?aS ?aL ?_; (case aP => exact rfl); (case aB => exact bw); (case aF => exact (fun _ _ => trivial)); (case aO => exact (ro HO_5.out)); (case aS => exact (below_size bw)); (case aL => have := LMc18.out; omega); intro v592 w20 ho hb hg hat; rw [← Ny591.out] at ho; replace HO_6 := am (Kd.R_over' (ro HO_6.out) (Kd.R_typed (ro HO_5.out)) (by decide) hg); replace BK583 := am (blk_grown (g := gb583) (o := .cells #[.slice A0_0 l0_0.length c0_0] 26 (0, 0)) (bo BK583.out) hg (Kd.R_ne HO_5.out BK583.out (by decide))); replace HB := am (hb); have HO593 := am (ho); clear HO_5 ho hb hg hat))
      go_roundg k1
      case measure => have := HK1.out; omega
      case rel => exact ⟨(y591), (wrap64 (x7_1 + 1)), rr, H', ⟨by have := HK1.out; omega⟩, ⟨ro HO593.out⟩, ⟨ro HO_6.out⟩, ⟨bo BK583.out⟩, ⟨bw⟩⟩
     ·have H' := am H
      clear H
      obtain ⟨Ao21, co21, eo21⟩ := Kd.R_slice HO_6.out
      subst eo21
      obtain ⟨⟨ad590, e590, hx590_0⟩, p590, q590⟩ := pq (Kd.at_bool (Kd.R_reads' HO_6.out).2.2 x7_1)
      (try rw [← Nbq16.out] at hx590_0)
      cases e590
      go_wp2
      go_roundg k1
      case measure => have := HK1.out; omega
      case rel => exact ⟨(x5_1), (wrap64 (x7_1 + 1)), rr, H', ⟨by have := HK1.out; omega⟩, ⟨ro HO_5.out⟩, ⟨ro HO_6.out⟩, ⟨bo BK583.out⟩, ⟨bw⟩⟩
    ·obtain rfl := Option.some.inj H
     go_wp2
     go_ret
     exact ⟨_, re, ro HO_5.out, bw⟩

end Go.Proofs.Ytkfplkdchkmgbaa.C
