/- Contracts of functions of the program: spec_Contains, spec_l6Apery, spec_AperySet, spec_ExceedingOf, impl_Contains, impl_AperySet, impl_ExceedingOf. -/
import Derived.Test.YtiejmnnnjmmifaaC0
import Derived.Test.YtiejmnnnjmmifaaC1
import Derived.Test.YtiejmnnnjmmifaaC2
import Derived.Test.YtiejmnnnjmmifaaC3
import Derived.Test.YtiejmnnnjmmifaaC4
import Derived.Test.YtiejmnnnjmmifaaC5
import Derived.Test.YtiejmnnnjmmifaaC6
import Derived.Test.YtiejmnnnjmmifaaC8
namespace Go.Proofs.Ytiejmnnnjmmifaa.C
open Go.RowKit Go.Proofs.YtiejmnnnjmmifaaW.PrintWords Go.Proofs.YtiejmnnnjmmifaaW.PrintLast Go.Proofs.YtiejmnnnjmmifaaW.PrintMore
attribute [local go_sem] max2_int min2_int max_two min_two max_three min_three max_four min_four
set_option linter.unusedVariables false
set_option linter.unusedSimpArgs false

/-! ### spec_Contains: function 103 -/
def spec_Contains.f (k : Nat) (l0_0 : List Int) (a1 : Int) : Option (Bool) := (spec_IsSemigroup.f k l0_0).bind fun t744 => (if t744 = true then ((spec_l3Has.f k l0_0 a1).bind fun t745 => (some t745)) else (some false))
set_option maxHeartbeats 8000000 in
set_option maxRecDepth 100000 in
theorem spec_Contains.calls (k : Nat) (A0_0 : Option Addr) (c0_0 : Nat) (l0_0 : List Int) (a1 : Int) (r : Bool) (w : World) (hr0_0 : Kd.C (Kd.int .i64) w A0_0 l0_0.length l0_0) (hc0_0 : l0_0.length ≤ c0_0) (h : spec_Contains.f k l0_0 a1 = some r) :
  Calls Try.prog 103 #[.agg #[.slice A0_0 l0_0.length c0_0], .int .i64 a1] w fun e w' => e = .returned (.bool r) ∧ Below w.heap.size w w' := by
 have hu27 := Try.underlying27
 have HR0_0 := Aside0.mk hr0_0
 have HC0_0 := Aside0.mk hc0_0
 clear hr0_0 hc0_0
 have HB := Aside0.mk (Below.refl w.heap.size w)
 have H : ((spec_IsSemigroup.f k l0_0).bind fun t744 => (if t744 = true then ((spec_l3Has.f k l0_0 a1).bind fun t745 => (some t745)) else (some false))) = some r := h
 clear h
 replace H := ga H; obtain ⟨t744, A3, H⟩ := H
 replace H := gb H; obtain ⟨rfl, H⟩ | ⟨rfl, H⟩ := H
 ·replace H := ga H; obtain ⟨t745, A5, H⟩ := H
  obtain rfl := Option.some.inj H
  go_enter Try.func103, Try.ntmps103
  go_wp2_with (first | ((with_reducible refine gate_dst (N := 2) rfl ?_); refine bx 2 #[.slice A0_0 l0_0.length c0_0] 27 ?_; intro gb743 hg w6 hbox hb; have BK743 := Aside0.mk (hbox); have GW743 := Aside0.mk (gs hg : w.heap.size ≤ gb743); have GE743 := Aside0.mk (gs hg : w.heap.size ≤ gb743); replace HB := Aside0.mk (below_step bw hb); clear hb hbox hg; have hcz7_0 := bc BK743 0 (.slice A0_0 l0_0.length c0_0); have hfz7_0 := blk_frozen BK743.out 0) | ((with_reducible refine gate_callee (f := 71) rfl ?_); refine gl (some 6) Try.func71 #[.agg #[.slice A0_0 l0_0.length c0_0]] ?_; (with_reducible refine (spec_IsSemigroup.calls k _ _ l0_0 true _ ?side1 ?side2 A3.out).mono ?_); (case side1 => exact co (Kd.C_below HR0_0.out HB.out)); (case side2 => exact HC0_0.out); rintro e w8 ⟨rfl, hb⟩; refine ⟨_, rfl, ?_⟩; replace BK743 := Aside0.mk (blk_below (g := gb743) (o := .cells #[.slice A0_0 l0_0.length c0_0] 27 (0, 0)) (bo BK743.out) hb); replace HB := Aside0.mk (below_step bw hb); clear hb; have hcz9_0 := bc BK743 0 (.slice A0_0 l0_0.length c0_0); have hfz9_0 := blk_frozen BK743.out 0) | (go_at_call 86; (with_reducible refine (spec_l3Has.calls k _ _ l0_0 a1 t745 _ ?side1 ?side2 A5.out).mono ?_); (case side1 => exact co (Kd.C_below HR0_0.out HB.out)); (case side2 => exact HC0_0.out); rintro e w10 ⟨rfl, hb⟩; replace BK743 := Aside0.mk (blk_below (g := gb743) (o := .cells #[.slice A0_0 l0_0.length c0_0] 27 (0, 0)) (bo BK743.out) hb); replace HB := Aside0.mk (below_step bw hb); clear hb))
  go_ret
  exact ⟨re, bw⟩
 ·obtain rfl := Option.some.inj H
  go_enter Try.func103, Try.ntmps103
  go_wp2_with (first | ((with_reducible refine gate_dst (N := 2) rfl ?_); refine bx 2 #[.slice A0_0 l0_0.length c0_0] 27 ?_; intro gb743 hg w11 hbox hb; have BK743 := Aside0.mk (hbox); have GW743 := Aside0.mk (gs hg : w.heap.size ≤ gb743); have GE743 := Aside0.mk (gs hg : w.heap.size ≤ gb743); replace HB := Aside0.mk (below_step bw hb); clear hb hbox hg; have hcz12_0 := bc BK743 0 (.slice A0_0 l0_0.length c0_0); have hfz12_0 := blk_frozen BK743.out 0) | ((with_reducible refine gate_callee (f := 71) rfl ?_); refine gl (some 6) Try.func71 #[.agg #[.slice A0_0 l0_0.length c0_0]] ?_; (with_reducible refine (spec_IsSemigroup.calls k _ _ l0_0 false _ ?side1 ?side2 A3.out).mono ?_); (case side1 => exact co (Kd.C_below HR0_0.out HB.out)); (case side2 => exact HC0_0.out); rintro e w13 ⟨rfl, hb⟩; refine ⟨_, rfl, ?_⟩; replace BK743 := Aside0.mk (blk_below (g := gb743) (o := .cells #[.slice A0_0 l0_0.length c0_0] 27 (0, 0)) (bo BK743.out) hb); replace HB := Aside0.mk (below_step bw hb); clear hb))
  go_ret
  exact ⟨re, bw⟩


/-! ### spec_l6Apery: function 104 -/
mutual
def spec_l6Apery.l0 : Nat → Int → List Bool → List Int → Int → Option (List Int)
 | 0, _, _, _, _ => none
 | k + 1, x1, x5, x6, x7 => if x7 < x1 then (spec_l6Apery.l1 k x1 x5 x6 x7 x7) else (some x6)
def spec_l6Apery.l1 : Nat → Int → List Bool → List Int → Int → Int → Option (List Int)
 | 0, _, _, _, _, _ => none
 | k + 1, x1, x5, x6, x7, x8 => if 0 ≤ x8 then (if x8 < (x5.length : Int) then (if rdOf false x5 x8 = true then (if x6.length < 17592186044416 then (spec_l6Apery.l0 k x1 x5 (x6 ++ [x8]) (wrap64 (x7 + 1))) else (none)) else (spec_l6Apery.l1 k x1 x5 x6 x7 (wrap64 (x8 + x1)))) else (none)) else (none)
end
def spec_l6Apery.f (k : Nat) (l0_0 : List Int) (a1 : Int) : Option (List Int) := (spec_l3Table.f k l0_0 260).bind fun t747 => (spec_l6Apery.l0 k a1 t747 (([] : List Int)) 0)
set_option maxHeartbeats 8000000 in
set_option maxRecDepth 100000 in
theorem spec_l6Apery.calls (k : Nat) (A0_0 : Option Addr) (c0_0 : Nat) (l0_0 : List Int) (a1 : Int) (r : List Int) (w : World) (hr0_0 : Kd.C (Kd.int .i64) w A0_0 l0_0.length l0_0) (hc0_0 : l0_0.length ≤ c0_0) (h : spec_l6Apery.f k l0_0 a1 = some r) :
  Calls Try.prog 104 #[.agg #[.slice A0_0 l0_0.length c0_0], .int .i64 a1] w fun e w' => ∃ v0_ : Value, e = .returned (v0_) ∧ Kd.R (Kd.int .i64) 3 w' w.heap.size (fun _ => True) v0_ r ∧ Below w.heap.size w w' := by
 have hu27 := Try.underlying27
 have HR0_0 := Aside0.mk hr0_0
 have HC0_0 := Aside0.mk hc0_0
 clear hr0_0 hc0_0
 have HB := Aside0.mk (Below.refl w.heap.size w)
 have H : ((spec_l3Table.f k l0_0 260).bind fun t747 => (spec_l6Apery.l0 k a1 t747 (([] : List Int)) 0)) = some r := h
 clear h
 replace H := ga H; obtain ⟨t747, A3, H⟩ := H
 obtain ⟨y750, hy750⟩ : ∃ y_ : List Int, y_ = (([] : List Int)) := ⟨_, rfl⟩
 replace H : (spec_l6Apery.l0 k a1 t747 y750 0) = some r := by first | (rw [hy750]; with_reducible exact H) | (have H2_ := (Option.bind_some _ _).symm.trans H; rw [hy750]; with_reducible exact H2_) | (have H2_ := (Option.bind_some _ _).symm.trans H; with_reducible exact H2_) | with_reducible exact H | (rw [hy750]; exact H) | exact H
 have Ny750 := Aside0.mk hy750
 clear hy750
 have H' := Aside0.mk H
 clear H
 go_enter Try.func104, Try.ntmps104
 go_wp2_with (first | ((with_reducible refine gate_dst (N := 2) rfl ?_); refine bx 2 #[.slice A0_0 l0_0.length c0_0] 27 ?_; intro gb746 hg w4 hbox hb; have BK746 := Aside0.mk (hbox); have GW746 := Aside0.mk (gs hg : w.heap.size ≤ gb746); have GE746 := Aside0.mk (gs hg : w.heap.size ≤ gb746); replace HB := Aside0.mk (below_step bw hb); clear hb hbox hg; have hcz5_0 := bc BK746 0 (.slice A0_0 l0_0.length c0_0); have hfz5_0 := blk_frozen BK746.out 0) | ((with_reducible refine gate_callee (f := 116) rfl ?_); refine gl (some 11) Try.func116 #[.slice A0_0 l0_0.length c0_0, .int .i64 260] ?_; (with_reducible refine (spec_l3Table.calls k _ _ l0_0 260 t747 _ ?side1 ?side2 A3.out).mono ?_); (case side1 => exact co (Kd.C_below HR0_0.out HB.out)); (case side2 => exact HC0_0.out); rintro e w6 ⟨v748, rfl, ho0, hb⟩; refine ⟨_, rfl, ?_⟩; have HO749 := Aside0.mk (Kd.R_lower ho0 (below_size bw)); replace BK746 := Aside0.mk (blk_below (g := gb746) (o := .cells #[.slice A0_0 l0_0.length c0_0] 27 (0, 0)) (bo BK746.out) hb); replace HB := Aside0.mk (below_step bw hb); clear hb ho0) | ((with_reducible refine gate_dst (N := 12) rfl ?_); refine Kd.R_lit (Kd.int .i64) _ 3 ?hg (N := 12) ?hd (xs := ([] : List Int)) (inner := []) (ok := fun _ => True) (okp := fun _ => True) ?hr ?hp (fun _ hk => hk) trivial (Below.refl _ _) (Nat.le_refl _) (by simp) ?_; (case hd => rfl); (case hg => rfl); (case hr => first | (go_simp; done) | (go_simp; rfl)); (case hp => exact (Reps.none _ _)); intro v751 w7 ho8 hb hg_ hnew_; clear hg_ hnew_; (first | rw [← Ny750.out] at ho8 | (simp only [Int.reduceToNat] at ho8; rw [← Ny750.out] at ho8)); replace HO749 := Aside0.mk (Kd.R_below (ro HO749.out) hb); have HO752 := Aside0.mk (Kd.R_lower ho8 (below_size bw)); replace BK746 := Aside0.mk (blk_below (g := gb746) (o := .cells #[.slice A0_0 l0_0.length c0_0] 27 (0, 0)) (bo BK746.out) hb); replace HB := Aside0.mk (below_step bw hb); clear hb ho8))
 go_loopg [6, 7] k (fun kq v6 v7 w' => ∃ (x6_1 : List Int) (x7_1 : Int), v7 = .int .i64 x7_1 ∧ Aside0 (spec_l6Apery.l0 kq a1 t747 x6_1 x7_1 = some r) ∧ Aside0 (kq ≤ k) ∧ Aside0 (Kd.R Kd.bool 4 w' w.heap.size (fun _ => True) v748 t747) ∧ Aside0 (Kd.R (Kd.int .i64) 3 w' w.heap.size (fun _ => True) v6 x6_1) ∧ Aside0 (w'.heap[gb746]? = some (.cells #[(.slice A0_0 l0_0.length c0_0)] 27 (0, 0))) ∧ Aside0 (Below w.heap.size w w'))
 case atStart => exact ⟨(y750), (0), rr, H', ⟨Nat.le_refl _⟩, ⟨ro HO749.out⟩, ⟨ro HO752.out⟩, ⟨bo BK746.out⟩, ⟨bw⟩⟩
 case round =>
  clear H'
  try clear hcz5_0; try clear hfz5_0
  obtain ⟨x6_1, x7_1, rfl, HA, HK1, HO_5, HO_6, BK746, HB⟩ := hrel
  cases gk with
  | zero => exact absurd HA.out (by simp [spec_l6Apery.l0])
  | succ k1 =>
   have H := HA.out
   clear HA
   simp only [spec_l6Apery.l0] at H
   replace H := gi H; obtain ⟨c9b0, H⟩ | ⟨c9b0, H⟩ := H
   ·have H' := Aside0.mk H
    clear H
    go_wp2
    go_loopg [8] k1 (fun kq v8 w' => ∃ (x8_2 : Int), v8 = .int .i64 x8_2 ∧ Aside0 (spec_l6Apery.l1 kq a1 t747 x6_1 x7_1 x8_2 = some r) ∧ Aside0 (kq ≤ k1) ∧ Aside0 (Kd.R Kd.bool 4 w' w.heap.size (fun _ => True) v748 t747) ∧ Aside0 (Kd.R (Kd.int .i64) 3 w' w.heap.size (fun _ => True) u6 x6_1) ∧ Aside0 (w'.heap[gb746]? = some (.cells #[(.slice A0_0 l0_0.length c0_0)] 27 (0, 0))) ∧ Aside0 (Below w.heap.size w w'))
    case atStart => exact ⟨(x7_1), rr, H', ⟨Nat.le_refl _⟩, ⟨ro HO_5.out⟩, ⟨ro HO_6.out⟩, ⟨bo BK746.out⟩, ⟨bw⟩⟩
    case round =>
     clear H'
     try clear c9b0; try clear hcz5_0; try clear hfz5_0
     obtain ⟨x8_2, rfl, HA, HK2, HO_5, HO_6, BK746, HB⟩ := hrel
     cases gk with
     | zero => exact absurd HA.out (by simp [spec_l6Apery.l1])
     | succ k2 =>
      have H := HA.out
      clear HA
      simp only [spec_l6Apery.l1] at H
      replace H := gd H; obtain ⟨c10b0, H⟩ := H
      replace H := gd H; obtain ⟨c11b0, H⟩ := H
      obtain ⟨bq12, hbq12⟩ : ∃ b_ : Bool, b_ = (rdOf false t747 x8_2) := ⟨_, rfl⟩
      replace H : (if bq12 = true then (if x6_1.length < 17592186044416 then (spec_l6Apery.l0 k2 a1 t747 (x6_1 ++ [x8_2]) (wrap64 (x7_1 + 1))) else (none)) else (spec_l6Apery.l1 k2 a1 t747 x6_1 x7_1 (wrap64 (x8_2 + a1)))) = some r := by rw [← hbq12] at H; exact H
      have Nbq12 := Aside0.mk hbq12
      clear hbq12
      replace H := gb H; obtain ⟨rfl, H⟩ | ⟨rfl, H⟩ := H
      ·by_cases c14 : x6_1.length < 17592186044416
       rotate_left
       ·rw [if_neg c14] at H
        exact absurd H (by simp)
       rw [if_pos c14] at H
       have LMc14 := Aside0.mk c14
       clear c14
       obtain ⟨y754, hy754⟩ : ∃ y_ : List Int, y_ = (x6_1 ++ [x8_2]) := ⟨_, rfl⟩
       replace H : (spec_l6Apery.l0 k2 a1 t747 y754 (wrap64 (x7_1 + 1))) = some r := by first | (rw [hy754]; with_reducible exact H) | (have H2_ := (Option.bind_some _ _).symm.trans H; rw [hy754]; with_reducible exact H2_) | (have H2_ := (Option.bind_some _ _).symm.trans H; with_reducible exact H2_) | with_reducible exact H | (rw [hy754]; exact H) | exact H
       have Ny754 := Aside0.mk hy754
       clear hy754
       have H' := Aside0.mk H
       clear H
       obtain ⟨Ao15, co15, eo15⟩ := Kd.R_slice HO_5.out
       subst eo15
       obtain ⟨⟨ad753, e753, hx753_0⟩, p753, q753⟩ := pq (Kd.at_bool (Kd.R_reads' HO_5.out).2.2 x8_2)
       (try rw [← Nbq12.out] at hx753_0)
       cases e753
       go_wp2_with (first | ((with_reducible refine gate_builtin (b := .append) (xs := #[.tmp 27, .tmp 29]) rfl ?_); at_builtin; refine Kd.R_append (Kd.int .i64) (w0 := w) w.heap.size rfl (.tmp 27) (.tmp 29) 22 3 (.int .i64 0) 8 rfl Try.underlying22 info3 rfl (by decide) (by omega) u6 x6_1 x8_2 [.int .i64 x8_2] (fun _ => True) (fun _ => False) rfl rfl ?aP (fun _ hk => hk.elim) ?aF ?aO ?aB ?aS ?aL ?_; (case aP => exact rfl); (case aB => exact bw); (case aF => exact (fun _ _ => trivial)); (case aO => exact (ro HO_6.out)); (case aS => exact (below_size bw)); (case aL => have := LMc14.out; omega); intro v755 w16 ho hb hg hat; rw [← Ny754.out] at ho; replace HO_5 := Aside0.mk (Kd.R_over' (ro HO_5.out) (Kd.R_typed (ro HO_6.out)) (by decide) hg); replace BK746 := Aside0.mk (blk_grown (g := gb746) (o := .cells #[.slice A0_0 l0_0.length c0_0] 27 (0, 0)) (bo BK746.out) hg (Kd.R_ne HO_6.out BK746.out (by decide))); replace HB := Aside0.mk (hb); have HO756 := Aside0.mk (ho); clear HO_6 ho hb hg hat))
       go_roundg k2
       case measure => have := HK1.out; have := HK2.out; omega
       case rel => exact ⟨(y754), (wrap64 (x7_1 + 1)), rr, H', ⟨by have := HK1.out; have := HK2.out; omega⟩, ⟨ro HO_5.out⟩, ⟨ro HO756.out⟩, ⟨bo BK746.out⟩, ⟨bw⟩⟩
      ·have H' := Aside0.mk H
       clear H
       obtain ⟨Ao17, co17, eo17⟩ := Kd.R_slice HO_5.out
       subst eo17
       obtain ⟨⟨ad753, e753, hx753_0⟩, p753, q753⟩ := pq (Kd.at_bool (Kd.R_reads' HO_5.out).2.2 x8_2)
       (try rw [← Nbq12.out] at hx753_0)
       cases e753
       go_wp2
       go_roundg k2
       case measure => have := HK1.out; have := HK2.out; omega
       case rel => exact ⟨(wrap64 (x8_2 + a1)), rr, H', ⟨by have := HK1.out; have := HK2.out; omega⟩, ⟨ro HO_5.out⟩, ⟨ro HO_6.out⟩, ⟨bo BK746.out⟩, ⟨bw⟩⟩
   ·obtain rfl := Option.some.inj H
    go_wp2
    go_ret
    exact ⟨_, re, ro HO_6.out, bw⟩


/-! ### spec_AperySet: function 69 -/
def spec_AperySet.f (k : Nat) (l0_0 : List Int) (a1 : Int) : Option (List Int) := (spec_Contains.f k l0_0 a1).bind fun t758 => (if t758 = true then ((spec_l1In.f a1 1 60).bind fun t759 => (if t759 = true then ((spec_l6Apery.f k l0_0 a1).bind fun t760 => (some t760)) else (some (([] : List Int))))) else (some (([] : List Int))))
set_option maxHeartbeats 8000000 in
set_option maxRecDepth 100000 in
theorem spec_AperySet.calls (k : Nat) (A0_0 : Option Addr) (c0_0 : Nat) (l0_0 : List Int) (a1 : Int) (r : List Int) (w : World) (hr0_0 : Kd.C (Kd.int .i64) w A0_0 l0_0.length l0_0) (hc0_0 : l0_0.length ≤ c0_0) (h : spec_AperySet.f k l0_0 a1 = some r) :
  Calls Try.prog 69 #[.agg #[.slice A0_0 l0_0.length c0_0], .int .i64 a1] w fun e w' => ∃ v0_ : Value, e = .returned (v0_) ∧ Kd.R (Kd.int .i64) 3 w' w.heap.size (fun _ => True) v0_ r ∧ Below w.heap.size w w' := by
 have hu27 := Try.underlying27
 have HR0_0 := Aside0.mk hr0_0
 have HC0_0 := Aside0.mk hc0_0
 clear hr0_0 hc0_0
 have HB := Aside0.mk (Below.refl w.heap.size w)
 have H : ((spec_Contains.f k l0_0 a1).bind fun t758 => (if t758 = true then ((spec_l1In.f a1 1 60).bind fun t759 => (if t759 = true then ((spec_l6Apery.f k l0_0 a1).bind fun t760 => (some t760)) else (some (([] : List Int))))) else (some (([] : List Int))))) = some r := h
 clear h
 replace H := ga H; obtain ⟨t758, A3, H⟩ := H
 replace H := gb H; obtain ⟨rfl, H⟩ | ⟨rfl, H⟩ := H
 ·replace H := ga H; obtain ⟨t759, A5, H⟩ := H
  replace H := gb H; obtain ⟨rfl, H⟩ | ⟨rfl, H⟩ := H
  ·replace H := ga H; obtain ⟨t760, A7, H⟩ := H
   obtain rfl := Option.some.inj H
   go_enter Try.func69, Try.ntmps69
   go_wp2_with (first | ((with_reducible refine gate_dst (N := 2) rfl ?_); refine bx 2 #[.slice A0_0 l0_0.length c0_0] 27 ?_; intro gb757 hg w8 hbox hb; have BK757 := Aside0.mk (hbox); have GW757 := Aside0.mk (gs hg : w.heap.size ≤ gb757); have GE757 := Aside0.mk (gs hg : w.heap.size ≤ gb757); replace HB := Aside0.mk (below_step bw hb); clear hb hbox hg; have hcz9_0 := bc BK757 0 (.slice A0_0 l0_0.length c0_0); have hfz9_0 := blk_frozen BK757.out 0) | ((with_reducible refine gate_callee (f := 103) rfl ?_); refine gl (some 7) Try.func103 #[.agg #[.slice A0_0 l0_0.length c0_0], .int .i64 a1] ?_; (with_reducible refine (spec_Contains.calls k _ _ l0_0 a1 true _ ?side1 ?side2 A3.out).mono ?_); (case side1 => exact co (Kd.C_below HR0_0.out HB.out)); (case side2 => exact HC0_0.out); rintro e w10 ⟨rfl, hb⟩; refine ⟨_, rfl, ?_⟩; replace BK757 := Aside0.mk (blk_below (g := gb757) (o := .cells #[.slice A0_0 l0_0.length c0_0] 27 (0, 0)) (bo BK757.out) hb); replace HB := Aside0.mk (below_step bw hb); clear hb) | (go_at_call 72; (with_reducible refine (spec_l1In.calls a1 1 60 true _ A5.out).mono ?_); rintro e w' ⟨rfl, ⟨nd, rfl⟩⟩; have hcz11_0 := bc BK757 0 (.slice A0_0 l0_0.length c0_0); have hfz11_0 := blk_frozen BK757.out 0) | ((with_reducible refine gate_callee (f := 104) rfl ?_); refine gl (some 17) Try.func104 #[.agg #[.slice A0_0 l0_0.length c0_0], .int .i64 a1] ?_; (with_reducible refine (spec_l6Apery.calls k _ _ l0_0 a1 t760 _ ?side1 ?side2 A7.out).mono ?_); (case side1 => exact co (Kd.C_below HR0_0.out bw)); (case side2 => exact HC0_0.out); rintro e w12 ⟨v761, rfl, ho0, hb⟩; refine ⟨_, rfl, ?_⟩; have HO762 := Aside0.mk (Kd.R_lower ho0 (below_size bw)); replace BK757 := Aside0.mk (blk_below (g := gb757) (o := .cells #[.slice A0_0 l0_0.length c0_0] 27 (0, 0)) (bo BK757.out) hb); replace HB := Aside0.mk (below_step bw hb); clear hb ho0))
   go_ret
   exact ⟨_, re, ro HO762.out, bw⟩
  ·obtain ⟨y763, hy763⟩ : ∃ y_ : List Int, y_ = (([] : List Int)) := ⟨_, rfl⟩
   replace H : (some y763) = some r := by first | (rw [hy763]; with_reducible exact H) | (have H2_ := (Option.bind_some _ _).symm.trans H; rw [hy763]; with_reducible exact H2_) | (have H2_ := (Option.bind_some _ _).symm.trans H; with_reducible exact H2_) | with_reducible exact H | (rw [hy763]; exact H) | exact H
   have Ny763 := Aside0.mk hy763
   clear hy763
   obtain rfl := Option.some.inj H
   go_enter Try.func69, Try.ntmps69
   go_wp2_with (first | ((with_reducible refine gate_dst (N := 2) rfl ?_); refine bx 2 #[.slice A0_0 l0_0.length c0_0] 27 ?_; intro gb757 hg w13 hbox hb; have BK757 := Aside0.mk (hbox); have GW757 := Aside0.mk (gs hg : w.heap.size ≤ gb757); have GE757 := Aside0.mk (gs hg : w.heap.size ≤ gb757); replace HB := Aside0.mk (below_step bw hb); clear hb hbox hg; have hcz14_0 := bc BK757 0 (.slice A0_0 l0_0.length c0_0); have hfz14_0 := blk_frozen BK757.out 0) | ((with_reducible refine gate_callee (f := 103) rfl ?_); refine gl (some 7) Try.func103 #[.agg #[.slice A0_0 l0_0.length c0_0], .int .i64 a1] ?_; (with_reducible refine (spec_Contains.calls k _ _ l0_0 a1 true _ ?side1 ?side2 A3.out).mono ?_); (case side1 => exact co (Kd.C_below HR0_0.out HB.out)); (case side2 => exact HC0_0.out); rintro e w15 ⟨rfl, hb⟩; refine ⟨_, rfl, ?_⟩; replace BK757 := Aside0.mk (blk_below (g := gb757) (o := .cells #[.slice A0_0 l0_0.length c0_0] 27 (0, 0)) (bo BK757.out) hb); replace HB := Aside0.mk (below_step bw hb); clear hb) | (go_at_call 72; (with_reducible refine (spec_l1In.calls a1 1 60 false _ A5.out).mono ?_); rintro e w' ⟨rfl, ⟨nd, rfl⟩⟩) | ((with_reducible refine gate_dst (N := 14) rfl ?_); refine Kd.R_lit (Kd.int .i64) _ 3 ?hg (N := 14) ?hd (xs := ([] : List Int)) (inner := []) (ok := fun _ => True) (okp := fun _ => True) ?hr ?hp (fun _ hk => hk) trivial (Below.refl _ _) (Nat.le_refl _) (by simp) ?_; (case hd => rfl); (case hg => rfl); (case hr => first | (go_simp; done) | (go_simp; rfl)); (case hp => exact (Reps.none _ _)); intro v764 w16 ho17 hb hg_ hnew_; clear hg_ hnew_; (first | rw [← Ny763.out] at ho17 | (simp only [Int.reduceToNat] at ho17; rw [← Ny763.out] at ho17)); have HO765 := Aside0.mk (Kd.R_lower ho17 (below_size bw)); replace BK757 := Aside0.mk (blk_below (g := gb757) (o := .cells #[.slice A0_0 l0_0.length c0_0] 27 (0, 0)) (bo BK757.out) hb); replace HB := Aside0.mk (below_step bw hb); clear hb ho17))
   go_ret
   exact ⟨_, re, ro HO765.out, bw⟩
 ·obtain ⟨y766, hy766⟩ : ∃ y_ : List Int, y_ = (([] : List Int)) := ⟨_, rfl⟩
  replace H : (some y766) = some r := by first | (rw [hy766]; with_reducible exact H) | (have H2_ := (Option.bind_some _ _).symm.trans H; rw [hy766]; with_reducible exact H2_) | (have H2_ := (Option.bind_some _ _).symm.trans H; with_reducible exact H2_) | with_reducible exact H | (rw [hy766]; exact H) | exact H
  have Ny766 := Aside0.mk hy766
  clear hy766
  obtain rfl := Option.some.inj H
  go_enter Try.func69, Try.ntmps69
  go_wp2_with (first | ((with_reducible refine gate_dst (N := 2) rfl ?_); refine bx 2 #[.slice A0_0 l0_0.length c0_0] 27 ?_; intro gb757 hg w18 hbox hb; have BK757 := Aside0.mk (hbox); have GW757 := Aside0.mk (gs hg : w.heap.size ≤ gb757); have GE757 := Aside0.mk (gs hg : w.heap.size ≤ gb757); replace HB := Aside0.mk (below_step bw hb); clear hb hbox hg; have hcz19_0 := bc BK757 0 (.slice A0_0 l0_0.length c0_0); have hfz19_0 := blk_frozen BK757.out 0) | ((with_reducible refine gate_callee (f := 103) rfl ?_); refine gl (some 7) Try.func103 #[.agg #[.slice A0_0 l0_0.length c0_0], .int .i64 a1] ?_; (with_reducible refine (spec_Contains.calls k _ _ l0_0 a1 false _ ?side1 ?side2 A3.out).mono ?_); (case side1 => exact co (Kd.C_below HR0_0.out HB.out)); (case side2 => exact HC0_0.out); rintro e w20 ⟨rfl, hb⟩; refine ⟨_, rfl, ?_⟩; replace BK757 := Aside0.mk (blk_below (g := gb757) (o := .cells #[.slice A0_0 l0_0.length c0_0] 27 (0, 0)) (bo BK757.out) hb); replace HB := Aside0.mk (below_step bw hb); clear hb) | ((with_reducible refine gate_dst (N := 14) rfl ?_); refine Kd.R_lit (Kd.int .i64) _ 3 ?hg (N := 14) ?hd (xs := ([] : List Int)) (inner := []) (ok := fun _ => True) (okp := fun _ => True) ?hr ?hp (fun _ hk => hk) trivial (Below.refl _ _) (Nat.le_refl _) (by simp) ?_; (case hd => rfl); (case hg => rfl); (case hr => first | (go_simp; done) | (go_simp; rfl)); (case hp => exact (Reps.none _ _)); intro v767 w21 ho22 hb hg_ hnew_; clear hg_ hnew_; (first | rw [← Ny766.out] at ho22 | (simp only [Int.reduceToNat] at ho22; rw [← Ny766.out] at ho22)); have HO768 := Aside0.mk (Kd.R_lower ho22 (below_size bw)); replace BK757 := Aside0.mk (blk_below (g := gb757) (o := .cells #[.slice A0_0 l0_0.length c0_0] 27 (0, 0)) (bo BK757.out) hb); replace HB := Aside0.mk (below_step bw hb); clear hb ho22))
  go_ret
  exact ⟨_, re, ro HO768.out, bw⟩


/-! ### spec_ExceedingOf: function 37 -/
def spec_ExceedingOf.l0 : Nat → Int → List Int → Int → Option (List Int)
 | 0, _, _, _ => none
 | k + 1, x1, x5, x6 => if x6 < (x5.length : Int) then (if 0 ≤ x6 then (spec_ExceedingOf.l0 k x1 (x5.set (x6 : Int).toNat (wrap64 ((rd x5 x6) - x1))) (wrap64 (x6 + 1))) else (none)) else (some x5)
def spec_ExceedingOf.f (k : Nat) (l0_0 : List Int) (a1 : Int) : Option (List Int) := (spec_AperySet.f k l0_0 a1).bind fun t770 => ((spec_MaximalOf.f k l0_0 t770).bind fun t773 => (spec_ExceedingOf.l0 k a1 t773 0))
set_option maxHeartbeats 8000000 in
set_option maxRecDepth 100000 in
theorem spec_ExceedingOf.calls (k : Nat) (A0_0 : Option Addr) (c0_0 : Nat) (l0_0 : List Int) (a1 : Int) (r : List Int) (w : World) (hr0_0 : Kd.C (Kd.int .i64) w A0_0 l0_0.length l0_0) (hc0_0 : l0_0.length ≤ c0_0) (h : spec_ExceedingOf.f k l0_0 a1 = some r) :
  Calls Try.prog 37 #[.agg #[.slice A0_0 l0_0.length c0_0], .int .i64 a1] w fun e w' => ∃ v0_ : Value, e = .returned (v0_) ∧ Kd.R (Kd.int .i64) 3 w' w.heap.size (fun _ => True) v0_ r ∧ Below w.heap.size w w' := by
 have hu27 := Try.underlying27
 have HR0_0 := Aside0.mk hr0_0
 have HC0_0 := Aside0.mk hc0_0
 clear hr0_0 hc0_0
 have HB := Aside0.mk (Below.refl w.heap.size w)
 have H : ((spec_AperySet.f k l0_0 a1).bind fun t770 => ((spec_MaximalOf.f k l0_0 t770).bind fun t773 => (spec_ExceedingOf.l0 k a1 t773 0))) = some r := h
 clear h
 replace H := ga H; obtain ⟨t770, A3, H⟩ := H
 replace H := ga H; obtain ⟨t773, A4, H⟩ := H
 have H' := Aside0.mk H
 clear H
 go_enter Try.func37, Try.ntmps37
 try go_wp2_with (first | ((with_reducible refine gate_dst (N := 2) rfl ?_); refine bx 2 #[.slice A0_0 l0_0.length c0_0] 27 ?_; intro gb769 hg w5 hbox hb; have BK769 := Aside0.mk (hbox); have GW769 := Aside0.mk (gs hg : w.heap.size ≤ gb769); have GE769 := Aside0.mk (gs hg : w.heap.size ≤ gb769); replace HB := Aside0.mk (below_step bw hb); clear hb hbox hg))
 replace BK769 := Aside0.mk (blk_drew BK769.out)
 replace HB := Aside0.mk (below_drew1 HB.out)
 refine start_ (n := 6) (S := fun w' => w'.cell? ⟨gb769, 0, none⟩ = some (.slice A0_0 l0_0.length c0_0)) (ds := []) #[Z,Z,Z,Z,Z,Z] (by kernel_rfl) rfl rfl ((blk_cell BK769.out 0).trans rfl) (fun hHeld => ?_)
 generalize w5.drew = w6 at BK769 HB hHeld ⊢
 refine pure_ (i := 2) (N := some 9) (v := ?_) (a' := ?_) #[Z,Z,Y,Z,Z,Z] rfl rfl (by kernel_rfl) (fun _ _ _ h => h) (Or.inl ⟨by rfl, ?_⟩) ?_ ?_
 rotate_left
 ·intro w'
  go_simp
  with_reducible rfl
 rotate_left
 ·simp only [Act.put, qa, qb, qc, i64_w, i32_w]
  rfl
 refine take_ (i := 0) (N := some 7) (v := ?_) (a' := ?_) #[Y,Z,Y,Z,Z,Z] rfl rfl (by kernel_rfl) (fun _ _ _ h => h) (Or.inl ⟨by rfl, ?_⟩) hHeld ?_ ?_
 rotate_left
 ·intro w' s0
  go_simp
  with_reducible rfl
 rotate_left
 ·simp only [Act.put, qa, qb, qc, i64_w, i32_w]
  rfl
 refine take_ (i := 1) (N := some 8) (v := ?_) (a' := ?_) #[Y,Y,Y,Z,Z,Z] rfl rfl (by kernel_rfl) (fun _ _ _ h => h) (Or.inl ⟨by rfl, ?_⟩) hHeld ?_ ?_
 rotate_left
 ·intro w' s0
  go_simp
  with_reducible rfl
 rotate_left
 ·simp only [Act.put, qa, qb, qc, i64_w, i32_w]
  rfl
 refine one_ (i := 3) (N := some 10) #[Y,Y,Y,Y,Z,Z] rfl rfl (by kernel_rfl) (by decide) (fun K hK => ?_)
 refine gm Try.func69 #[.agg #[.slice A0_0 l0_0.length c0_0], .int .i64 a1] ?_
 with_reducible refine (spec_AperySet.calls k _ _ l0_0 a1 t770 _ ?side1 ?side2 A3.out).mono ?_
 (case side1 => exact co (Kd.C_below HR0_0.out HB.out))
 (case side2 => exact HC0_0.out)
 rintro e w7 ⟨v771, rfl, ho0, hb⟩
 refine ⟨_, rfl, ?_⟩
 have HO772 := Aside0.mk (Kd.R_lower ho0 (below_size bw))
 replace BK769 := Aside0.mk (blk_below (g := gb769) (o := .cells #[.slice A0_0 l0_0.length c0_0] 27 (0, 0)) (bo BK769.out) hb)
 replace HB := Aside0.mk (below_step bw hb)
 clear hb ho0
 obtain ⟨Ao8, co8, eo8⟩ := Kd.R_slice HO772.out
 (first | subst eo8 | (injection eo8 with f1_ f2_ f3_; have f4_ := f1_.symm; have f5_ := f3_.symm; clear f1_ f2_ f3_; subst f4_; subst f5_))
 refine hK.out _ _ ((blk_cell BK769.out 0).trans rfl) (fun hHeld => ?_)
 clear hK K
 refine norm_ (a' := ?_) ?_ ?_
 rotate_left
 ·show Act.put _ (some 10) _ = _
  simp only [Act.put, qa, qb, qc, i64_w, i32_w]
  rfl
 refine one_ (i := 4) (N := some 11) #[Y,Y,Y,Y,Y,Z] rfl rfl (by kernel_rfl) (by decide) (fun K hK => ?_)
 refine gm Try.func16 #[.agg #[.slice A0_0 l0_0.length c0_0], .slice Ao8 t770.length co8] ?_
 with_reducible refine (spec_MaximalOf.calls k _ _ l0_0 _ _ t770 t773 _ ?side1 ?side2 ?side3 ?side4 A4.out).mono ?_
 (case side1 => exact co (Kd.C_below HR0_0.out HB.out))
 (case side2 => exact HC0_0.out)
 (case side3 => exact co (Kd.R_reads' HO772.out).2.2)
 (case side4 => exact (Kd.R_reads' HO772.out).2.1)
 rintro e w9 ⟨v774, rfl, ho0, hb⟩
 refine ⟨_, rfl, ?_⟩
 have HO775 := Aside0.mk (Kd.R_lower (Kd.R_new' ho0 (Kd.R_lt (ro HO772.out))) (below_size bw))
 replace HO772 := Aside0.mk (Kd.R_elder' (ro HO772.out) (Kd.R_base ho0) hb)
 replace BK769 := Aside0.mk (blk_below (g := gb769) (o := .cells #[.slice A0_0 l0_0.length c0_0] 27 (0, 0)) (bo BK769.out) hb)
 replace HB := Aside0.mk (below_step bw hb)
 clear hb ho0
 refine hK.out _ _ ((blk_cell BK769.out 0).trans rfl) (fun hHeld => ?_)
 clear hK K
 refine norm_ (a' := ?_) ?_ ?_
 rotate_left
 ·show Act.put _ (some 11) _ = _
  simp only [Act.put, qa, qb, qc, i64_w, i32_w]
  rfl
 refine pure_ (i := 5) (N := some 5) (v := ?_) (a' := ?_) #[Y,Y,Y,Y,Y,Y] rfl rfl (by kernel_rfl) (fun _ _ _ h => h) (Or.inl ⟨by rfl, ?_⟩) ?_ ?_
 rotate_left
 ·intro w'
  go_simp
  with_reducible rfl
 rotate_left
 ·simp only [Act.put, qa, qb, qc, i64_w, i32_w]
  rfl
 refine done_ (by kernel_rfl) ?_
 try go_wp2
 go_loopg [6] k (fun kq v6 w' => ∃ (x5_1 : List Int) (x6_1 : Int), v6 = .int .i64 x6_1 ∧ Aside0 (spec_ExceedingOf.l0 kq a1 x5_1 x6_1 = some r) ∧ Aside0 (kq ≤ k) ∧ Aside0 (Kd.R (Kd.int .i64) 3 w' w.heap.size (fun _ => True) v774 x5_1) ∧ Aside0 (w'.heap[gb769]? = some (.cells #[(.slice A0_0 l0_0.length c0_0)] 27 (0, 0))) ∧ Aside0 (Below w.heap.size w w'))
 case atStart => exact ⟨(t773), (0), rr, H', ⟨Nat.le_refl _⟩, ⟨by (with_reducible repeat (first | apply Kd.R_alloc | apply Kd.R_drewN | apply Kd.R_drew)); exact Kd.R_mono HO775.out (fun _ hk => trivial)⟩, ⟨bo BK769.out⟩, ⟨bw⟩⟩
 case round =>
  clear H'
  obtain ⟨x5_1, x6_1, rfl, HA, HK1, HO_5, BK769, HB⟩ := hrel
  cases gk with
  | zero => exact absurd HA.out (by simp [spec_ExceedingOf.l0])
  | succ k1 =>
   have H := HA.out
   clear HA
   simp only [spec_ExceedingOf.l0] at H
   replace H := gi H; obtain ⟨c10b0, H⟩ | ⟨c10b0, H⟩ := H
   ·replace H := gd H; obtain ⟨c11b0, H⟩ := H
    obtain ⟨y777, hy777⟩ : ∃ y_ : List Int, y_ = (x5_1.set (x6_1 : Int).toNat (wrap64 ((rd x5_1 x6_1) - a1))) := ⟨_, rfl⟩
    replace H : (spec_ExceedingOf.l0 k1 a1 y777 (wrap64 (x6_1 + 1))) = some r := by first | (rw [hy777]; with_reducible exact H) | (have H2_ := (Option.bind_some _ _).symm.trans H; rw [hy777]; with_reducible exact H2_) | (have H2_ := (Option.bind_some _ _).symm.trans H; with_reducible exact H2_) | with_reducible exact H | (rw [hy777]; exact H) | exact H
    have Ny777 := Aside0.mk hy777
    clear hy777
    have H' := Aside0.mk H
    clear H
    obtain ⟨Ao13, co13, eo13⟩ := Kd.R_slice HO_5.out
    subst eo13
    obtain ⟨⟨ad776, e776, hx776_0⟩, p776, q776⟩ := pq (Kd.at_int (Kd.R_reads' HO_5.out).2.2 x6_1)
    cases e776
    have p12 : 0 ≤ (x6_1 : Int) := of_decide_eq_true (by first | (with_reducible assumption) | assumption)
    have q12 : (x6_1 : Int) < ((x5_1.length : Int) : Int) := of_decide_eq_true (by first | (with_reducible assumption) | assumption)
    obtain ⟨go12, co12, eo12, gb12, gl12, cl12, HG12⟩ := Kd.R_form HO_5.out (by omega)
    (first | cases eo12 | (injection eo12 with ea_ en_ ec_; (first | subst ea_ | (injection ea_ with ea_; subst ea_)); subst ec_; clear en_))
    have GB12 := Aside0.mk gb12
    have GG12 := Aside0.mk HG12
    clear gb12 gl12 HG12
    (first | simp only [add_plain] at hx776_0 | skip)
    obtain ⟨hx12_0, hf12_0⟩ := Kd.R_celln 0 HO_5.out (x6_1 : Int) p12 q12
    replace p12 := eq_true p12
    replace q12 := eq_true q12
    have HP14 := Kd.R_putg HO_5.out (x6_1 : Int) (wrap64 ((rd x5_1 x6_1) - a1))
    go_wp2_with (first | ((with_reducible refine gate_store (t := 3) (p := 26) rfl ?_); refine store_event (t := 3) (p := 26) (v := ?vo_w15) (w1 := (wr.setCell ⟨go12, (x6_1 : Int).toNat, none⟩ (.int .i64 (wrap64 ((rd x5_1 x6_1) - a1))))) ?hg ?ho ?hn ?hr ?_; (case ho => rfl); (case hg => rfl); (case hn => rfl); (case hr => first | (go_simp; done) | (go_simp; rfl)); intro w15 hw; have hg : wr.grownBy w15 (some go12) := (by rw [hw]; exact HP14.2); have hp_ : Kd.R (Kd.int .i64) 3 w15 w.heap.size (fun _ => True) (.slice (some ⟨go12, 0, none⟩) x5_1.length co13) y777 := (by rw [hw, Ny777.out]; exact HP14.1); clear HP14; replace BK769 := Aside0.mk (blk_grown (g := gb769) (o := .cells #[.slice A0_0 l0_0.length c0_0] 27 (0, 0)) (bo BK769.out) hg (Kd.R_ne HO_5.out BK769.out (by decide))); replace HO_5 := Aside0.mk (hp_); replace HB := Aside0.mk ((by rw [hw]; exact below_set (HB.out) GB12.out : Below w.heap.size w w15)); clear hg hw hp_))
    go_roundg k1
    case measure => have := HK1.out; omega
    case rel => exact ⟨(y777), (wrap64 (x6_1 + 1)), rr, H', ⟨by have := HK1.out; omega⟩, ⟨ro HO_5.out⟩, ⟨bo BK769.out⟩, ⟨bw⟩⟩
   ·obtain rfl := Option.some.inj H
    obtain ⟨Ao16, co16, eo16⟩ := Kd.R_slice HO_5.out
    subst eo16
    go_wp2
    go_ret
    exact ⟨_, re, ro HO_5.out, bw⟩


/-! ### impl_Contains: function 105 -/
def impl_Contains.f (k : Nat) (l0_0 : List Int) (a1 : Int) : Option (Bool) := if a1 < 0 then (some false) else ((impl_IsSemigroup.f k l0_0).bind fun t779 => (if t779 = true then (if a1 ≥ 200 then (some true) else (if 0 < (l0_0.length : Int) then ((impl_leasts.f k l0_0 (rd l0_0 0)).bind fun t781 => (if (rd l0_0 0) = 0 then (none) else (if 0 ≤ (Int.tmod a1 (rd l0_0 0)) then (if (Int.tmod a1 (rd l0_0 0)) < (t781.length : Int) then (some (decide ((rd t781 (Int.tmod a1 (rd l0_0 0))) ≤ a1))) else (none)) else (none)))) else (none))) else (some false)))
def impl_Contains.T3 : Bool × List (List Nat × List Nat) := (true, [([], []), ([0], [0]), ([1], [1]), ([2], [2]), ([3, 2], [2, 3]), ([2], [2]), ([5, 2], [2, 5]), ([6, 2], [2, 6]), ([7, 2], [2, 7]), ([4, 8, 2, 2], [2, 4, 8]), ([2], [2]), ([2], [2]), ([11, 2], [2, 11]), ([12, 2], [2, 12]), ([13, 2], [2, 13]), ([10, 14, 2], [2, 10, 14]), ([9, 15, 2], [2, 9, 15]), ([16, 2], [2, 16]), ([2], [2]), ([17, 18, 2], [2, 17, 18]), ([2, 19], [2, 19]), ([20, 9, 0, 1, 2, 3, 4, 5, 6, 7, 8, 9, 10, 11, 12, 13, 14, 15, 16, 17, 18, 19, 20], [20])])
def impl_Contains.B3 : List Nat := [0, 1, 3, 7, 15, 7, 39, 103, 231, 511, 7, 7, 2055, 6151, 14343, 31751, 65535, 131071, 7, 524287, 1048575, 2097151]
theorem impl_Contains.tab3 : rtab .any (opsOf Try.f105 3) = impl_Contains.T3 := by kernel_rfl
theorem impl_Contains.bits3 : waitsOk impl_Contains.T3.2 impl_Contains.B3 = true := by kernel_rfl
set_option maxHeartbeats 8000000 in
set_option maxRecDepth 100000 in
theorem impl_Contains.calls (k : Nat) (A0_0 : Option Addr) (c0_0 : Nat) (l0_0 : List Int) (a1 : Int) (r : Bool) (w : World) (hr0_0 : Kd.C (Kd.int .i64) w A0_0 l0_0.length l0_0) (hc0_0 : l0_0.length ≤ c0_0) (h : impl_Contains.f k l0_0 a1 = some r) :
  Calls Try.prog 105 #[.agg #[.slice A0_0 l0_0.length c0_0], .int .i64 a1] w fun e w' => e = .returned (.bool r) ∧ Below w.heap.size w w' := by
 have hu27 := Try.underlying27
 have HR0_0 := Aside0.mk hr0_0
 have HC0_0 := Aside0.mk hc0_0
 clear hr0_0 hc0_0
 have HB := Aside0.mk (Below.refl w.heap.size w)
 have H : (if a1 < 0 then (some false) else ((impl_IsSemigroup.f k l0_0).bind fun t779 => (if t779 = true then (if a1 ≥ 200 then (some true) else (if 0 < (l0_0.length : Int) then ((impl_leasts.f k l0_0 (rd l0_0 0)).bind fun t781 => (if (rd l0_0 0) = 0 then (none) else (if 0 ≤ (Int.tmod a1 (rd l0_0 0)) then (if (Int.tmod a1 (rd l0_0 0)) < (t781.length : Int) then (some (decide ((rd t781 (Int.tmod a1 (rd l0_0 0))) ≤ a1))) else (none)) else (none)))) else (none))) else (some false)))) = some r := h
 clear h
 replace H := gi H; obtain ⟨c3b0, H⟩ | ⟨c3b0, H⟩ := H
 ·obtain rfl := Option.some.inj H
  go_enter Try.func105, Try.ntmps105
  go_wp2_with (first | ((with_reducible refine gate_dst (N := 2) rfl ?_); refine bx 2 #[.slice A0_0 l0_0.length c0_0] 27 ?_; intro gb778 hg w4 hbox hb; have BK778 := Aside0.mk (hbox); have GW778 := Aside0.mk (gs hg : w.heap.size ≤ gb778); have GE778 := Aside0.mk (gs hg : w.heap.size ≤ gb778); replace HB := Aside0.mk (below_step bw hb); clear hb hbox hg))
  go_ret
  exact ⟨re, bw⟩
 ·replace H := ga H; obtain ⟨t779, A5, H⟩ := H
  replace H := gb H; obtain ⟨rfl, H⟩ | ⟨rfl, H⟩ := H
  ·replace H := gj H; obtain ⟨c7, H⟩ | ⟨c7, H⟩ := H
   ·have c7b0 : decide (200 ≤ a1) = true := decide_eq_true c7
    clear c7
    obtain rfl := Option.some.inj H
    go_enter Try.func105, Try.ntmps105
    try go_wp2_with (first | ((with_reducible refine gate_dst (N := 2) rfl ?_); refine bx 2 #[.slice A0_0 l0_0.length c0_0] 27 ?_; intro gb778 hg w8 hbox hb; have BK778 := Aside0.mk (hbox); have GW778 := Aside0.mk (gs hg : w.heap.size ≤ gb778); have GE778 := Aside0.mk (gs hg : w.heap.size ≤ gb778); replace HB := Aside0.mk (below_step bw hb); clear hb hbox hg; have hcz9_0 := bc BK778 0 (.slice A0_0 l0_0.length c0_0); have hfz9_0 := blk_frozen BK778.out 0) | (go_at_call 58; (with_reducible refine (impl_IsSemigroup.calls k _ _ l0_0 true _ ?side1 ?side2 A5.out).mono ?_); (case side1 => exact co (Kd.C_below HR0_0.out HB.out)); (case side2 => exact HC0_0.out); rintro e w10 ⟨rfl, hb⟩; replace BK778 := Aside0.mk (blk_below (g := gb778) (o := .cells #[.slice A0_0 l0_0.length c0_0] 27 (0, 0)) (bo BK778.out) hb); replace HB := Aside0.mk (below_step bw hb); clear hb))
    replace BK778 := Aside0.mk (blk_drew BK778.out)
    replace HB := Aside0.mk (below_drew1 HB.out)
    refine start_ (n := 22) (S := fun w' => True) (ds := []) #[Z,Z,Z,Z,Z,Z,Z,Z,Z,Z,Z,Z,Z,Z,Z,Z,Z,Z,Z,Z,Z,Z] (by kernel_rfl) rfl rfl trivial (fun hHeld => ?_); refine with_tabW impl_Contains.tab3 impl_Contains.bits3 (fun HT_ HW_ => ?_)
    generalize w10.drew = w11 at BK778 HB hHeld ⊢
    refine pa 0 (some 12) #[Y,Z,Z,Z,Z,Z,Z,Z,Z,Z,Z,Z,Z,Z,Z,Z,Z,Z,Z,Z,Z,Z] HT_ ?_
    refine pa 1 (some 13) #[Y,Y,Z,Z,Z,Z,Z,Z,Z,Z,Z,Z,Z,Z,Z,Z,Z,Z,Z,Z,Z,Z] HT_ ?_
    refine pa 2 (some 14) #[Y,Y,Y,Z,Z,Z,Z,Z,Z,Z,Z,Z,Z,Z,Z,Z,Z,Z,Z,Z,Z,Z] HT_ ?_
    refine pu 3 (some 15) #[Y,Y,Y,Y,Z,Z,Z,Z,Z,Z,Z,Z,Z,Z,Z,Z,Z,Z,Z,Z,Z,Z] HT_ ?_
    refine pu 4 (some 16) #[Y,Y,Y,Y,Y,Z,Z,Z,Z,Z,Z,Z,Z,Z,Z,Z,Z,Z,Z,Z,Z,Z] HT_ ?_
    refine pu 5 (some 17) #[Y,Y,Y,Y,Y,Y,Z,Z,Z,Z,Z,Z,Z,Z,Z,Z,Z,Z,Z,Z,Z,Z] HT_ ?_
    refine pu 6 (some 18) #[Y,Y,Y,Y,Y,Y,Y,Z,Z,Z,Z,Z,Z,Z,Z,Z,Z,Z,Z,Z,Z,Z] HT_ ?_
    refine pu 7 (some 19) #[Y,Y,Y,Y,Y,Y,Y,Y,Z,Z,Z,Z,Z,Z,Z,Z,Z,Z,Z,Z,Z,Z] HT_ ?_
    refine pu 8 (some 20) #[Y,Y,Y,Y,Y,Y,Y,Y,Y,Z,Z,Z,Z,Z,Z,Z,Z,Z,Z,Z,Z,Z] HT_ ?_
    refine pu 9 (some 21) #[Y,Y,Y,Y,Y,Y,Y,Y,Y,Y,Z,Z,Z,Z,Z,Z,Z,Z,Z,Z,Z,Z] HT_ ?_
    refine pu 10 (some 22) #[Y,Y,Y,Y,Y,Y,Y,Y,Y,Y,Y,Z,Z,Z,Z,Z,Z,Z,Z,Z,Z,Z] HT_ ?_
    refine pu 11 (some 23) #[Y,Y,Y,Y,Y,Y,Y,Y,Y,Y,Y,Y,Z,Z,Z,Z,Z,Z,Z,Z,Z,Z] HT_ ?_
    refine pu 12 (some 24) #[Y,Y,Y,Y,Y,Y,Y,Y,Y,Y,Y,Y,Y,Z,Z,Z,Z,Z,Z,Z,Z,Z] HT_ ?_
    refine pu 13 (some 25) #[Y,Y,Y,Y,Y,Y,Y,Y,Y,Y,Y,Y,Y,Y,Z,Z,Z,Z,Z,Z,Z,Z] HT_ ?_
    refine pu 14 (some 26) #[Y,Y,Y,Y,Y,Y,Y,Y,Y,Y,Y,Y,Y,Y,Y,Z,Z,Z,Z,Z,Z,Z] HT_ ?_
    refine pu 15 (some 27) #[Y,Y,Y,Y,Y,Y,Y,Y,Y,Y,Y,Y,Y,Y,Y,Y,Z,Z,Z,Z,Z,Z] HT_ ?_
    refine pu 16 (some 28) #[Y,Y,Y,Y,Y,Y,Y,Y,Y,Y,Y,Y,Y,Y,Y,Y,Y,Z,Z,Z,Z,Z] HT_ ?_
    refine pu 17 (some 29) #[Y,Y,Y,Y,Y,Y,Y,Y,Y,Y,Y,Y,Y,Y,Y,Y,Y,Y,Z,Z,Z,Z] HT_ ?_
    refine pu 18 (some 30) #[Y,Y,Y,Y,Y,Y,Y,Y,Y,Y,Y,Y,Y,Y,Y,Y,Y,Y,Y,Z,Z,Z] HT_ ?_
    refine pu 19 (some 31) #[Y,Y,Y,Y,Y,Y,Y,Y,Y,Y,Y,Y,Y,Y,Y,Y,Y,Y,Y,Y,Z,Z] HT_ ?_
    refine pa 20 (some 32) #[Y,Y,Y,Y,Y,Y,Y,Y,Y,Y,Y,Y,Y,Y,Y,Y,Y,Y,Y,Y,Y,Z] HT_ ?_
    refine pa 21 (some 4) #[Y,Y,Y,Y,Y,Y,Y,Y,Y,Y,Y,Y,Y,Y,Y,Y,Y,Y,Y,Y,Y,Y] HT_ ?_
    refine done_ (done_of HT_.out (by kernel_rfl)) ?_
    try go_wp2
    go_ret
    exact ⟨re, bw⟩
   ·have c7b0 : decide (200 ≤ a1) = false := decide_eq_false c7
    clear c7
    replace H := gp H; obtain ⟨c12, H⟩ := H
    have c12b0 : decide (0 < (l0_0.length : Int)) = true := decide_eq_true c12
    have c12b1 : decide (0 < l0_0.length) = true := decide_eq_true (by omega)
    clear c12
    replace H := ga H; obtain ⟨t781, A13, H⟩ := H
    by_cases c14 : (rd l0_0 0) = 0
    ·rw [if_pos c14] at H
     exact absurd H (by simp)
    ·rw [if_neg c14] at H
     have c14b0 : ((rd l0_0 0) == 0) = false := beq_eq_false_iff_ne.mpr c14
     have c14b1 : ((rd l0_0 0) != 0) = true := bne_iff_ne.mpr c14
     obtain ⟨ji15, hji15⟩ : ∃ j_ : Int, (Int.tmod a1 (rd l0_0 0)) = j_ := ⟨_, rfl⟩
     replace H : (if 0 ≤ (ji15) then (if (ji15) < (t781.length : Int) then (some (decide ((rd t781 (ji15)) ≤ a1))) else (none)) else (none)) = some r := by first | (rw [hji15] at H; exact H) | (simp only [hji15] at H ⊢; exact H)
     (try rw [hji15] at A5)
     (try rw [hji15] at A13)
     replace H := gd H; obtain ⟨c16b0, H⟩ := H
     replace H := gd H; obtain ⟨c17b0, H⟩ := H
     obtain rfl := Option.some.inj H
     go_enter Try.func105, Try.ntmps105
     try go_wp2_with (first | ((with_reducible refine gate_dst (N := 2) rfl ?_); refine bx 2 #[.slice A0_0 l0_0.length c0_0] 27 ?_; intro gb778 hg w18 hbox hb; have BK778 := Aside0.mk (hbox); have GW778 := Aside0.mk (gs hg : w.heap.size ≤ gb778); have GE778 := Aside0.mk (gs hg : w.heap.size ≤ gb778); replace HB := Aside0.mk (below_step bw hb); clear hb hbox hg; have hcz19_0 := bc BK778 0 (.slice A0_0 l0_0.length c0_0); have hfz19_0 := blk_frozen BK778.out 0) | (go_at_call 58; (with_reducible refine (impl_IsSemigroup.calls k _ _ l0_0 true _ ?side1 ?side2 A5.out).mono ?_); (case side1 => exact co (Kd.C_below HR0_0.out HB.out)); (case side2 => exact HC0_0.out); rintro e w20 ⟨rfl, hb⟩; replace BK778 := Aside0.mk (blk_below (g := gb778) (o := .cells #[.slice A0_0 l0_0.length c0_0] 27 (0, 0)) (bo BK778.out) hb); replace HB := Aside0.mk (below_step bw hb); clear hb))
     replace BK778 := Aside0.mk (blk_drew BK778.out)
     replace HB := Aside0.mk (below_drew1 HB.out)
     have p780 : 0 ≤ (0 : Int) := (by omega)
     have q780 : 0 < (l0_0.length : Int) := of_decide_eq_true (by first | (with_reducible assumption) | assumption)
     obtain ⟨ad780, e780, hx780_0⟩ := Kd.at_int HR0_0.out 0 p780 q780
     have hw780_0 := hx780_0
     (try rw [show ((0 : Int)).toNat = 0 from rfl] at hw780_0)
     (try rw [show 0 * 1 = 0 from rfl] at hw780_0)
     (try rw [Addr.add_zero'] at hw780_0)
     cases e780
     have qi780 : (0 < l0_0.length) = True := eq_true (by omega)
     (try rw [show ((0 : Int)).toNat = 0 from rfl] at hx780_0)
     (try rw [Addr.add_zero'] at hx780_0)
     replace hx780_0 := (HB.out.cell (World.block_lt_of_cell? w _ hx780_0)).trans hx780_0
     replace p780 := eq_true p780
     replace q780 := eq_true q780
     have p784 : 0 ≤ (0 : Int) := (by omega)
     have q784 : 0 < (l0_0.length : Int) := of_decide_eq_true (by first | (with_reducible assumption) | assumption)
     obtain ⟨ad784, e784, hx784_0⟩ := Kd.at_int HR0_0.out 0 p784 q784
     have hw784_0 := hx784_0
     (try rw [show ((0 : Int)).toNat = 0 from rfl] at hw784_0)
     (try rw [show 0 * 1 = 0 from rfl] at hw784_0)
     (try rw [Addr.add_zero'] at hw784_0)
     obtain rfl : ad780 = ad784 := (by injection e784)
     have qi784 : (0 < l0_0.length) = True := eq_true (by omega)
     (try rw [show ((0 : Int)).toNat = 0 from rfl] at hx784_0)
     (try rw [Addr.add_zero'] at hx784_0)
     replace hx784_0 := (HB.out.cell (World.block_lt_of_cell? w _ hx784_0)).trans hx784_0
     replace p784 := eq_true p784
     replace q784 := eq_true q784
     refine start_ (n := 22) (S := fun w' => w'.cell? ⟨gb778, 0, none⟩ = some (.slice (some ad780) l0_0.length c0_0) ∧ w'.cell? ad780 = some (.int .i64 (rd l0_0 0)) ∧ w'.cell? ad780 = some (.int .i64 (rd l0_0 0))) (ds := []) #[Z,Z,Z,Z,Z,Z,Z,Z,Z,Z,Z,Z,Z,Z,Z,Z,Z,Z,Z,Z,Z,Z] (by kernel_rfl) rfl rfl ⟨(blk_cell BK778.out 0).trans rfl, ((HB.out.cell (World.block_lt_of_cell? w _ hw780_0)).trans hw780_0), ((HB.out.cell (World.block_lt_of_cell? w _ hw784_0)).trans hw784_0)⟩ (fun hHeld => ?_); refine with_tabW impl_Contains.tab3 impl_Contains.bits3 (fun HT_ HW_ => ?_)
     generalize w20.drew = w21 at BK778 HB hx780_0 hx784_0 hHeld ⊢
     refine pa 0 (some 12) #[Y,Z,Z,Z,Z,Z,Z,Z,Z,Z,Z,Z,Z,Z,Z,Z,Z,Z,Z,Z,Z,Z] HT_ ?_
     refine pa 1 (some 13) #[Y,Y,Z,Z,Z,Z,Z,Z,Z,Z,Z,Z,Z,Z,Z,Z,Z,Z,Z,Z,Z,Z] HT_ ?_
     refine pa 2 (some 14) #[Y,Y,Y,Z,Z,Z,Z,Z,Z,Z,Z,Z,Z,Z,Z,Z,Z,Z,Z,Z,Z,Z] HT_ ?_
     refine pa 3 (some 15) #[Y,Y,Y,Y,Z,Z,Z,Z,Z,Z,Z,Z,Z,Z,Z,Z,Z,Z,Z,Z,Z,Z] HT_ ?_
     refine pa 5 (some 17) #[Y,Y,Y,Y,Z,Y,Z,Z,Z,Z,Z,Z,Z,Z,Z,Z,Z,Z,Z,Z,Z,Z] HT_ ?_
     refine pa 10 (some 22) #[Y,Y,Y,Y,Z,Y,Z,Z,Z,Z,Y,Z,Z,Z,Z,Z,Z,Z,Z,Z,Z,Z] HT_ ?_
     refine pa 11 (some 23) #[Y,Y,Y,Y,Z,Y,Z,Z,Z,Z,Y,Y,Z,Z,Z,Z,Z,Z,Z,Z,Z,Z] HT_ ?_
     refine pa 18 (some 30) #[Y,Y,Y,Y,Z,Y,Z,Z,Z,Z,Y,Y,Z,Z,Z,Z,Z,Z,Y,Z,Z,Z] HT_ ?_
     refine take_ (i := 4) (N := some 16) (v := ?_) (a' := ?_) #[Y,Y,Y,Y,Y,Y,Z,Z,Z,Z,Y,Y,Z,Z,Z,Z,Z,Z,Y,Z,Z,Z] rfl rfl (take_ofW HT_.out HW_.out (by kernel_rfl)) (fun _ _ _ h => h) (Or.inl ⟨by rfl, ?_⟩) hHeld ?_ ?_
     rotate_left
     ·rintro w' ⟨s0, s1, s2⟩
      go_simp
      with_reducible rfl
     rotate_left
     ·simp only [Act.put, qa, qb, qc, i64_w, i32_w]
      rfl
     refine take_ (i := 6) (N := some 18) (v := ?_) (a' := ?_) #[Y,Y,Y,Y,Y,Y,Y,Z,Z,Z,Y,Y,Z,Z,Z,Z,Z,Z,Y,Z,Z,Z] rfl rfl (take_ofW HT_.out HW_.out (by kernel_rfl)) (fun _ _ _ h => h) (Or.inl ⟨by rfl, ?_⟩) hHeld ?_ ?_
     rotate_left
     ·rintro w' ⟨s0, s1, s2⟩
      go_simp
      with_reducible rfl
     rotate_left
     ·simp only [Act.put, qa, qb, qc, i64_w, i32_w]
      rfl
     refine pa 7 (some 19) #[Y,Y,Y,Y,Y,Y,Y,Y,Z,Z,Y,Y,Z,Z,Z,Z,Z,Z,Y,Z,Z,Z] HT_ ?_
     refine take_ (i := 8) (N := some 20) (v := ?_) (a' := ?_) #[Y,Y,Y,Y,Y,Y,Y,Y,Y,Z,Y,Y,Z,Z,Z,Z,Z,Z,Y,Z,Z,Z] rfl rfl (take_ofW HT_.out HW_.out (by kernel_rfl)) (fun _ _ _ h => h) (Or.inl ⟨by rfl, ?_⟩) hHeld ?_ ?_
     rotate_left
     ·rintro w' ⟨s0, s1, s2⟩
      go_simp
      with_reducible rfl
     rotate_left
     ·simp only [Act.put, qa, qb, qc, i64_w, i32_w]
      rfl
     refine take_ (i := 12) (N := some 24) (v := ?_) (a' := ?_) #[Y,Y,Y,Y,Y,Y,Y,Y,Y,Z,Y,Y,Y,Z,Z,Z,Z,Z,Y,Z,Z,Z] rfl rfl (take_ofW HT_.out HW_.out (by kernel_rfl)) (fun _ _ _ h => h) (Or.inl ⟨by rfl, ?_⟩) hHeld ?_ ?_
     rotate_left
     ·rintro w' ⟨s0, s1, s2⟩
      go_simp
      with_reducible rfl
     rotate_left
     ·simp only [Act.put, qa, qb, qc, i64_w, i32_w]
      rfl
     refine pa 13 (some 25) #[Y,Y,Y,Y,Y,Y,Y,Y,Y,Z,Y,Y,Y,Y,Z,Z,Z,Z,Y,Z,Z,Z] HT_ ?_
     refine take_ (i := 14) (N := some 26) (v := ?_) (a' := ?_) #[Y,Y,Y,Y,Y,Y,Y,Y,Y,Z,Y,Y,Y,Y,Y,Z,Z,Z,Y,Z,Z,Z] rfl rfl (take_ofW HT_.out HW_.out (by kernel_rfl)) (fun _ _ _ h => h) (Or.inl ⟨by rfl, ?_⟩) hHeld ?_ ?_
     rotate_left
     ·rintro w' ⟨s0, s1, s2⟩
      go_simp
      with_reducible rfl
     rotate_left
     ·simp only [Act.put, qa, qb, qc, i64_w, i32_w]
      rfl
     refine pa 15 (some 27) #[Y,Y,Y,Y,Y,Y,Y,Y,Y,Z,Y,Y,Y,Y,Y,Y,Z,Z,Y,Z,Z,Z] HT_ ?_
     refine oa 9 (some 21) #[Y,Y,Y,Y,Y,Y,Y,Y,Y,Y,Y,Y,Y,Y,Y,Y,Z,Z,Y,Z,Z,Z] HT_ (fun K hK => ?_)
     refine gm Try.func95 #[.slice (some ad780) l0_0.length c0_0, .int .i64 (rd l0_0 0)] ?_
     with_reducible refine (impl_leasts.calls k _ _ l0_0 (rd l0_0 0) t781 _ ?side1 ?side2 A13.out).mono ?_
     (case side1 => exact co (Kd.C_below HR0_0.out HB.out))
     (case side2 => exact HC0_0.out)
     rintro e w22 ⟨v782, rfl, ho0, hb⟩
     refine ⟨_, rfl, ?_⟩
     have HO783 := Aside0.mk (Kd.R_lower ho0 (below_size bw))
     replace BK778 := Aside0.mk (blk_below (g := gb778) (o := .cells #[.slice (some ad780) l0_0.length c0_0] 27 (0, 0)) (bo BK778.out) hb)
     replace HB := Aside0.mk (below_step bw hb)
     clear hb ho0
     obtain ⟨Ao23, co23, eo23⟩ := Kd.R_slice HO783.out
     (first | subst eo23 | (injection eo23 with f1_ f2_ f3_; have f4_ := f1_.symm; have f5_ := f3_.symm; clear f1_ f2_ f3_; subst f4_; subst f5_))
     obtain ⟨⟨ad785, e785, hx785_0⟩, p785, q785⟩ := pq (Kd.at_int (Kd.R_reads' HO783.out).2.2 (ji15))
     cases e785
     refine hK.out _ _ ⟨(blk_cell BK778.out 0).trans rfl, ((HB.out.cell (World.block_lt_of_cell? w _ hw780_0)).trans hw780_0), ((HB.out.cell (World.block_lt_of_cell? w _ hw784_0)).trans hw784_0)⟩ (fun hHeld => ?_)
     clear hK K
     refine norm_ (a' := ?_) ?_ ?_
     rotate_left
     ·show Act.put _ (some 21) _ = _
      simp only [Act.put, qa, qb, qc, i64_w, i32_w]
      rfl
     refine pa 16 (some 28) #[Y,Y,Y,Y,Y,Y,Y,Y,Y,Y,Y,Y,Y,Y,Y,Y,Y,Z,Y,Z,Z,Z] HT_ ?_
     refine oa 17 (some 29) #[Y,Y,Y,Y,Y,Y,Y,Y,Y,Y,Y,Y,Y,Y,Y,Y,Y,Y,Y,Z,Z,Z] HT_ (fun K hK => ?_)
     refine value_ (w1 := ?_) (v := ?_) (by rfl) rfl ?_ ?_
     rotate_left 2
     ·go_simp
      constructor
      ·rfl
      ·rfl
     refine hK.out _ _ hHeld (fun hHeld => ?_)
     clear hK K
     refine norm_ (a' := ?_) ?_ ?_
     rotate_left
     ·show Act.put _ (some 29) _ = _
      simp only [Act.put, qa, qb, qc, i64_w, i32_w]
      rfl
     refine pa 19 (some 31) #[Y,Y,Y,Y,Y,Y,Y,Y,Y,Y,Y,Y,Y,Y,Y,Y,Y,Y,Y,Y,Z,Z] HT_ ?_
     refine pa 20 (some 32) #[Y,Y,Y,Y,Y,Y,Y,Y,Y,Y,Y,Y,Y,Y,Y,Y,Y,Y,Y,Y,Y,Z] HT_ ?_
     refine pa 21 (some 4) #[Y,Y,Y,Y,Y,Y,Y,Y,Y,Y,Y,Y,Y,Y,Y,Y,Y,Y,Y,Y,Y,Y] HT_ ?_
     refine done_ (done_of HT_.out (by kernel_rfl)) ?_
     try go_wp2
     go_ret
     exact ⟨by first | rfl | (simp [errW_none, errW_some] <;> rfl) | (simp only [← hji15]; first | rfl | (simp [errW_none, errW_some] <;> rfl)) | (simp [*, errW_none, errW_some] <;> rfl), bw⟩
  ·obtain rfl := Option.some.inj H
   go_enter Try.func105, Try.ntmps105
   go_wp2_with (first | ((with_reducible refine gate_dst (N := 2) rfl ?_); refine bx 2 #[.slice A0_0 l0_0.length c0_0] 27 ?_; intro gb778 hg w24 hbox hb; have BK778 := Aside0.mk (hbox); have GW778 := Aside0.mk (gs hg : w.heap.size ≤ gb778); have GE778 := Aside0.mk (gs hg : w.heap.size ≤ gb778); replace HB := Aside0.mk (below_step bw hb); clear hb hbox hg; have hcz25_0 := bc BK778 0 (.slice A0_0 l0_0.length c0_0); have hfz25_0 := blk_frozen BK778.out 0) | (go_at_call 58; (with_reducible refine (impl_IsSemigroup.calls k _ _ l0_0 false _ ?side1 ?side2 A5.out).mono ?_); (case side1 => exact co (Kd.C_below HR0_0.out HB.out)); (case side2 => exact HC0_0.out); rintro e w26 ⟨rfl, hb⟩; replace BK778 := Aside0.mk (blk_below (g := gb778) (o := .cells #[.slice A0_0 l0_0.length c0_0] 27 (0, 0)) (bo BK778.out) hb); replace HB := Aside0.mk (below_step bw hb); clear hb))
   go_ret
   exact ⟨re, bw⟩


/-! ### impl_AperySet: function 70 -/
mutual
def impl_AperySet.j0 : Nat → Int → Bool → List Int → Option (List Int)
 | 0, _, _, _ => none
 | k + 1, x1, x16, x787000 => if x16 = true then (some ([] : List Int)) else (if 0 ≤ x1 then (if (x1 : Int).toNat ≤ 35184372088832 then ((some (List.replicate (x1 : Int).toNat 0 : List Int)).bind fun y789 => ((impl_table.f k x787000 (wrap64 (200 + x1))).bind fun t792 => (impl_AperySet.l0 k x1 y789 t792 (y789.length : Int) 0))) else (none)) else (none))
def impl_AperySet.l0 : Nat → Int → List Int → List Bool → Int → Int → Option (List Int)
 | 0, _, _, _, _, _ => none
 | k + 1, x1, x5, x6, x24, x25 => if x25 < x24 then (impl_AperySet.l1 k x1 x5 x6 x25 x24 x25) else (some x5)
def impl_AperySet.l1 : Nat → Int → List Int → List Bool → Int → Int → Int → Option (List Int)
 | 0, _, _, _, _, _, _ => none
 | k + 1, x1, x5, x6, x7, x24, x25 => if 0 ≤ x7 then (if x7 < (x5.length : Int) then (if 0 ≤ (rd x5 x7) then (if (rd x5 x7) < (x6.length : Int) then (if (rdOf false x6 (rd x5 x7) = true) then (if x1 = 0 then (none) else (if (Int.tmod (rd x5 x7) x1) = x7 then (impl_AperySet.l0 k x1 x5 x6 x24 (wrap64 (x25 + 1))) else (impl_AperySet.l1 k x1 (x5.set (x7 : Int).toNat (wrap64 ((rd x5 x7) + 1))) x6 x7 x24 x25))) else (impl_AperySet.l1 k x1 (x5.set (x7 : Int).toNat (wrap64 ((rd x5 x7) + 1))) x6 x7 x24 x25)) else (none)) else (none)) else (none)) else (none)
end
def impl_AperySet.f (k : Nat) (l0_0 : List Int) (a1 : Int) : Option (List Int) := (impl_within.f a1 1 60).bind fun t787 => (if t787 = true then ((impl_Contains.f k l0_0 a1).bind fun t788 => (impl_AperySet.j0 k a1 (!t788) l0_0)) else (impl_AperySet.j0 k a1 true l0_0))
set_option maxHeartbeats 8000000 in
set_option maxRecDepth 100000 in
theorem impl_AperySet.calls (k : Nat) (A0_0 : Option Addr) (c0_0 : Nat) (l0_0 : List Int) (a1 : Int) (r : List Int) (w : World) (hr0_0 : Kd.C (Kd.int .i64) w A0_0 l0_0.length l0_0) (hc0_0 : l0_0.length ≤ c0_0) (h : impl_AperySet.f k l0_0 a1 = some r) :
  Calls Try.prog 70 #[.agg #[.slice A0_0 l0_0.length c0_0], .int .i64 a1] w fun e w' => ∃ v0_ : Value, e = .returned (v0_) ∧ Kd.R (Kd.int .i64) 3 w' w.heap.size (fun _ => True) v0_ r ∧ Below w.heap.size w w' := by
 have hu27 := Try.underlying27
 have HR0_0 := Aside0.mk hr0_0
 have HC0_0 := Aside0.mk hc0_0
 clear hr0_0 hc0_0
 have HB := Aside0.mk (Below.refl w.heap.size w)
 have H : ((impl_within.f a1 1 60).bind fun t787 => (if t787 = true then ((impl_Contains.f k l0_0 a1).bind fun t788 => (impl_AperySet.j0 k a1 (!t788) l0_0)) else (impl_AperySet.j0 k a1 true l0_0))) = some r := h
 clear h
 have HC3 := Aside0.mk H
 clear H
 go_enter Try.func70, Try.ntmps70
 go_upto_region 1 with (first | ((with_reducible refine gate_dst (N := 2) rfl ?_); refine bx 2 #[.slice A0_0 l0_0.length c0_0] 27 ?_; intro gb786 hg w4 hbox hb; have BK786 := Aside0.mk (hbox); have GW786 := Aside0.mk (gs hg : w.heap.size ≤ gb786); have GE786 := Aside0.mk (gs hg : w.heap.size ≤ gb786); replace HB := Aside0.mk (below_step bw hb); clear hb hbox hg))
 (try simp only [Act.put, List.setIfInBounds_toArray, List.set_cons_zero, List.set_cons_succ])
 go_cut [16] (fun v16 wc => ∃ (kq : Nat) (x16_2 : Bool), v16 = .bool x16_2 ∧ Aside0 (impl_AperySet.j0 kq a1 x16_2 l0_0 = some r) ∧ Aside0 (kq ≤ k) ∧ Aside0 (wc.heap[gb786]? = some (.cells #[(.slice A0_0 l0_0.length c0_0)] 27 (0, 0))) ∧ Aside0 (Below w.heap.size w wc))
 case first =>
  have H := HC3.out
  clear HC3
  replace H := ga H; obtain ⟨t787, A5, H⟩ := H
  replace H := gb H; obtain ⟨rfl, H⟩ | ⟨rfl, H⟩ := H
  ·replace H := ga H; obtain ⟨t788, A7, H⟩ := H
   have H' := Aside0.mk H
   clear H
   go_wp2_with (first | ((with_reducible refine gate_callee (f := 59) rfl ?_); refine gl (some 9) Try.func59 #[.int .i64 a1, .int .i64 1, .int .i64 60] ?_; (with_reducible refine (impl_within.calls a1 1 60 true _ A5.out).mono ?_); rintro e w' ⟨rfl, ⟨nd, rfl⟩⟩; refine ⟨_, rfl, ?_⟩; have hcz8_0 := bc BK786 0 (.slice A0_0 l0_0.length c0_0); have hfz8_0 := blk_frozen BK786.out 0) | (go_at_call 105; (with_reducible refine (impl_Contains.calls k _ _ l0_0 a1 t788 _ ?side1 ?side2 A7.out).mono ?_); (case side1 => exact co (Kd.C_below HR0_0.out bw)); (case side2 => exact HC0_0.out); rintro e w9 ⟨rfl, hb⟩; replace BK786 := Aside0.mk (blk_below (g := gb786) (o := .cells #[.slice A0_0 l0_0.length c0_0] 27 (0, 0)) (bo BK786.out) hb); replace HB := Aside0.mk (below_step bw hb); clear hb))
   go_meet
   case rel => exact ⟨_, (!t788), rr, H', ⟨om⟩, ⟨bo BK786.out⟩, ⟨bw⟩⟩
  ·have H' := Aside0.mk H
   clear H
   go_wp2_with (first | ((with_reducible refine gate_callee (f := 59) rfl ?_); refine gl (some 9) Try.func59 #[.int .i64 a1, .int .i64 1, .int .i64 60] ?_; (with_reducible refine (impl_within.calls a1 1 60 false _ A5.out).mono ?_); rintro e w' ⟨rfl, ⟨nd, rfl⟩⟩; refine ⟨_, rfl, ?_⟩))
   go_meet
   case rel => exact ⟨_, (true), rr, H', ⟨om⟩, ⟨bo BK786.out⟩, ⟨bw⟩⟩
 case rest =>
  clear HC3
  try clear hcz8_0; try clear hfz8_0
  obtain ⟨kq, x16_2, rfl, HA, HJ2, BK786, HB⟩ := hcut
  cases kq with
  | zero => exact absurd HA.out (by simp [impl_AperySet.j0])
  | succ kj2 =>
   have H := HA.out
   clear HA
   simp only [impl_AperySet.j0] at H
   replace H := gb H; obtain ⟨rfl, H⟩ | ⟨rfl, H⟩ := H
   ·obtain rfl := Option.some.inj H
    go_wp2
    go_ret
    exact ⟨_, re, by first | exact Kd.R_nil _ _ _ _ _ | exact Kd.N_nil _ _ _ _ _ | exact Kd.V_nil _ _ _ _ _ | exact Kd.Q_nil _ _ _ _ _ | exact Kd.S_nil _ _ _ _ _, bw⟩
   ·replace H := gp H; obtain ⟨c11, H⟩ := H
    have c11b0 := eq_true c11
    have c11b1 : decide (0 ≤ a1) = true := decide_eq_true c11
    clear c11
    replace H := gp H; obtain ⟨c12, H⟩ := H
    have c12b0 := eq_true c12
    have c12b1 : decide ((a1 : Int).toNat ≤ 35184372088832) = true := decide_eq_true c12
    clear c12
    obtain ⟨y789, hy789⟩ : ∃ y_ : List Int, y_ = (List.replicate (a1 : Int).toNat 0) := ⟨_, rfl⟩
    replace H : ((impl_table.f kj2 l0_0 (wrap64 (200 + a1))).bind fun t792 => (impl_AperySet.l0 kj2 a1 y789 t792 (y789.length : Int) 0)) = some r := by first | (rw [hy789]; with_reducible exact H) | (have H2_ := (Option.bind_some _ _).symm.trans H; rw [hy789]; with_reducible exact H2_) | (have H2_ := (Option.bind_some _ _).symm.trans H; with_reducible exact H2_) | with_reducible exact H | (rw [hy789]; exact H) | exact H
    have Ny789 := Aside0.mk hy789
    clear hy789
    replace H := ga H; obtain ⟨t792, A13, H⟩ := H
    have H' := Aside0.mk H
    clear H
    go_wp2_with (first | ((with_reducible refine gate_dst (N := 18) rfl ?_); refine Kd.R_make (Kd.int .i64) _ 3 rfl (N := 18) rfl 22 _ _ rfl a1 rfl rfl Try.underlying22 (.int .i64 0) 8 info3 rfl (by decide) (by omega) 0 (ok := fun _ => True) (okp := fun _ => True) rfl (fun _ hk => hk) trivial (of_decide_eq_true (by first | (with_reducible assumption) | assumption)) (Nat.le_trans (Nat.mul_le_mul_right _ (of_decide_eq_true (by first | (with_reducible assumption) | assumption) : a1.toNat ≤ 35184372088832)) (by omega)) (Below.refl _ _) (Nat.le_refl _) ?_; intro v790 w14 ho15 hb hg_ hnew_; clear hg_ hnew_; (first | rw [← Ny789.out] at ho15 | (simp only [Int.reduceToNat] at ho15; rw [← Ny789.out] at ho15)); have HO791 := Aside0.mk (Kd.R_lower ho15 (below_size bw)); replace BK786 := Aside0.mk (blk_below (g := gb786) (o := .cells #[.slice A0_0 l0_0.length c0_0] 27 (0, 0)) (bo BK786.out) hb); replace HB := Aside0.mk (below_step bw hb); clear hb ho15; have hcz16_0 := bc BK786 0 (.slice A0_0 l0_0.length c0_0); have hfz16_0 := blk_frozen BK786.out 0) | ((with_reducible refine gate_callee (f := 88) rfl ?_); refine gl (some 22) Try.func88 #[.agg #[.slice A0_0 l0_0.length c0_0], .int .i64 (wrap64 (200 + a1))] ?_; (with_reducible refine (impl_table.calls kj2 _ _ l0_0 (wrap64 (200 + a1)) t792 _ ?side1 ?side2 A13.out).mono ?_); (case side1 => exact co (Kd.C_below HR0_0.out HB.out)); (case side2 => exact HC0_0.out); rintro e w17 ⟨v793, rfl, ho0, hb⟩; refine ⟨_, rfl, ?_⟩; replace HO791 := Aside0.mk (Kd.R_below (ro HO791.out) hb); have HO794 := Aside0.mk (Kd.R_lower ho0 (below_size bw)); replace BK786 := Aside0.mk (blk_below (g := gb786) (o := .cells #[.slice A0_0 l0_0.length c0_0] 27 (0, 0)) (bo BK786.out) hb); replace HB := Aside0.mk (below_step bw hb); clear hb ho0; obtain ⟨Ao18, co18, eo18⟩ := Kd.R_slice HO791.out; subst eo18))
    go_loopg [25] kj2 (fun kq v25 w' => ∃ (x5_2 : List Int) (x25_2 : Int), v25 = .int .i64 x25_2 ∧ Aside0 (impl_AperySet.l0 kq a1 x5_2 t792 (y789.length : Int) x25_2 = some r) ∧ Aside0 (kq ≤ kj2) ∧ Aside0 (Kd.R (Kd.int .i64) 3 w' w.heap.size (fun _ => True) (.slice Ao18 y789.length co18) x5_2) ∧ Aside0 (Kd.R Kd.bool 4 w' w.heap.size (fun _ => True) v793 t792) ∧ Aside0 (w'.heap[gb786]? = some (.cells #[(.slice A0_0 l0_0.length c0_0)] 27 (0, 0))) ∧ Aside0 (Below w.heap.size w w'))
    case atStart => exact ⟨(y789), (0), rr, H', ⟨Nat.le_refl _⟩, ⟨ro HO791.out⟩, ⟨ro HO794.out⟩, ⟨bo BK786.out⟩, ⟨bw⟩⟩
    case round =>
     clear H'
     try clear c11; try clear c11b0; try clear c11b1; try clear c12; try clear c12b0; try clear c12b1; try clear hcz16_0; try clear hcz8_0; try clear hfz16_0; try clear hfz8_0
     obtain ⟨x5_2, x25_2, rfl, HA, HK2, HO_5, HO_6, BK786, HB⟩ := hrel
     have hl5_2 := (Kd.R_reads' HO_5.out).1
     rw [hl5_2] at HO_5
     (try simp only [hl5_2])
     (try simp only [hl5_2] at BK786)
     (try simp only [hl5_2] at HO_6)
     cases gk with
     | zero => exact absurd HA.out (by simp [impl_AperySet.l0])
     | succ k2 =>
      have H := HA.out
      clear HA
      simp only [impl_AperySet.l0] at H
      by_cases c19 : x25_2 < (y789.length : Int)
      ·rw [if_pos c19] at H
       have c19b0 : decide (x25_2 < (y789.length : Int)) = true := decide_eq_true c19
       (try simp only [hl5_2] at c19b0)
       clear c19
       have H' := Aside0.mk H
       clear H
       go_wp2
       go_loopg [] k2 (fun kq w' => ∃ (x5_3 : List Int), Aside0 (impl_AperySet.l1 kq a1 x5_3 t792 x25_2 (y789.length : Int) x25_2 = some r) ∧ Aside0 (kq ≤ k2) ∧ Aside0 (Kd.R (Kd.int .i64) 3 w' w.heap.size (fun _ => True) (.slice Ao18 x5_2.length co18) x5_3) ∧ Aside0 (Kd.R Kd.bool 4 w' w.heap.size (fun _ => True) v793 t792) ∧ Aside0 (w'.heap[gb786]? = some (.cells #[(.slice A0_0 l0_0.length c0_0)] 27 (0, 0))) ∧ Aside0 (Below w.heap.size w w'))
       case atStart => exact ⟨(x5_2), H', ⟨Nat.le_refl _⟩, ⟨by (try simp only [hl5_2]); (with_reducible repeat (first | apply Kd.R_alloc | apply Kd.R_drewN | apply Kd.R_drew)); exact HO_5.out⟩, ⟨by (try simp only [hl5_2]); (with_reducible repeat (first | apply Kd.R_alloc | apply Kd.R_drewN | apply Kd.R_drew)); exact HO_6.out⟩, ⟨by (try simp only [hl5_2]); (with_reducible repeat (first | refine blk_drewN ?_ _ | refine blk_drew ?_ | refine blk_alloc ?_ _)); exact BK786.out⟩, ⟨bw⟩⟩
       case round =>
        clear H'
        try clear c11; try clear c11b0; try clear c11b1; try clear c12; try clear c12b0; try clear c12b1; try clear c19; try clear c19b0; try clear hcz16_0; try clear hcz8_0; try clear hfz16_0; try clear hfz8_0
        obtain ⟨x5_3, HA, HK3, HO_5, HO_6, BK786, HB⟩ := hrel
        have hl5_3 := (Kd.R_reads' HO_5.out).1
        rw [hl5_3] at HO_5
        (try simp only [hl5_3])
        (try simp only [hl5_3] at BK786)
        (try simp only [hl5_3] at HO_6)
        cases gk with
        | zero => exact absurd HA.out (by simp [impl_AperySet.l1])
        | succ k3 =>
         have H := HA.out
         clear HA
         simp only [impl_AperySet.l1] at H
         replace H := gd H; obtain ⟨c20b0, H⟩ := H
         by_cases c21 : x25_2 < (x5_3.length : Int)
         rotate_left
         ·rw [if_neg c21] at H
          exact absurd H (by simp)
         rw [if_pos c21] at H
         have c21b0 : decide (x25_2 < (x5_3.length : Int)) = true := decide_eq_true c21
         (try simp only [hl5_2, hl5_3] at c21b0)
         clear c21
         replace H := gd H; obtain ⟨c22b0, H⟩ := H
         replace H := gd H; obtain ⟨c23b0, H⟩ := H
         obtain ⟨bq24, hbq24⟩ : ∃ b_ : Bool, b_ = (rdOf false t792 (rd x5_3 x25_2)) := ⟨_, rfl⟩
         replace H : (if (bq24 = true) then (if a1 = 0 then (none) else (if (Int.tmod (rd x5_3 x25_2) a1) = x25_2 then (impl_AperySet.l0 k3 a1 x5_3 t792 (y789.length : Int) (wrap64 (x25_2 + 1))) else (impl_AperySet.l1 k3 a1 (x5_3.set (x25_2 : Int).toNat (wrap64 ((rd x5_3 x25_2) + 1))) t792 x25_2 (y789.length : Int) x25_2))) else (impl_AperySet.l1 k3 a1 (x5_3.set (x25_2 : Int).toNat (wrap64 ((rd x5_3 x25_2) + 1))) t792 x25_2 (y789.length : Int) x25_2)) = some r := by rw [← hbq24] at H; exact H
         have Nbq24 := Aside0.mk hbq24
         clear hbq24
         by_cases c25 : (bq24 = true)
         ·subst c25
          have H1 : (if a1 = 0 then (none) else (if (Int.tmod (rd x5_3 x25_2) a1) = x25_2 then (impl_AperySet.l0 k3 a1 x5_3 t792 (y789.length : Int) (wrap64 (x25_2 + 1))) else (impl_AperySet.l1 k3 a1 (x5_3.set (x25_2 : Int).toNat (wrap64 ((rd x5_3 x25_2) + 1))) t792 x25_2 (y789.length : Int) x25_2))) = some r := by rw [if_pos rfl] at H; exact H
          clear H
          have H := H1
          clear H1
          by_cases c26 : a1 = 0
          ·rw [if_pos c26] at H
           exact absurd H (by simp)
          ·rw [if_neg c26] at H
           have c26b0 : (a1 == 0) = false := beq_eq_false_iff_ne.mpr c26
           have c26b1 : (a1 != 0) = true := bne_iff_ne.mpr c26
           by_cases c27 : (Int.tmod (rd x5_3 x25_2) a1) = x25_2
           ·rw [if_pos c27] at H
            have c27b0 : ((Int.tmod (rd x5_3 x25_2) a1) == x25_2) = true := beq_iff_eq.mpr c27
            have c27b1 : ((Int.tmod (rd x5_3 x25_2) a1) != x25_2) = false := bne_eq_false_iff_eq.mpr c27
            clear c27
            have H' := Aside0.mk H
            clear H
            obtain ⟨⟨ad795, e795, hx795_0⟩, p795, q795⟩ := pq (Kd.at_int (Kd.R_reads' HO_5.out).2.2 x25_2)
            cases e795
            obtain ⟨Ao28, co28, eo28⟩ := Kd.R_slice HO_6.out
            subst eo28
            obtain ⟨⟨ad796, e796, hx796_0⟩, p796, q796⟩ := pq (Kd.at_bool (Kd.R_reads' HO_6.out).2.2 (rd x5_3 x25_2))
            (try rw [← Nbq24.out] at hx796_0)
            cases e796
            obtain ⟨⟨ad797, e797, hx797_0⟩, p797, q797⟩ := pq (Kd.at_int (Kd.R_reads' HO_5.out).2.2 x25_2)
            obtain rfl : ad795 = ad797 := (by injection e797)
            go_wp2
            (try simp only [← hl5_2, ← hl5_3])
            go_roundg k3
            case measure => have := HJ2.out; have := HK2.out; have := HK3.out; omega
            case rel => exact ⟨(x5_3), (wrap64 (x25_2 + 1)), rr, H', ⟨by have := HJ2.out; have := HK2.out; have := HK3.out; omega⟩, ⟨by (try simp only [hl5_2]); (try simp only [hl5_3]); (with_reducible repeat (first | apply Kd.R_alloc | apply Kd.R_drewN | apply Kd.R_drew)); exact HO_5.out⟩, ⟨by (try simp only [hl5_2]); (try simp only [hl5_3]); (with_reducible repeat (first | apply Kd.R_alloc | apply Kd.R_drewN | apply Kd.R_drew)); exact HO_6.out⟩, ⟨by (try simp only [hl5_2]); (try simp only [hl5_3]); (with_reducible repeat (first | refine blk_drewN ?_ _ | refine blk_drew ?_ | refine blk_alloc ?_ _)); exact BK786.out⟩, ⟨bw⟩⟩
           ·rw [if_neg c27] at H
            have c27b0 : ((Int.tmod (rd x5_3 x25_2) a1) == x25_2) = false := beq_eq_false_iff_ne.mpr c27
            have c27b1 : ((Int.tmod (rd x5_3 x25_2) a1) != x25_2) = true := bne_iff_ne.mpr c27
            obtain ⟨y799, hy799⟩ : ∃ y_ : List Int, y_ = (x5_3.set (x25_2 : Int).toNat (wrap64 ((rd x5_3 x25_2) + 1))) := ⟨_, rfl⟩
            replace H : (impl_AperySet.l1 k3 a1 y799 t792 x25_2 (y789.length : Int) x25_2) = some r := by first | (rw [hy799]; with_reducible exact H) | (have H2_ := (Option.bind_some _ _).symm.trans H; rw [hy799]; with_reducible exact H2_) | (have H2_ := (Option.bind_some _ _).symm.trans H; with_reducible exact H2_) | with_reducible exact H | (rw [hy799]; exact H) | exact H
            have Ny799 := Aside0.mk hy799
            clear hy799
            have H' := Aside0.mk H
            clear H
            obtain ⟨⟨ad795, e795, hx795_0⟩, p795, q795⟩ := pq (Kd.at_int (Kd.R_reads' HO_5.out).2.2 x25_2)
            cases e795
            obtain ⟨Ao30, co30, eo30⟩ := Kd.R_slice HO_6.out
            subst eo30
            obtain ⟨⟨ad796, e796, hx796_0⟩, p796, q796⟩ := pq (Kd.at_bool (Kd.R_reads' HO_6.out).2.2 (rd x5_3 x25_2))
            (try rw [← Nbq24.out] at hx796_0)
            cases e796
            obtain ⟨⟨ad797, e797, hx797_0⟩, p797, q797⟩ := pq (Kd.at_int (Kd.R_reads' HO_5.out).2.2 x25_2)
            obtain rfl : ad795 = ad797 := (by injection e797)
            obtain ⟨⟨ad798, e798, hx798_0⟩, p798, q798⟩ := pq (Kd.at_int (Kd.R_reads' HO_5.out).2.2 x25_2)
            obtain rfl : ad795 = ad798 := (by injection e798)
            have p29 : 0 ≤ (x25_2 : Int) := of_decide_eq_true (by first | (with_reducible assumption) | assumption)
            have q29 : (x25_2 : Int) < ((x5_3.length : Int) : Int) := of_decide_eq_true (by first | (with_reducible assumption) | assumption)
            obtain ⟨go29, co29, eo29, gb29, gl29, cl29, HG29⟩ := Kd.R_form HO_5.out (by omega)
            (first | cases eo29 | (injection eo29 with ea_ en_ ec_; (first | subst ea_ | (injection ea_ with ea_; subst ea_)); subst ec_; clear en_))
            have GB29 := Aside0.mk gb29
            have GG29 := Aside0.mk HG29
            clear gb29 gl29 HG29
            (first | simp only [add_plain] at hx795_0 | skip)
            (first | simp only [add_plain] at hx797_0 | skip)
            (first | simp only [add_plain] at hx798_0 | skip)
            obtain ⟨hx29_0, hf29_0⟩ := Kd.R_celln 0 HO_5.out (x25_2 : Int) p29 q29
            replace p29 := eq_true p29
            replace q29 := eq_true q29
            have HP31 := Kd.R_putg HO_5.out (x25_2 : Int) (wrap64 ((rd x5_3 x25_2) + 1))
            go_wp2_with (first | ((with_reducible refine gate_store (t := 3) (p := 51) rfl ?_); refine store_event (t := 3) (p := 51) (v := ?vo_w32) (w1 := (wr.setCell ⟨go29, (x25_2 : Int).toNat, none⟩ (.int .i64 (wrap64 ((rd x5_3 x25_2) + 1))))) ?hg ?ho ?hn ?hr ?_; (case ho => rfl); (case hg => rfl); (case hn => rfl); (case hr => first | (go_simp; done) | (go_simp; rfl)); intro w32 hw; have hg : wr.grownBy w32 (some go29) := (by rw [hw]; exact HP31.2); have hp_ : Kd.R (Kd.int .i64) 3 w32 w.heap.size (fun _ => True) (.slice (some ⟨go29, 0, none⟩) x5_3.length co18) y799 := (by rw [hw, Ny799.out]; exact HP31.1); clear HP31; replace HO_6 := Aside0.mk (Kd.R_over' (v := (.slice (some ⟨go29, 0, none⟩) x5_3.length co18)) (ro HO_6.out) (Kd.R_typed HO_5.out) (by decide) hg); replace BK786 := Aside0.mk (blk_grown (g := gb786) (o := .cells #[.slice A0_0 l0_0.length c0_0] 27 (0, 0)) (bo BK786.out) hg (Kd.R_ne HO_5.out BK786.out (by decide))); replace HO_5 := Aside0.mk (hp_); replace HB := Aside0.mk ((by rw [hw]; exact below_set (HB.out) GB29.out : Below w.heap.size w w32)); clear hg hw hp_))
            (try simp only [← hl5_3])
            go_roundg k3
            case measure => have := HJ2.out; have := HK2.out; have := HK3.out; omega
            case rel => exact ⟨(y799), H', ⟨by have := HJ2.out; have := HK2.out; have := HK3.out; omega⟩, ⟨by (try simp only [hl5_2]); (try simp only [hl5_3]); (with_reducible repeat (first | apply Kd.R_alloc | apply Kd.R_drewN | apply Kd.R_drew)); exact HO_5.out⟩, ⟨by (try simp only [hl5_2]); (try simp only [hl5_3]); (with_reducible repeat (first | apply Kd.R_alloc | apply Kd.R_drewN | apply Kd.R_drew)); exact HO_6.out⟩, ⟨by (try simp only [hl5_2]); (try simp only [hl5_3]); (with_reducible repeat (first | refine blk_drewN ?_ _ | refine blk_drew ?_ | refine blk_alloc ?_ _)); exact BK786.out⟩, ⟨bw⟩⟩
         ·replace c25 := Bool.eq_false_iff.mpr c25
          subst c25
          have H1 : (impl_AperySet.l1 k3 a1 (x5_3.set (x25_2 : Int).toNat (wrap64 ((rd x5_3 x25_2) + 1))) t792 x25_2 (y789.length : Int) x25_2) = some r := by rw [if_neg (show ¬ (false = true) by decide)] at H; exact H
          clear H
          have H := H1
          clear H1
          obtain ⟨y801, hy801⟩ : ∃ y_ : List Int, y_ = (x5_3.set (x25_2 : Int).toNat (wrap64 ((rd x5_3 x25_2) + 1))) := ⟨_, rfl⟩
          replace H : (impl_AperySet.l1 k3 a1 y801 t792 x25_2 (y789.length : Int) x25_2) = some r := by first | (rw [hy801]; with_reducible exact H) | (have H2_ := (Option.bind_some _ _).symm.trans H; rw [hy801]; with_reducible exact H2_) | (have H2_ := (Option.bind_some _ _).symm.trans H; with_reducible exact H2_) | with_reducible exact H | (rw [hy801]; exact H) | exact H
          have Ny801 := Aside0.mk hy801
          clear hy801
          have H' := Aside0.mk H
          clear H
          obtain ⟨⟨ad795, e795, hx795_0⟩, p795, q795⟩ := pq (Kd.at_int (Kd.R_reads' HO_5.out).2.2 x25_2)
          cases e795
          obtain ⟨Ao34, co34, eo34⟩ := Kd.R_slice HO_6.out
          subst eo34
          obtain ⟨⟨ad796, e796, hx796_0⟩, p796, q796⟩ := pq (Kd.at_bool (Kd.R_reads' HO_6.out).2.2 (rd x5_3 x25_2))
          (try rw [← Nbq24.out] at hx796_0)
          cases e796
          obtain ⟨⟨ad800, e800, hx800_0⟩, p800, q800⟩ := pq (Kd.at_int (Kd.R_reads' HO_5.out).2.2 x25_2)
          obtain rfl : ad795 = ad800 := (by injection e800)
          have p33 : 0 ≤ (x25_2 : Int) := of_decide_eq_true (by first | (with_reducible assumption) | assumption)
          have q33 : (x25_2 : Int) < ((x5_3.length : Int) : Int) := of_decide_eq_true (by first | (with_reducible assumption) | assumption)
          obtain ⟨go33, co33, eo33, gb33, gl33, cl33, HG33⟩ := Kd.R_form HO_5.out (by omega)
          (first | cases eo33 | (injection eo33 with ea_ en_ ec_; (first | subst ea_ | (injection ea_ with ea_; subst ea_)); subst ec_; clear en_))
          have GB33 := Aside0.mk gb33
          have GG33 := Aside0.mk HG33
          clear gb33 gl33 HG33
          (first | simp only [add_plain] at hx795_0 | skip)
          (first | simp only [add_plain] at hx800_0 | skip)
          obtain ⟨hx33_0, hf33_0⟩ := Kd.R_celln 0 HO_5.out (x25_2 : Int) p33 q33
          replace p33 := eq_true p33
          replace q33 := eq_true q33
          have HP35 := Kd.R_putg HO_5.out (x25_2 : Int) (wrap64 ((rd x5_3 x25_2) + 1))
          go_wp2_with (first | ((with_reducible refine gate_store (t := 3) (p := 51) rfl ?_); refine store_event (t := 3) (p := 51) (v := ?vo_w36) (w1 := (wr.setCell ⟨go33, (x25_2 : Int).toNat, none⟩ (.int .i64 (wrap64 ((rd x5_3 x25_2) + 1))))) ?hg ?ho ?hn ?hr ?_; (case ho => rfl); (case hg => rfl); (case hn => rfl); (case hr => first | (go_simp; done) | (go_simp; rfl)); intro w36 hw; have hg : wr.grownBy w36 (some go33) := (by rw [hw]; exact HP35.2); have hp_ : Kd.R (Kd.int .i64) 3 w36 w.heap.size (fun _ => True) (.slice (some ⟨go33, 0, none⟩) x5_3.length co18) y801 := (by rw [hw, Ny801.out]; exact HP35.1); clear HP35; replace HO_6 := Aside0.mk (Kd.R_over' (v := (.slice (some ⟨go33, 0, none⟩) x5_3.length co18)) (ro HO_6.out) (Kd.R_typed HO_5.out) (by decide) hg); replace BK786 := Aside0.mk (blk_grown (g := gb786) (o := .cells #[.slice A0_0 l0_0.length c0_0] 27 (0, 0)) (bo BK786.out) hg (Kd.R_ne HO_5.out BK786.out (by decide))); replace HO_5 := Aside0.mk (hp_); replace HB := Aside0.mk ((by rw [hw]; exact below_set (HB.out) GB33.out : Below w.heap.size w w36)); clear hg hw hp_))
          (try simp only [← hl5_3])
          go_roundg k3
          case measure => have := HJ2.out; have := HK2.out; have := HK3.out; omega
          case rel => exact ⟨(y801), H', ⟨by have := HJ2.out; have := HK2.out; have := HK3.out; omega⟩, ⟨by (try simp only [hl5_2]); (try simp only [hl5_3]); (with_reducible repeat (first | apply Kd.R_alloc | apply Kd.R_drewN | apply Kd.R_drew)); exact HO_5.out⟩, ⟨by (try simp only [hl5_2]); (try simp only [hl5_3]); (with_reducible repeat (first | apply Kd.R_alloc | apply Kd.R_drewN | apply Kd.R_drew)); exact HO_6.out⟩, ⟨by (try simp only [hl5_2]); (try simp only [hl5_3]); (with_reducible repeat (first | refine blk_drewN ?_ _ | refine blk_drew ?_ | refine blk_alloc ?_ _)); exact BK786.out⟩, ⟨bw⟩⟩
      ·rw [if_neg c19] at H
       have c19b0 : decide (x25_2 < (y789.length : Int)) = false := decide_eq_false c19
       (try simp only [hl5_2] at c19b0)
       clear c19
       obtain rfl := Option.some.inj H
       go_wp2
       go_ret
       exact ⟨_, re, ro HO_5.out, bw⟩


/-! ### impl_ExceedingOf: function 38 -/
def impl_ExceedingOf.l0 : Nat → Int → List Int → List Int → Int → Int → Option (List Int)
 | 0, _, _, _, _, _ => none
 | k + 1, x1, x6, x18, x19, x20 => if x20 < x19 then (if 0 ≤ x20 then (if x20 < (x18.length : Int) then (if x6.length < 17592186044416 then (impl_ExceedingOf.l0 k x1 (x6 ++ [wrap64 ((rd x18 x20) - x1)]) x18 x19 (wrap64 (x20 + 1))) else (none)) else (none)) else (none)) else (some x6)
def impl_ExceedingOf.f (k : Nat) (l0_0 : List Int) (a1 : Int) : Option (List Int) := (impl_AperySet.f k l0_0 a1).bind fun t803 => (if (t803.length : Int) = 0 then (some ([] : List Int)) else ((impl_MaximalOf.f k l0_0 t803).bind fun t809 => (impl_ExceedingOf.l0 k a1 (([] : List Int)) t809 (t809.length : Int) 0)))
set_option maxHeartbeats 8000000 in
set_option maxRecDepth 100000 in
theorem impl_ExceedingOf.calls (k : Nat) (A0_0 : Option Addr) (c0_0 : Nat) (l0_0 : List Int) (a1 : Int) (r : List Int) (w : World) (hr0_0 : Kd.C (Kd.int .i64) w A0_0 l0_0.length l0_0) (hc0_0 : l0_0.length ≤ c0_0) (h : impl_ExceedingOf.f k l0_0 a1 = some r) :
  Calls Try.prog 38 #[.agg #[.slice A0_0 l0_0.length c0_0], .int .i64 a1] w fun e w' => ∃ v0_ : Value, e = .returned (v0_) ∧ Kd.R (Kd.int .i64) 3 w' w.heap.size (fun _ => True) v0_ r ∧ Below w.heap.size w w' := by
 have hu27 := Try.underlying27
 have HR0_0 := Aside0.mk hr0_0
 have HC0_0 := Aside0.mk hc0_0
 clear hr0_0 hc0_0
 have HB := Aside0.mk (Below.refl w.heap.size w)
 have H : ((impl_AperySet.f k l0_0 a1).bind fun t803 => (if (t803.length : Int) = 0 then (some ([] : List Int)) else ((impl_MaximalOf.f k l0_0 t803).bind fun t809 => (impl_ExceedingOf.l0 k a1 (([] : List Int)) t809 (t809.length : Int) 0)))) = some r := h
 clear h
 replace H := ga H; obtain ⟨t803, A3, H⟩ := H
 by_cases c4 : (t803.length : Int) = 0
 ·rw [if_pos c4] at H
  have c4b0 : ((t803.length : Int) == 0) = true := beq_iff_eq.mpr c4
  have c4b1 : ((t803.length : Int) != 0) = false := bne_eq_false_iff_eq.mpr c4
  clear c4
  obtain rfl := Option.some.inj H
  go_enter Try.func38, Try.ntmps38
  go_wp2_with (first | ((with_reducible refine gate_dst (N := 2) rfl ?_); refine bx 2 #[.slice A0_0 l0_0.length c0_0] 27 ?_; intro gb802 hg w5 hbox hb; have BK802 := Aside0.mk (hbox); have GW802 := Aside0.mk (gs hg : w.heap.size ≤ gb802); have GE802 := Aside0.mk (gs hg : w.heap.size ≤ gb802); replace HB := Aside0.mk (below_step bw hb); clear hb hbox hg; have hcz6_0 := bc BK802 0 (.slice A0_0 l0_0.length c0_0); have hfz6_0 := blk_frozen BK802.out 0) | ((with_reducible refine gate_callee (f := 70) rfl ?_); refine gl (some 11) Try.func70 #[.agg #[.slice A0_0 l0_0.length c0_0], .int .i64 a1] ?_; (with_reducible refine (impl_AperySet.calls k _ _ l0_0 a1 t803 _ ?side1 ?side2 A3.out).mono ?_); (case side1 => exact co (Kd.C_below HR0_0.out HB.out)); (case side2 => exact HC0_0.out); rintro e w7 ⟨v804, rfl, ho0, hb⟩; refine ⟨_, rfl, ?_⟩; have HO805 := Aside0.mk (Kd.R_lower ho0 (below_size bw)); replace BK802 := Aside0.mk (blk_below (g := gb802) (o := .cells #[.slice A0_0 l0_0.length c0_0] 27 (0, 0)) (bo BK802.out) hb); replace HB := Aside0.mk (below_step bw hb); clear hb ho0; obtain ⟨Ao8, co8, eo8⟩ := Kd.R_slice HO805.out; subst eo8))
  go_ret
  exact ⟨_, re, by first | exact Kd.R_nil _ _ _ _ _ | exact Kd.N_nil _ _ _ _ _ | exact Kd.V_nil _ _ _ _ _ | exact Kd.Q_nil _ _ _ _ _ | exact Kd.S_nil _ _ _ _ _, bw⟩
 ·rw [if_neg c4] at H
  have c4b0 : ((t803.length : Int) == 0) = false := beq_eq_false_iff_ne.mpr c4
  have c4b1 : ((t803.length : Int) != 0) = true := bne_iff_ne.mpr c4
  have c4b2 : ¬ (t803 = []) := fun h_ => c4 (by rw [h_]; rfl)
  obtain ⟨y806, hy806⟩ : ∃ y_ : List Int, y_ = (([] : List Int)) := ⟨_, rfl⟩
  replace H : ((impl_MaximalOf.f k l0_0 t803).bind fun t809 => (impl_ExceedingOf.l0 k a1 y806 t809 (t809.length : Int) 0)) = some r := by first | (rw [hy806]; with_reducible exact H) | (have H2_ := (Option.bind_some _ _).symm.trans H; rw [hy806]; with_reducible exact H2_) | (have H2_ := (Option.bind_some _ _).symm.trans H; with_reducible exact H2_) | with_reducible exact H | (rw [hy806]; exact H) | exact H
  have Ny806 := Aside0.mk hy806
  clear hy806
  replace H := ga H; obtain ⟨t809, A9, H⟩ := H
  have H' := Aside0.mk H
  clear H
  go_enter Try.func38, Try.ntmps38
  go_wp2_with (first | ((with_reducible refine gate_dst (N := 2) rfl ?_); refine bx 2 #[.slice A0_0 l0_0.length c0_0] 27 ?_; intro gb802 hg w10 hbox hb; have BK802 := Aside0.mk (hbox); have GW802 := Aside0.mk (gs hg : w.heap.size ≤ gb802); have GE802 := Aside0.mk (gs hg : w.heap.size ≤ gb802); replace HB := Aside0.mk (below_step bw hb); clear hb hbox hg; have hcz11_0 := bc BK802 0 (.slice A0_0 l0_0.length c0_0); have hfz11_0 := blk_frozen BK802.out 0) | ((with_reducible refine gate_callee (f := 70) rfl ?_); refine gl (some 11) Try.func70 #[.agg #[.slice A0_0 l0_0.length c0_0], .int .i64 a1] ?_; (with_reducible refine (impl_AperySet.calls k _ _ l0_0 a1 t803 _ ?side1 ?side2 A3.out).mono ?_); (case side1 => exact co (Kd.C_below HR0_0.out HB.out)); (case side2 => exact HC0_0.out); rintro e w12 ⟨v804, rfl, ho0, hb⟩; refine ⟨_, rfl, ?_⟩; have HO805 := Aside0.mk (Kd.R_lower ho0 (below_size bw)); replace BK802 := Aside0.mk (blk_below (g := gb802) (o := .cells #[.slice A0_0 l0_0.length c0_0] 27 (0, 0)) (bo BK802.out) hb); replace HB := Aside0.mk (below_step bw hb); clear hb ho0; obtain ⟨Ao13, co13, eo13⟩ := Kd.R_slice HO805.out; subst eo13) | ((with_reducible refine gate_dst (N := 15) rfl ?_); refine Kd.R_lit (Kd.int .i64) _ 3 ?hg (N := 15) ?hd (xs := ([] : List Int)) (inner := []) (ok := fun _ => True) (okp := fun _ => True) ?hr ?hp (fun _ hk => hk) trivial (Below.refl _ _) (Nat.le_refl _) (by simp) ?_; (case hd => rfl); (case hg => rfl); (case hr => first | (go_simp; done) | (go_simp; rfl)); (case hp => exact (Reps.none _ _)); intro v807 w14 ho15 hb hg_ hnew_; clear hg_ hnew_; (first | rw [← Ny806.out] at ho15 | (simp only [Int.reduceToNat] at ho15; rw [← Ny806.out] at ho15)); have HO808 := Aside0.mk (Kd.R_lower (Kd.R_new' ho15 (Kd.R_lt (ro HO805.out))) (below_size bw)); replace HO805 := Aside0.mk (Kd.R_elder' (ro HO805.out) (Kd.R_base ho15) hb); replace BK802 := Aside0.mk (blk_below (g := gb802) (o := .cells #[.slice A0_0 l0_0.length c0_0] 27 (0, 0)) (bo BK802.out) hb); replace HB := Aside0.mk (below_step bw hb); clear hb ho15; have hcz16_0 := bc BK802 0 (.slice A0_0 l0_0.length c0_0); have hfz16_0 := blk_frozen BK802.out 0) | ((with_reducible refine gate_callee (f := 19) rfl ?_); refine gl (some 18) Try.func19 #[.agg #[.slice A0_0 l0_0.length c0_0], .slice Ao13 t803.length co13] ?_; (with_reducible refine (impl_MaximalOf.calls k _ _ l0_0 _ _ t803 t809 _ ?side1 ?side2 ?side3 ?side4 A9.out).mono ?_); (case side1 => exact co (Kd.C_below HR0_0.out HB.out)); (case side2 => exact HC0_0.out); (case side3 => exact co (Kd.R_reads' HO805.out).2.2); (case side4 => exact (Kd.R_reads' HO805.out).2.1); rintro e w17 ⟨v810, rfl, ho0, hb⟩; refine ⟨_, rfl, ?_⟩; have HO811 := Aside0.mk (Kd.R_lower (Kd.R_new' (Kd.R_new' ho0 (Kd.R_lt (ro HO805.out))) (Kd.R_lt (ro HO808.out))) (below_size bw)); replace HO805 := Aside0.mk (Kd.R_elder' (ro HO805.out) (Kd.R_base ho0) hb); replace HO808 := Aside0.mk (Kd.R_elder' (ro HO808.out) (Kd.R_base ho0) hb); replace BK802 := Aside0.mk (blk_below (g := gb802) (o := .cells #[.slice A0_0 l0_0.length c0_0] 27 (0, 0)) (bo BK802.out) hb); replace HB := Aside0.mk (below_step bw hb); clear hb ho0; obtain ⟨Ao18, co18, eo18⟩ := Kd.R_slice HO811.out; subst eo18))
  go_loopg [6, 20] k (fun kq v6 v20 w' => ∃ (x6_1 : List Int) (x20_1 : Int), v20 = .int .i64 x20_1 ∧ Aside0 (impl_ExceedingOf.l0 kq a1 x6_1 t809 (t809.length : Int) x20_1 = some r) ∧ Aside0 (kq ≤ k) ∧ Aside0 (Kd.R (Kd.int .i64) 3 w' w.heap.size (fun k_ => some k_ ≠ ((.slice Ao18 t809.length co18) : Value).ownBlock) v6 x6_1) ∧ Aside0 (Kd.R (Kd.int .i64) 3 w' w.heap.size (fun k_ => some k_ ≠ (v6 : Value).ownBlock) (.slice Ao18 t809.length co18) t809) ∧ Aside0 (w'.heap[gb802]? = some (.cells #[(.slice A0_0 l0_0.length c0_0)] 27 (0, 0))) ∧ Aside0 (Below w.heap.size w w'))
  case atStart => exact ⟨(y806), (0), rr, H', ⟨Nat.le_refl _⟩, ⟨by (with_reducible repeat (first | apply Kd.R_alloc | apply Kd.R_drewN | apply Kd.R_drew)); exact Kd.R_mono HO808.out (fun _ hk => hk.2)⟩, ⟨by (with_reducible repeat (first | apply Kd.R_alloc | apply Kd.R_drewN | apply Kd.R_drew)); exact Kd.R_mono HO811.out (fun _ hk => hk.2)⟩, ⟨bo BK802.out⟩, ⟨bw⟩⟩
  case round =>
   clear H'
   try clear c4; try clear c4b0; try clear c4b1; try clear c4b2; try clear hcz11_0; try clear hcz16_0; try clear hcz6_0; try clear hfz11_0; try clear hfz16_0; try clear hfz6_0
   obtain ⟨x6_1, x20_1, rfl, HA, HK1, HO_6, HO_18, BK802, HB⟩ := hrel
   cases gk with
   | zero => exact absurd HA.out (by simp [impl_ExceedingOf.l0])
   | succ k1 =>
    have H := HA.out
    clear HA
    simp only [impl_ExceedingOf.l0] at H
    replace H := gi H; obtain ⟨c19b0, H⟩ | ⟨c19b0, H⟩ := H
    ·replace H := gd H; obtain ⟨c20b0, H⟩ := H
     replace H := gd H; obtain ⟨c21b0, H⟩ := H
     by_cases c22 : x6_1.length < 17592186044416
     rotate_left
     ·rw [if_neg c22] at H
      exact absurd H (by simp)
     rw [if_pos c22] at H
     have LMc22 := Aside0.mk c22
     clear c22
     obtain ⟨y813, hy813⟩ : ∃ y_ : List Int, y_ = (x6_1 ++ [wrap64 ((rd t809 x20_1) - a1)]) := ⟨_, rfl⟩
     replace H : (impl_ExceedingOf.l0 k1 a1 y813 t809 (t809.length : Int) (wrap64 (x20_1 + 1))) = some r := by first | (rw [hy813]; with_reducible exact H) | (have H2_ := (Option.bind_some _ _).symm.trans H; rw [hy813]; with_reducible exact H2_) | (have H2_ := (Option.bind_some _ _).symm.trans H; with_reducible exact H2_) | with_reducible exact H | (rw [hy813]; exact H) | exact H
     have Ny813 := Aside0.mk hy813
     clear hy813
     have H' := Aside0.mk H
     clear H
     obtain ⟨⟨ad812, e812, hx812_0⟩, p812, q812⟩ := pq (Kd.at_int (Kd.R_reads' HO_18.out).2.2 x20_1)
     cases e812
     go_wp2_with (first | ((with_reducible refine gate_builtin (b := .append) (xs := #[.tmp 24, .tmp 28]) rfl ?_); at_builtin; refine Kd.R_append (Kd.int .i64) (w0 := w) w.heap.size rfl (.tmp 24) (.tmp 28) 22 3 (.int .i64 0) 8 rfl Try.underlying22 info3 rfl (by decide) (by omega) u6 x6_1 (wrap64 ((rd t809 x20_1) - a1)) [.int .i64 (wrap64 ((rd t809 x20_1) - a1))] (fun k_ => some k_ ≠ (.slice (some ad812) t809.length co18 : Value).ownBlock) (fun _ => False) rfl rfl ?aP (fun _ hk => hk.elim) ?aF ?aO ?aB ?aS ?aL ?_; (case aP => exact rfl); (case aB => exact bw); (case aF => exact (fun k_ hk => Kd.fresh' (Kd.R_lt (ro HO_18.out)) k_ hk)); (case aO => exact (ro HO_6.out)); (case aS => exact (below_size bw)); (case aL => have := LMc22.out; omega); intro v814 w23 ho hb hg hat; rw [← Ny813.out] at ho; replace HO_18 := Aside0.mk (Kd.R_after (ok := (fun _ => True)) (by (with_reducible repeat (first | apply Kd.R_alloc | apply Kd.R_drewN | apply Kd.R_drew)); exact Kd.R_mono HO_18.out (fun _ hk => ⟨trivial, by first | exact hk | exact (by intro a n m c x h; cases a <;> exact h : ∀ (a : Option Addr) (n m c x : Nat), some x ≠ (Value.slice a n c).ownBlock → some x ≠ (Value.slice a m c).ownBlock) _ _ _ _ _ hk⟩)) hg hat); replace BK802 := Aside0.mk (blk_grown (g := gb802) (o := .cells #[.slice A0_0 l0_0.length c0_0] 27 (0, 0)) (bo BK802.out) hg (Kd.R_ne HO_6.out BK802.out (by decide))); replace HB := Aside0.mk (hb); have HO815 := Aside0.mk (ho); clear HO_6 ho hb hg hat))
     go_roundg k1
     case measure => have := HK1.out; omega
     case rel => exact ⟨(y813), (wrap64 (x20_1 + 1)), rr, H', ⟨by have := HK1.out; omega⟩, ⟨ro HO815.out⟩, ⟨by (with_reducible repeat (first | apply Kd.R_alloc | apply Kd.R_drewN | apply Kd.R_drew)); exact Kd.R_mono HO_18.out (fun _ hk => hk.2)⟩, ⟨bo BK802.out⟩, ⟨bw⟩⟩
    ·obtain rfl := Option.some.inj H
     go_wp2
     go_ret
     exact ⟨_, re, by (with_reducible repeat (first | apply Kd.R_alloc | apply Kd.R_drewN | apply Kd.R_drew)); exact Kd.R_mono HO_6.out (fun _ hk => trivial), bw⟩

end Go.Proofs.Ytiejmnnnjmmifaa.C
