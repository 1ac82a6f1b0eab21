/- Contracts of functions of the program: spec_Factorizations, spec_l12Sum, spec_LengthsOf, spec_DeltaOf, spec_l11Case, spec_DrawLengthsOf, impl_total. -/
import Derived.Test.YtkfplkdchkmgbaaC0
import Derived.Test.YtkfplkdchkmgbaaC1
import Derived.Test.YtkfplkdchkmgbaaC2
import Derived.Test.YtkfplkdchkmgbaaC3
import Derived.Test.YtkfplkdchkmgbaaC5
import Derived.Test.YtkfplkdchkmgbaaC6
import Derived.Test.YtkfplkdchkmgbaaC12
import Derived.Test.YtkfplkdchkmgbaaC30
namespace Go.Proofs.Ytkfplkdchkmgbaa.C
open Go.RowKit Go.Proofs.YtkfplkdchkmgbaaW.PrintWords Go.Proofs.YtkfplkdchkmgbaaW.PrintLast Go.Proofs.YtkfplkdchkmgbaaW.PrintMore
attribute [local go_sem] max2_int min2_int max_two min_two max_three min_three max_four min_four
set_option linter.unusedVariables false
set_option linter.unusedSimpArgs false

/-! ### spec_Factorizations: function 86 -/
def spec_Factorizations.f (k : Nat) (l0_0 : List Int) (a1 : Int) : Option ((List (List Int))) := (spec_IsSemigroup.f k l0_0).bind fun t1076 => (if t1076 = true then ((spec_l1In.f a1 0 100).bind fun t1077 => (if t1077 = true then ((spec_l11Find.f k l0_0 a1 (([] : List Int))).bind fun t1081 => (some t1081)) else (some (([] : List (List Int)))))) else (some (([] : List (List Int)))))
set_option maxHeartbeats 8000000 in
set_option maxRecDepth 100000 in
theorem spec_Factorizations.calls (k : Nat) (A0_0 : Option Addr) (c0_0 : Nat) (l0_0 : List Int) (a1 : Int) (r : List (List Int)) (w : World) (hr0_0 : Kd.C (Kd.int .i64) w A0_0 l0_0.length l0_0) (hc0_0 : l0_0.length ≤ c0_0) (h : spec_Factorizations.f k l0_0 a1 = some r) :
  Calls Try.prog 86 #[.agg #[.slice A0_0 l0_0.length c0_0], .int .i64 a1] w fun e w' => ∃ v0_ : Value, e = .returned (v0_) ∧ Kd.N (Kd.slice 3 (Kd.int .i64)) 24 w' w.heap.size (fun k_ => (w.heap.size ≤ k_)) v0_ r ∧ Below w.heap.size w w' := by
 have hu26 := Try.underlying26
 have HR0_0 := am hr0_0
 have HC0_0 := am hc0_0
 clear hr0_0 hc0_0
 have HB := am (Below.refl w.heap.size w)
 have H : ((spec_IsSemigroup.f k l0_0).bind fun t1076 => (if t1076 = true then ((spec_l1In.f a1 0 100).bind fun t1077 => (if t1077 = true then ((spec_l11Find.f k l0_0 a1 (([] : List Int))).bind fun t1081 => (some t1081)) else (some (([] : List (List Int)))))) else (some (([] : List (List Int)))))) = some r := h
 clear h
 replace H := ga H; obtain ⟨t1076, A3, H⟩ := H
 replace H := gb H; obtain ⟨rfl, H⟩ | ⟨rfl, H⟩ := H
 ·replace H := ga H; obtain ⟨t1077, A5, H⟩ := H
  replace H := gb H; obtain ⟨rfl, H⟩ | ⟨rfl, H⟩ := H
  ·obtain ⟨y1078, hy1078⟩ : ∃ y_ : List Int, y_ = (([] : List Int)) := ⟨_, rfl⟩
   replace H : ((spec_l11Find.f k l0_0 a1 y1078).bind fun t1081 => (some t1081)) = some r := by first | (rw [hy1078]; with_reducible exact H) | (have H2_ := (Option.bind_some _ _).symm.trans H; rw [hy1078]; with_reducible exact H2_) | (have H2_ := (Option.bind_some _ _).symm.trans H; with_reducible exact H2_) | with_reducible exact H | (rw [hy1078]; exact H) | exact H
   have Ny1078 := am hy1078
   clear hy1078
   replace H := ga H; obtain ⟨t1081, A7, H⟩ := H
   obtain rfl := Option.some.inj H
   go_enter Try.func86, Try.ntmps86
   go_wp2_with (first | ((with_reducible refine gate_dst (N := 2) rfl ?_); refine bx 2 #[.slice A0_0 l0_0.length c0_0] 26 ?_; intro gb1075 hg w8 hbox hb; have BK1075 := am (hbox); have GW1075 := am (gs hg : w.heap.size ≤ gb1075); have GE1075 := GW1075; replace HB := am (below_step bw hb); clear hb hbox hg; have hcz9_0 := bc BK1075 0 (.slice A0_0 l0_0.length c0_0); have hfz9_0 := blk_frozen BK1075.out 0) | ((with_reducible refine gate_callee (f := 23) rfl ?_); refine gl (some 6) Try.func23 #[.agg #[.slice A0_0 l0_0.length c0_0]] ?_; (with_reducible refine (spec_IsSemigroup.calls k _ _ l0_0 true _ ?side1 ?side2 A3.out).mono ?_); (case side1 => exact co (Kd.C_below HR0_0.out HB.out)); (case side2 => exact HC0_0.out); rintro e w10 ⟨rfl, hb⟩; refine ⟨_, rfl, ?_⟩; replace BK1075 := kb BK1075 hb; replace HB := am (below_step bw hb); clear hb) | (go_at_call 140; (with_reducible refine (spec_l1In.calls a1 0 100 true _ A5.out).mono ?_); rintro e w' ⟨rfl, ⟨nd, rfl⟩⟩; have hcz11_0 := bc BK1075 0 (.slice A0_0 l0_0.length c0_0); have hfz11_0 := blk_frozen BK1075.out 0) | ((with_reducible refine gate_dst (N := 17) rfl ?_); refine Kd.R_lit (Kd.int .i64) _ 3 ?hg (N := 17) ?hd (xs := ([] : List Int)) (inner := []) (ok := fun _ => True) (okp := fun _ => True) ?hr ?hp (fun _ hk => hk) trivial (Below.refl _ _) (Nat.le_refl _) (by simp) ?_; (case hd => rfl); (case hg => rfl); (case hr => first | (go_simp; done) | (go_simp; rfl)); (case hp => exact (Reps.none _ _)); intro v1079 w12 ho13 hb hg_ hnew_; clear hg_ hnew_; (first | rw [← Ny1078.out] at ho13 | (simp only [Int.reduceToNat] at ho13; rw [← Ny1078.out] at ho13)); have HO1080 := am (Kd.R_lower (Kd.R_newM (M := fun k_ => (w.heap.size ≤ k_)) ho13 (below_size bw) (fun k_ h_ => h_)) (below_size bw)); replace BK1075 := kb BK1075 hb; replace HB := am (below_step bw hb); clear hb ho13; obtain ⟨Ao14, co14, eo14⟩ := Kd.R_slice HO1080.out; subst eo14) | ((with_reducible refine gate_callee (f := 193) rfl ?_); refine gl (some 18) Try.func193 #[.slice A0_0 l0_0.length c0_0, .int .i64 a1, .slice Ao14 y1078.length co14] ?_; (with_reducible refine (spec_l11Find.calls k _ _ l0_0 a1 _ _ y1078 t1081 _ ?side1 ?side2 ?side3 ?side4 A7.out).mono ?_); (case side1 => exact co (Kd.C_below HR0_0.out HB.out)); (case side2 => exact HC0_0.out); (case side3 => exact co (Kd.R_reads' HO1080.out).2.2); (case side4 => exact (Kd.R_reads' HO1080.out).2.1); rintro e w15 ⟨v1082, rfl, ho0, hb⟩; refine ⟨_, rfl, ?_⟩; have HO1083 := am (Kd.N_lower (Kd.N_mono (ok' := fun k_ => (w.heap.size ≤ k_) ∧ some k_ ≠ (.slice Ao14 y1078.length co14 : Value).ownBlock ∧ k_ ≠ gb1075) ho0 (fun k_ hk_ => ⟨(Nat.le_trans (below_size bw) hk_), (Kd.fresh' (Kd.R_lt (ro HO1080.out)) k_ hk_), (Kd.freshB (g := gb1075) (o := .cells #[.slice A0_0 l0_0.length c0_0] 26 (0, 0)) (bo BK1075.out) k_ hk_)⟩)) (below_size bw)); replace HO1080 := am (Kd.R_below (ro HO1080.out) hb); replace BK1075 := kb BK1075 hb; replace HB := am (below_step bw hb); clear hb ho0))
   go_ret
   exact ⟨_, re, by (with_reducible repeat (first | apply Kd.N_alloc | apply Kd.N_drewN | apply Kd.N_drew)); exact Kd.N_mono HO1083.out (fun _ hk => hk.1), bw⟩
  ·obtain ⟨y1084, hy1084⟩ : ∃ y_ : List (List Int), y_ = (([] : List (List Int))) := ⟨_, rfl⟩
   replace H : (some y1084) = some r := by first | (rw [hy1084]; with_reducible exact H) | (have H2_ := (Option.bind_some _ _).symm.trans H; rw [hy1084]; with_reducible exact H2_) | (have H2_ := (Option.bind_some _ _).symm.trans H; with_reducible exact H2_) | with_reducible exact H | (rw [hy1084]; exact H) | exact H
   have Ny1084 := am hy1084
   clear hy1084
   obtain rfl := Option.some.inj H
   go_enter Try.func86, Try.ntmps86
   go_wp2_with (first | ((with_reducible refine gate_dst (N := 2) rfl ?_); refine bx 2 #[.slice A0_0 l0_0.length c0_0] 26 ?_; intro gb1075 hg w16 hbox hb; have BK1075 := am (hbox); have GW1075 := am (gs hg : w.heap.size ≤ gb1075); have GE1075 := GW1075; replace HB := am (below_step bw hb); clear hb hbox hg; have hcz17_0 := bc BK1075 0 (.slice A0_0 l0_0.length c0_0); have hfz17_0 := blk_frozen BK1075.out 0) | ((with_reducible refine gate_callee (f := 23) rfl ?_); refine gl (some 6) Try.func23 #[.agg #[.slice A0_0 l0_0.length c0_0]] ?_; (with_reducible refine (spec_IsSemigroup.calls k _ _ l0_0 true _ ?side1 ?side2 A3.out).mono ?_); (case side1 => exact co (Kd.C_below HR0_0.out HB.out)); (case side2 => exact HC0_0.out); rintro e w18 ⟨rfl, hb⟩; refine ⟨_, rfl, ?_⟩; replace BK1075 := kb BK1075 hb; replace HB := am (below_step bw hb); clear hb) | (go_at_call 140; (with_reducible refine (spec_l1In.calls a1 0 100 false _ A5.out).mono ?_); rintro e w' ⟨rfl, ⟨nd, rfl⟩⟩) | ((with_reducible refine gate_dst (N := 13) rfl ?_); refine Kd.N_lit (Kd.slice 3 (Kd.int .i64)) _ 24 ?hg (N' := 13) ?hd (xs := ([] : List (List Int))) (inner := []) (ok := (fun k_ => (w.heap.size ≤ k_) ∧ k_ ≠ gb1075)) (okp := (fun k_ => (w.heap.size ≤ k_) ∧ k_ ≠ gb1075)) ?hr ?hp (fun _ hk => hk) ((show ∀ k_, w18.heap.size ≤ k_ → (fun k_ => (w.heap.size ≤ k_) ∧ k_ ≠ gb1075) k_ from fun k_ hk => ⟨(Nat.le_trans (below_size bw) hk), Kd.freshB (g := gb1075) (o := .cells #[.slice A0_0 l0_0.length c0_0] 26 (0, 0)) (bo BK1075.out) k_ hk⟩) _ (Nat.le_refl _)) (Below.refl _ _) (Nat.le_refl _) (by simp) ?_; (case hd => rfl); (case hg => rfl); (case hr => first | (go_simp; done) | (go_simp; rfl)); (case hp => exact (Reps.none _ _)); intro v1085 w19 ho20 hb hg_ hnew_; clear hg_ hnew_; (first | rw [← Ny1084.out] at ho20 | (simp only [Int.reduceToNat] at ho20; rw [← Ny1084.out] at ho20)); have HO1086 := am (Kd.N_lower ho20 (below_size bw)); replace BK1075 := kb BK1075 hb; replace HB := am (below_step bw hb); clear hb ho20))
   go_ret
   exact ⟨_, re, by (with_reducible repeat (first | apply Kd.N_alloc | apply Kd.N_drewN | apply Kd.N_drew)); exact Kd.N_mono HO1086.out (fun _ hk => hk.1), bw⟩
 ·obtain ⟨y1087, hy1087⟩ : ∃ y_ : List (List Int), y_ = (([] : List (List Int))) := ⟨_, rfl⟩
  replace H : (some y1087) = some r := by first | (rw [hy1087]; with_reducible exact H) | (have H2_ := (Option.bind_some _ _).symm.trans H; rw [hy1087]; with_reducible exact H2_) | (have H2_ := (Option.bind_some _ _).symm.trans H; with_reducible exact H2_) | with_reducible exact H | (rw [hy1087]; exact H) | exact H
  have Ny1087 := am hy1087
  clear hy1087
  obtain rfl := Option.some.inj H
  go_enter Try.func86, Try.ntmps86
  go_wp2_with (first | ((with_reducible refine gate_dst (N := 2) rfl ?_); refine bx 2 #[.slice A0_0 l0_0.length c0_0] 26 ?_; intro gb1075 hg w21 hbox hb; have BK1075 := am (hbox); have GW1075 := am (gs hg : w.heap.size ≤ gb1075); have GE1075 := GW1075; replace HB := am (below_step bw hb); clear hb hbox hg; have hcz22_0 := bc BK1075 0 (.slice A0_0 l0_0.length c0_0); have hfz22_0 := blk_frozen BK1075.out 0) | ((with_reducible refine gate_callee (f := 23) rfl ?_); refine gl (some 6) Try.func23 #[.agg #[.slice A0_0 l0_0.length c0_0]] ?_; (with_reducible refine (spec_IsSemigroup.calls k _ _ l0_0 false _ ?side1 ?side2 A3.out).mono ?_); (case side1 => exact co (Kd.C_below HR0_0.out HB.out)); (case side2 => exact HC0_0.out); rintro e w23 ⟨rfl, hb⟩; refine ⟨_, rfl, ?_⟩; replace BK1075 := kb BK1075 hb; replace HB := am (below_step bw hb); clear hb) | ((with_reducible refine gate_dst (N := 13) rfl ?_); refine Kd.N_lit (Kd.slice 3 (Kd.int .i64)) _ 24 ?hg (N' := 13) ?hd (xs := ([] : List (List Int))) (inner := []) (ok := (fun k_ => (w.heap.size ≤ k_) ∧ k_ ≠ gb1075)) (okp := (fun k_ => (w.heap.size ≤ k_) ∧ k_ ≠ gb1075)) ?hr ?hp (fun _ hk => hk) ((show ∀ k_, w23.heap.size ≤ k_ → (fun k_ => (w.heap.size ≤ k_) ∧ k_ ≠ gb1075) k_ from fun k_ hk => ⟨(Nat.le_trans (below_size bw) hk), Kd.freshB (g := gb1075) (o := .cells #[.slice A0_0 l0_0.length c0_0] 26 (0, 0)) (bo BK1075.out) k_ hk⟩) _ (Nat.le_refl _)) (Below.refl _ _) (Nat.le_refl _) (by simp) ?_; (case hd => rfl); (case hg => rfl); (case hr => first | (go_simp; done) | (go_simp; rfl)); (case hp => exact (Reps.none _ _)); intro v1088 w24 ho25 hb hg_ hnew_; clear hg_ hnew_; (first | rw [← Ny1087.out] at ho25 | (simp only [Int.reduceToNat] at ho25; rw [← Ny1087.out] at ho25)); have HO1089 := am (Kd.N_lower ho25 (below_size bw)); replace BK1075 := kb BK1075 hb; replace HB := am (below_step bw hb); clear hb ho25))
  go_ret
  exact ⟨_, re, by (with_reducible repeat (first | apply Kd.N_alloc | apply Kd.N_drewN | apply Kd.N_drew)); exact Kd.N_mono HO1089.out (fun _ hk => hk.1), bw⟩


/-! ### spec_l12Sum: function 204 -/
def spec_l12Sum.l0 : Nat → List Int → Int → Int → Option (Int)
 | 0, _, _, _ => none
 | k + 1, x0, x3, x4 => if x4 < (x0.length : Int) then (if 0 ≤ x4 then (spec_l12Sum.l0 k x0 (wrap64 (x3 + (rd x0 x4))) (wrap64 (x4 + 1))) else (none)) else (some x3)
def spec_l12Sum.f (k : Nat) (l0 : List Int) : Option (Int) := spec_l12Sum.l0 k l0 0 0
set_option maxHeartbeats 8000000 in
set_option maxRecDepth 100000 in
theorem spec_l12Sum.calls (k : Nat) (A0 : Option Addr) (c0 : Nat) (l0 : List Int) (r : Int) (w : World) (hr0 : Kd.C (Kd.int .i64) w A0 l0.length l0) (hc0 : l0.length ≤ c0) (h : spec_l12Sum.f k l0 = some r) :
  Calls Try.prog 204 #[.slice A0 l0.length c0] w fun e w' => e = .returned (.int .i64 r) ∧ Drawn0 w w' := by
 have HR0 := am hr0
 have HC0 := am hc0
 clear hr0 hc0
 have H : (spec_l12Sum.l0 k l0 0 0) = some r := h
 clear h
 have H' := am H
 clear H
 go_enter Try.func204, Try.ntmps204
 go_wp2
 go_loopg [3, 4] k (fun kq v3 v4 w' => ∃ (x3_1 : Int) (x4_1 : Int), v3 = .int .i64 x3_1 ∧ v4 = .int .i64 x4_1 ∧ Aside0 (spec_l12Sum.l0 kq l0 x3_1 x4_1 = some r) ∧ Aside0 (kq ≤ k) ∧ Drawn0 w w')
 case atStart => exact ⟨(0), (0), rr, rr, H', ⟨Nat.le_refl _⟩, dw⟩
 case round =>
  clear H'
  obtain ⟨x3_1, x4_1, rfl, rfl, HA, HK1, ⟨m1, rfl⟩⟩ := hrel
  cases gk with
  | zero => exact absurd HA.out (by simp [spec_l12Sum.l0])
  | succ k1 =>
   have H := HA.out
   clear HA
   simp only [spec_l12Sum.l0] at H
   replace H := gi H; obtain ⟨c2b0, H⟩ | ⟨c2b0, H⟩ := H
   ·replace H := gd H; obtain ⟨c3b0, H⟩ := H
    have H' := am H
    clear H
    obtain ⟨⟨ad1090, e1090, hx1090_0⟩, p1090, q1090⟩ := pq (Kd.at_int HR0.out x4_1)
    cases e1090
    go_wp2
    go_roundg k1
    case measure => have := HK1.out; omega
    case rel => exact ⟨(wrap64 (x3_1 + (rd l0 x4_1))), (wrap64 (x4_1 + 1)), rr, rr, H', ⟨by have := HK1.out; omega⟩, dw⟩
   ·obtain rfl := Option.some.inj H
    go_wp2
    go_ret
    exact ⟨rr, dw⟩


/-! ### spec_LengthsOf: function 104 -/
def spec_LengthsOf.l0 : Nat → List Int → List (List Int) → Int → Option (List Int)
 | 0, _, _, _ => none
 | k + 1, x5, x6, x7 => if x7 < (x6.length : Int) then (if 0 ≤ x7 then ((spec_l12Sum.f k (rd_L3 x6 x7)).bind fun t1102 => ((spec_HasNumber.f k x5 t1102).bind fun t1103 => (if t1103 = true then (spec_LengthsOf.l0 k x5 x6 (wrap64 (x7 + 1))) else (if x5.length < 17592186044416 then (spec_LengthsOf.l0 k (x5 ++ [t1102]) x6 (wrap64 (x7 + 1))) else (none))))) else (none)) else ((spec_SortList.f k x5).bind fun t1098 => (some t1098))
def spec_LengthsOf.f (k : Nat) (l0_0 : List Int) (a1 : Int) : Option (List Int) := (spec_Factorizations.f k l0_0 a1).bind fun t1095 => (spec_LengthsOf.l0 k (([] : List Int)) t1095 0)
set_option maxHeartbeats 8000000 in
set_option maxRecDepth 100000 in
theorem spec_LengthsOf.calls (k : Nat) (A0_0 : Option Addr) (c0_0 : Nat) (l0_0 : List Int) (a1 : Int) (r : List Int) (w : World) (hr0_0 : Kd.C (Kd.int .i64) w A0_0 l0_0.length l0_0) (hc0_0 : l0_0.length ≤ c0_0) (h : spec_LengthsOf.f k l0_0 a1 = some r) :
  Calls Try.prog 104 #[.agg #[.slice A0_0 l0_0.length c0_0], .int .i64 a1] w fun e w' => ∃ v0_ : Value, e = .returned (v0_) ∧ Kd.R (Kd.int .i64) 3 w' w.heap.size (fun _ => True) v0_ r ∧ Below w.heap.size w w' := by
 have hu26 := Try.underlying26
 have HR0_0 := am hr0_0
 have HC0_0 := am hc0_0
 clear hr0_0 hc0_0
 have HB := am (Below.refl w.heap.size w)
 have H : ((spec_Factorizations.f k l0_0 a1).bind fun t1095 => (spec_LengthsOf.l0 k (([] : List Int)) t1095 0)) = some r := h
 clear h
 obtain ⟨y1092, hy1092⟩ : ∃ y_ : List Int, y_ = (([] : List Int)) := ⟨_, rfl⟩
 replace H : ((spec_Factorizations.f k l0_0 a1).bind fun t1095 => (spec_LengthsOf.l0 k y1092 t1095 0)) = some r := by first | (rw [hy1092]; with_reducible exact H) | (have H2_ := (Option.bind_some _ _).symm.trans H; rw [hy1092]; with_reducible exact H2_) | (have H2_ := (Option.bind_some _ _).symm.trans H; with_reducible exact H2_) | with_reducible exact H | (rw [hy1092]; exact H) | exact H
 have Ny1092 := am hy1092
 clear hy1092
 replace H := ga H; obtain ⟨t1095, A3, H⟩ := H
 have H' := am H
 clear H
 go_enter Try.func104, Try.ntmps104
 go_wp2_with (first | ((with_reducible refine gate_dst (N := 2) rfl ?_); refine bx 2 #[.slice A0_0 l0_0.length c0_0] 26 ?_; intro gb1091 hg w4 hbox hb; have BK1091 := am (hbox); have GW1091 := am (gs hg : w.heap.size ≤ gb1091); have GE1091 := GW1091; replace HB := am (below_step bw hb); clear hb hbox hg) | ((with_reducible refine gate_dst (N := 9) rfl ?_); refine Kd.R_lit (Kd.int .i64) _ 3 ?hg (N := 9) ?hd (xs := ([] : List Int)) (inner := []) (ok := fun _ => True) (okp := fun _ => True) ?hr ?hp (fun _ hk => hk) trivial (Below.refl _ _) (Nat.le_refl _) (by simp) ?_; (case hd => rfl); (case hg => rfl); (case hr => first | (go_simp; done) | (go_simp; rfl)); (case hp => exact (Reps.none _ _)); intro v1093 w5 ho6 hb hg_ hnew_; clear hg_ hnew_; (first | rw [← Ny1092.out] at ho6 | (simp only [Int.reduceToNat] at ho6; rw [← Ny1092.out] at ho6)); have HO1094 := am (Kd.R_lower ho6 (below_size bw)); replace BK1091 := kb BK1091 hb; replace HB := am (below_step bw hb); clear hb ho6; have hcz7_0 := bc BK1091 0 (.slice A0_0 l0_0.length c0_0); have hfz7_0 := blk_frozen BK1091.out 0) | ((with_reducible refine gate_callee (f := 86) rfl ?_); refine gl (some 12) Try.func86 #[.agg #[.slice A0_0 l0_0.length c0_0], .int .i64 a1] ?_; (with_reducible refine (spec_Factorizations.calls k _ _ l0_0 a1 t1095 _ ?side1 ?side2 A3.out).mono ?_); (case side1 => exact co (Kd.C_below HR0_0.out HB.out)); (case side2 => exact HC0_0.out); rintro e w8 ⟨v1096, rfl, ho0, hb⟩; refine ⟨_, rfl, ?_⟩; have HO1097 := am (Kd.N_lower (Kd.N_mono (ok' := fun k_ => some k_ ≠ (v1093 : Value).ownBlock ∧ k_ ≠ gb1091) ho0 (fun k_ hk_ => ⟨(Kd.fresh' (Kd.R_lt (ro HO1094.out)) k_ hk_), (Kd.freshB (g := gb1091) (o := .cells #[.slice A0_0 l0_0.length c0_0] 26 (0, 0)) (bo BK1091.out) k_ hk_)⟩)) (below_size bw)); replace HO1094 := am (Kd.R_below (ro HO1094.out) hb); replace BK1091 := kb BK1091 hb; replace HB := am (below_step bw hb); clear hb ho0))
 go_loopg [5, 7] k (fun kq v5 v7 w' => ∃ (x5_1 : List Int) (x7_1 : Int), v7 = .int .i64 x7_1 ∧ Aside0 (spec_LengthsOf.l0 kq x5_1 t1095 x7_1 = some r) ∧ Aside0 (kq ≤ k) ∧ Aside0 (Kd.R (Kd.int .i64) 3 w' w.heap.size (fun _ => True) v5 x5_1) ∧ Aside0 (Kd.N (Kd.slice 3 (Kd.int .i64)) 24 w' w.heap.size (fun k_ => some k_ ≠ (v5 : Value).ownBlock ∧ k_ ≠ gb1091) v1096 t1095) ∧ Aside0 (w'.heap[gb1091]? = some (.cells #[(.slice A0_0 l0_0.length c0_0)] 26 (0, 0))) ∧ Aside0 (Below w.heap.size w w'))
 case atStart => exact ⟨(y1092), (0), rr, H', ⟨Nat.le_refl _⟩, ⟨ro HO1094.out⟩, ⟨by (with_reducible repeat (first | apply Kd.N_alloc | apply Kd.N_drewN | apply Kd.N_drew)); exact HO1097.out⟩, ⟨bo BK1091.out⟩, ⟨bw⟩⟩
 case round =>
  clear H'
  try clear hcz7_0; try clear hfz7_0
  obtain ⟨x5_1, x7_1, rfl, HA, HK1, HO_5, HO_6, BK1091, HB⟩ := hrel
  cases gk with
  | zero => exact absurd HA.out (by simp [spec_LengthsOf.l0])
  | succ k1 =>
   have H := HA.out
   clear HA
   simp only [spec_LengthsOf.l0] at H
   replace H := gi H; obtain ⟨c9b0, H⟩ | ⟨c9b0, H⟩ := H
   ·replace H := gd H; obtain ⟨c10b0, H⟩ := H
    replace H := ga H; obtain ⟨t1102, A11, H⟩ := H
    replace H := ga H; obtain ⟨t1103, A12, H⟩ := H
    replace H := gb H; obtain ⟨rfl, H⟩ | ⟨rfl, H⟩ := H
    ·have H' := am H
     clear H
     obtain ⟨Ao14, co14, eo14⟩ := Kd.N_slice HO_6.out
     subst eo14
     have p1101 : 0 ≤ (x7_1 : Int) := of_decide_eq_true (by first | (with_reducible assumption) | assumption)
     have q1101 : x7_1 < (t1095.length : Int) := of_decide_eq_true (by first | (with_reducible assumption) | assumption)
     obtain ⟨ad1101, A1101_0, c1101_0, e1101, hx1101_0, hl1101_0, hi1101_0⟩ := at_L3 (Kd.N_reads' HO_6.out).2.2 x7_1 p1101 q1101
     cases e1101
     obtain ⟨ce1101, hce1101, hMe1101, hcc1101⟩ := Kd.N_get HO_6.out [] x7_1 p1101 (by first | exact q1101 | exact of_decide_eq_true (by first | (with_reducible assumption) | assumption) | (have e_ := (Kd.N_reads' HO_6.out).1; omega))
     obtain ⟨ua1101_0, uc1101_0, rfl, ul1101_0, ge1101_0⟩ := Kd.FK_slice_open hMe1101
     have hv1101_0 := hcc1101 0 _ rfl
     rw [Nat.add_zero, show ((Kd.slice 3 (Kd.int .i64))).sz = 1 from rfl, Nat.mul_one] at hv1101_0
     replace hv1101_0 := Option.some.inj (hv1101_0.symm.trans hx1101_0)
     injection hv1101_0 with hva_ hvn_ hvc_
     rw [hva_] at ge1101_0
     rw [hvc_] at ul1101_0
     have HL1101_0 := am (show Kd.V (Kd.int .i64) 3 _ w.heap.size _ _ (rd_L3 t1095 x7_1) from Kd.V_mk ul1101_0 ge1101_0)
     clear hva_ hvn_ hvc_ ge1101_0 ul1101_0
     clear hcc1101 hce1101
     have HR1101_0 := am hi1101_0
     have HC1101_0 := am hl1101_0
     clear hi1101_0 hl1101_0
     replace p1101 := eq_true p1101
     replace q1101 := eq_true q1101
     go_wp2_with (first | ((with_reducible refine gate_callee (f := 204) rfl ?_); refine gl (some 23) Try.func204 #[.slice A1101_0 (rd_L3 t1095 x7_1).length c1101_0] ?_; (with_reducible refine (spec_l12Sum.calls k1 _ _ (rd_L3 t1095 x7_1) t1102 _ ?side1 ?side2 A11.out).mono ?_); (case side1 => repeat (first | exact (by repeat (first | (with_reducible exact HR1101_0.out) | (with_reducible refine Kd.C_alloc ?_ _) | (with_reducible refine Kd.C_drewN ?_ _) | (with_reducible refine Kd.C_drew ?_) | exact HR1101_0.out)) | (with_reducible refine Kd.C_alloc ?_ _) | (with_reducible refine Kd.C_drewN ?_ _) | (with_reducible refine Kd.C_drew ?_))); (case side2 => exact HC1101_0.out); rintro e w' ⟨rfl, ⟨nd, rfl⟩⟩; refine ⟨_, rfl, ?_⟩; obtain ⟨Ao15, co15, eo15⟩ := Kd.R_slice HO_5.out; subst eo15) | ((with_reducible refine gate_callee (f := 117) rfl ?_); refine gl (some 26) Try.func117 #[.slice Ao15 x5_1.length co15, .int .i64 t1102] ?_; (with_reducible refine (spec_HasNumber.calls k1 _ _ x5_1 t1102 true _ ?side1 ?side2 A12.out).mono ?_); (case side1 => exact co (Kd.R_reads' HO_5.out).2.2); (case side2 => exact (Kd.R_reads' HO_5.out).2.1); rintro e w' ⟨rfl, ⟨nd, rfl⟩⟩; refine ⟨_, rfl, ?_⟩))
     go_roundg k1
     case measure => have := HK1.out; omega
     case rel => exact ⟨(x5_1), (wrap64 (x7_1 + 1)), rr, H', ⟨by have := HK1.out; omega⟩, ⟨ro HO_5.out⟩, ⟨by (with_reducible repeat (first | apply Kd.N_alloc | apply Kd.N_drewN | apply Kd.N_drew)); exact HO_6.out⟩, ⟨bo BK1091.out⟩, ⟨bw⟩⟩
    ·by_cases c16 : x5_1.length < 17592186044416
     rotate_left
     ·rw [if_neg c16] at H
      exact absurd H (by simp)
     rw [if_pos c16] at H
     have LMc16 := am c16
     clear c16
     obtain ⟨y1104, hy1104⟩ : ∃ y_ : List Int, y_ = (x5_1 ++ [t1102]) := ⟨_, rfl⟩
     replace H : (spec_LengthsOf.l0 k1 y1104 t1095 (wrap64 (x7_1 + 1))) = some r := by first | (rw [hy1104]; with_reducible exact H) | (have H2_ := (Option.bind_some _ _).symm.trans H; rw [hy1104]; with_reducible exact H2_) | (have H2_ := (Option.bind_some _ _).symm.trans H; with_reducible exact H2_) | with_reducible exact H | (rw [hy1104]; exact H) | exact H
     have Ny1104 := am hy1104
     clear hy1104
     have H' := am H
     clear H
     obtain ⟨Ao17, co17, eo17⟩ := Kd.N_slice HO_6.out
     subst eo17
     have p1101 : 0 ≤ (x7_1 : Int) := of_decide_eq_true (by first | (with_reducible assumption) | assumption)
     have q1101 : x7_1 < (t1095.length : Int) := of_decide_eq_true (by first | (with_reducible assumption) | assumption)
     obtain ⟨ad1101, A1101_0, c1101_0, e1101, hx1101_0, hl1101_0, hi1101_0⟩ := at_L3 (Kd.N_reads' HO_6.out).2.2 x7_1 p1101 q1101
     cases e1101
     obtain ⟨ce1101, hce1101, hMe1101, hcc1101⟩ := Kd.N_get HO_6.out [] x7_1 p1101 (by first | exact q1101 | exact of_decide_eq_true (by first | (with_reducible assumption) | assumption) | (have e_ := (Kd.N_reads' HO_6.out).1; omega))
     obtain ⟨ua1101_0, uc1101_0, rfl, ul1101_0, ge1101_0⟩ := Kd.FK_slice_open hMe1101
     have hv1101_0 := hcc1101 0 _ rfl
     rw [Nat.add_zero, show ((Kd.slice 3 (Kd.int .i64))).sz = 1 from rfl, Nat.mul_one] at hv1101_0
     replace hv1101_0 := Option.some.inj (hv1101_0.symm.trans hx1101_0)
     injection hv1101_0 with hva_ hvn_ hvc_
     rw [hva_] at ge1101_0
     rw [hvc_] at ul1101_0
     have HL1101_0 := am (show Kd.V (Kd.int .i64) 3 _ w.heap.size _ _ (rd_L3 t1095 x7_1) from Kd.V_mk ul1101_0 ge1101_0)
     clear hva_ hvn_ hvc_ ge1101_0 ul1101_0
     clear hcc1101 hce1101
     have HR1101_0 := am hi1101_0
     have HC1101_0 := am hl1101_0
     clear hi1101_0 hl1101_0
     replace p1101 := eq_true p1101
     replace q1101 := eq_true q1101
     go_wp2_with (first | ((with_reducible refine gate_callee (f := 204) rfl ?_); refine gl (some 23) Try.func204 #[.slice A1101_0 (rd_L3 t1095 x7_1).length c1101_0] ?_; (with_reducible refine (spec_l12Sum.calls k1 _ _ (rd_L3 t1095 x7_1) t1102 _ ?side1 ?side2 A11.out).mono ?_); (case side1 => repeat (first | exact (by repeat (first | (with_reducible exact HR1101_0.out) | (with_reducible refine Kd.C_alloc ?_ _) | (with_reducible refine Kd.C_drewN ?_ _) | (with_reducible refine Kd.C_drew ?_) | exact HR1101_0.out)) | (with_reducible refine Kd.C_alloc ?_ _) | (with_reducible refine Kd.C_drewN ?_ _) | (with_reducible refine Kd.C_drew ?_))); (case side2 => exact HC1101_0.out); rintro e w' ⟨rfl, ⟨nd, rfl⟩⟩; refine ⟨_, rfl, ?_⟩; obtain ⟨Ao18, co18, eo18⟩ := Kd.R_slice HO_5.out; subst eo18) | ((with_reducible refine gate_callee (f := 117) rfl ?_); refine gl (some 26) Try.func117 #[.slice Ao18 x5_1.length co18, .int .i64 t1102] ?_; (with_reducible refine (spec_HasNumber.calls k1 _ _ x5_1 t1102 false _ ?side1 ?side2 A12.out).mono ?_); (case side1 => exact co (Kd.R_reads' HO_5.out).2.2); (case side2 => exact (Kd.R_reads' HO_5.out).2.1); rintro e w' ⟨rfl, ⟨nd, rfl⟩⟩; refine ⟨_, rfl, ?_⟩) | ((with_reducible refine gate_builtin (b := .append) (xs := #[.tmp 28, .tmp 30]) rfl ?_); at_builtin; refine Kd.R_append (Kd.int .i64) (w0 := w) w.heap.size rfl (.tmp 28) (.tmp 30) 24 3 (.int .i64 0) 8 rfl Try.underlying24 info3 rfl (by decide) (by omega) (.slice Ao18 x5_1.length co18) x5_1 t1102 [.int .i64 t1102] (fun _ => True) (fun _ => False) rfl rfl ?aP (fun _ hk => hk.elim) ?aF ?aO ?aB ?aS ?aL ?_; (case aP => exact rfl); (case aB => exact bw); (case aF => exact (fun _ _ => trivial)); (case aO => exact (ro HO_5.out)); (case aS => exact (below_size bw)); (case aL => have := LMc16.out; omega); intro v1105 w19 ho hb hg hat; rw [← Ny1104.out] at ho; replace HO_6 := am (Kd.N_afterv (ok := (fun k_ => k_ ≠ gb1091)) (by (with_reducible repeat (first | apply Kd.N_alloc | apply Kd.N_drewN | apply Kd.N_drew)); exact Kd.N_mono HO_6.out (fun _ hk => by first | exact ⟨hk.2, hk.1⟩ | simp_all)) hg hat); replace BK1091 := am (blk_grown (g := gb1091) (o := .cells #[.slice A0_0 l0_0.length c0_0] 26 (0, 0)) (bo BK1091.out) hg (Kd.R_ne HO_5.out BK1091.out (by decide))); replace HL1101_0 := am (Kd.V_afterv (ok := (fun k_ => some k_ ≠ (.slice (some ad1101) t1095.length co17 : Value).ownBlock ∧ k_ ≠ gb1091)) (by (with_reducible repeat (first | apply Kd.V_alloc | apply Kd.V_drewN | apply Kd.V_drew)); exact Kd.V_mono HL1101_0.out (fun _ hk => ⟨⟨hk.2, hk.1.2⟩, hk.1.1⟩)) hg hat); replace HB := am (hb); have HO1106 := am (ho); clear HO_5 ho hb hg hat))
     go_roundg k1
     case measure => have := HK1.out; omega
     case rel => exact ⟨(y1104), (wrap64 (x7_1 + 1)), rr, H', ⟨by have := HK1.out; omega⟩, ⟨ro HO1106.out⟩, ⟨by (with_reducible repeat (first | apply Kd.N_alloc | apply Kd.N_drewN | apply Kd.N_drew)); exact Kd.N_mono HO_6.out (fun _ hk => by first | exact ⟨hk.2, hk.1⟩ | simp_all)⟩, ⟨bo BK1091.out⟩, ⟨bw⟩⟩
   ·replace H := ga H; obtain ⟨t1098, A20, H⟩ := H
    obtain rfl := Option.some.inj H
    obtain ⟨Ao21, co21, eo21⟩ := Kd.N_slice HO_6.out
    subst eo21
    obtain ⟨Ao22, co22, eo22⟩ := Kd.R_slice HO_5.out
    subst eo22
    go_wp2_with (first | ((with_reducible refine gate_callee (f := 93) rfl ?_); refine gl (some 33) Try.func93 #[.slice Ao22 x5_1.length co22] ?_; (with_reducible refine (spec_SortList.calls k1 _ _ x5_1 t1098 _ ?side1 ?side2 A20.out).mono ?_); (case side1 => exact co (Kd.R_reads' HO_5.out).2.2); (case side2 => exact (Kd.R_reads' HO_5.out).2.1); rintro e w23 ⟨v1099, rfl, ho0, hb⟩; refine ⟨_, rfl, ?_⟩; replace HO_6 := am (Kd.N_elder' (no HO_6.out) (Kd.R_base ho0) hb); have HO1100 := am (Kd.R_lower (Kd.R_new' ho0 (Kd.R_lt (ro HO_5.out))) (below_size bw)); replace HO_5 := am (Kd.R_elder' (ro HO_5.out) (Kd.R_base ho0) hb); replace BK1091 := kb BK1091 hb; replace HB := am (below_step bw hb); clear hb ho0))
    go_ret
    exact ⟨_, re, by (with_reducible repeat (first | apply Kd.R_alloc | apply Kd.R_drewN | apply Kd.R_drew)); exact Kd.R_mono HO1100.out (fun _ hk => trivial), bw⟩


/-! ### spec_DeltaOf: function 67 -/
def spec_DeltaOf.l0 : Nat → List Int → List Int → Int → Option (List Int)
 | 0, _, _, _ => none
 | k + 1, x5, x6, x7 => if x7 < (x6.length : Int) then (if 0 ≤ x7 then (if 0 ≤ (wrap64 (x7 - 1)) then (if (wrap64 (x7 - 1)) < (x6.length : Int) then (if x5.length < 17592186044416 then (spec_DeltaOf.l0 k (x5 ++ [wrap64 ((rd x6 x7) - (rd x6 (wrap64 (x7 - 1))))]) x6 (wrap64 (x7 + 1))) else (none)) else (none)) else (none)) else (none)) else ((spec_SortList.f k x5).bind fun t1119 => (some t1119))
def spec_DeltaOf.f (k : Nat) (l0_0 : List Int) (a1 : Int) : Option (List Int) := (spec_LengthsOf.f k l0_0 a1).bind fun t1111 => (spec_DeltaOf.l0 k (([] : List Int)) t1111 1)
def spec_DeltaOf.T6 : Bool × List (List Nat × List Nat) := (true, [([], []), ([], []), ([], []), ([1, 2], [1, 2]), ([3], [3]), ([], []), ([], []), ([6], [6]), ([5, 7], [5, 7]), ([8], [8]), ([4, 9], [4, 9]), ([10], [10]), ([0, 11], [0, 11]), ([12, 12, 0, 1, 2, 3, 4, 5, 6, 7, 8, 9, 10, 11, 12], [0, 12])])
def spec_DeltaOf.B6 : List Nat := [0, 0, 0, 6, 14, 0, 0, 64, 224, 480, 1022, 2046, 4095, 8191]
theorem spec_DeltaOf.tab6 : rtab .any (opsOf Try.f67 6) = spec_DeltaOf.T6 := by kernel_rfl
theorem spec_DeltaOf.bits6 : waitsOk spec_DeltaOf.T6.2 spec_DeltaOf.B6 = true := by kernel_rfl
set_option maxHeartbeats 8000000 in
set_option maxRecDepth 100000 in
theorem spec_DeltaOf.calls (k : Nat) (A0_0 : Option Addr) (c0_0 : Nat) (l0_0 : List Int) (a1 : Int) (r : List Int) (w : World) (hr0_0 : Kd.C (Kd.int .i64) w A0_0 l0_0.length l0_0) (hc0_0 : l0_0.length ≤ c0_0) (h : spec_DeltaOf.f k l0_0 a1 = some r) :
  Calls Try.prog 67 #[.agg #[.slice A0_0 l0_0.length c0_0], .int .i64 a1] w fun e w' => ∃ v0_ : Value, e = .returned (v0_) ∧ Kd.R (Kd.int .i64) 3 w' w.heap.size (fun _ => True) v0_ r ∧ Below w.heap.size w w' := by
 have hu26 := Try.underlying26
 have HR0_0 := am hr0_0
 have HC0_0 := am hc0_0
 clear hr0_0 hc0_0
 have HB := am (Below.refl w.heap.size w)
 have H : ((spec_LengthsOf.f k l0_0 a1).bind fun t1111 => (spec_DeltaOf.l0 k (([] : List Int)) t1111 1)) = some r := h
 clear h
 obtain ⟨y1108, hy1108⟩ : ∃ y_ : List Int, y_ = (([] : List Int)) := ⟨_, rfl⟩
 replace H : ((spec_LengthsOf.f k l0_0 a1).bind fun t1111 => (spec_DeltaOf.l0 k y1108 t1111 1)) = some r := by first | (rw [hy1108]; with_reducible exact H) | (have H2_ := (Option.bind_some _ _).symm.trans H; rw [hy1108]; with_reducible exact H2_) | (have H2_ := (Option.bind_some _ _).symm.trans H; with_reducible exact H2_) | with_reducible exact H | (rw [hy1108]; exact H) | exact H
 have Ny1108 := am hy1108
 clear hy1108
 replace H := ga H; obtain ⟨t1111, A3, H⟩ := H
 have H' := am H
 clear H
 go_enter Try.func67, Try.ntmps67
 go_wp2_with (first | ((with_reducible refine gate_dst (N := 2) rfl ?_); refine bx 2 #[.slice A0_0 l0_0.length c0_0] 26 ?_; intro gb1107 hg w4 hbox hb; have BK1107 := am (hbox); have GW1107 := am (gs hg : w.heap.size ≤ gb1107); have GE1107 := GW1107; replace HB := am (below_step bw hb); clear hb hbox hg) | ((with_reducible refine gate_dst (N := 8) rfl ?_); refine Kd.R_lit (Kd.int .i64) _ 3 ?hg (N := 8) ?hd (xs := ([] : List Int)) (inner := []) (ok := fun _ => True) (okp := fun _ => True) ?hr ?hp (fun _ hk => hk) trivial (Below.refl _ _) (Nat.le_refl _) (by simp) ?_; (case hd => rfl); (case hg => rfl); (case hr => first | (go_simp; done) | (go_simp; rfl)); (case hp => exact (Reps.none _ _)); intro v1109 w5 ho6 hb hg_ hnew_; clear hg_ hnew_; (first | rw [← Ny1108.out] at ho6 | (simp only [Int.reduceToNat] at ho6; rw [← Ny1108.out] at ho6)); have HO1110 := am (Kd.R_lower ho6 (below_size bw)); replace BK1107 := kb BK1107 hb; replace HB := am (below_step bw hb); clear hb ho6; have hcz7_0 := bc BK1107 0 (.slice A0_0 l0_0.length c0_0); have hfz7_0 := blk_frozen BK1107.out 0) | ((with_reducible refine gate_callee (f := 104) rfl ?_); refine gl (some 11) Try.func104 #[.agg #[.slice A0_0 l0_0.length c0_0], .int .i64 a1] ?_; (with_reducible refine (spec_LengthsOf.calls k _ _ l0_0 a1 t1111 _ ?side1 ?side2 A3.out).mono ?_); (case side1 => exact co (Kd.C_below HR0_0.out HB.out)); (case side2 => exact HC0_0.out); rintro e w8 ⟨v1112, rfl, ho0, hb⟩; refine ⟨_, rfl, ?_⟩; have HO1113 := am (Kd.R_lower (Kd.R_new' ho0 (Kd.R_lt (ro HO1110.out))) (below_size bw)); replace HO1110 := am (Kd.R_elder' (ro HO1110.out) (Kd.R_base ho0) hb); replace BK1107 := kb BK1107 hb; replace HB := am (below_step bw hb); clear hb ho0))
 go_loopg [5, 7] k (fun kq v5 v7 w' => ∃ (x5_1 : List Int) (x7_1 : Int), v7 = .int .i64 x7_1 ∧ Aside0 (spec_DeltaOf.l0 kq x5_1 t1111 x7_1 = some r) ∧ Aside0 (kq ≤ k) ∧ Aside0 (Kd.R (Kd.int .i64) 3 w' w.heap.size (fun k_ => some k_ ≠ (v1112 : Value).ownBlock) v5 x5_1) ∧ Aside0 (Kd.R (Kd.int .i64) 3 w' w.heap.size (fun k_ => some k_ ≠ (v5 : Value).ownBlock) v1112 t1111) ∧ Aside0 (w'.heap[gb1107]? = some (.cells #[(.slice A0_0 l0_0.length c0_0)] 26 (0, 0))) ∧ Aside0 (Below w.heap.size w w'))
 case atStart => exact ⟨(y1108), (1), rr, H', ⟨Nat.le_refl _⟩, ⟨by (with_reducible repeat (first | apply Kd.R_alloc | apply Kd.R_drewN | apply Kd.R_drew)); exact Kd.R_mono HO1110.out (fun _ hk => hk.2)⟩, ⟨by (with_reducible repeat (first | apply Kd.R_alloc | apply Kd.R_drewN | apply Kd.R_drew)); exact Kd.R_mono HO1113.out (fun _ hk => hk.2)⟩, ⟨bo BK1107.out⟩, ⟨bw⟩⟩
 case round =>
  clear H'
  try clear hcz7_0; try clear hfz7_0
  obtain ⟨x5_1, x7_1, rfl, HA, HK1, HO_5, HO_6, BK1107, HB⟩ := hrel
  cases gk with
  | zero => exact absurd HA.out (by simp [spec_DeltaOf.l0])
  | succ k1 =>
   have H := HA.out
   clear HA
   simp only [spec_DeltaOf.l0] at H
   replace H := gi H; obtain ⟨c9b0, H⟩ | ⟨c9b0, H⟩ := H
   ·replace H := gd H; obtain ⟨c10b0, H⟩ := H
    obtain ⟨ji11, hji11⟩ : ∃ j_ : Int, (wrap64 (x7_1 - 1)) = j_ := ⟨_, rfl⟩
    replace H : (if 0 ≤ (ji11) then (if (ji11) < (t1111.length : Int) then (if x5_1.length < 17592186044416 then (spec_DeltaOf.l0 k1 (x5_1 ++ [wrap64 ((rd t1111 x7_1) - (rd t1111 (ji11)))]) t1111 (wrap64 (x7_1 + 1))) else (none)) else (none)) else (none)) = some r := by first | (rw [hji11] at H; exact H) | (simp only [hji11] at H ⊢; exact H)
    have hji11w : (IntKind.i64.wrap (x7_1 - 1)) = ji11 := (i64_w _).trans hji11
    replace H := gd H; obtain ⟨c12b0, H⟩ := H
    replace H := gd H; obtain ⟨c13b0, H⟩ := H
    by_cases c14 : x5_1.length < 17592186044416
    rotate_left
    ·rw [if_neg c14] at H
     exact absurd H (by simp)
    rw [if_pos c14] at H
    have LMc14 := am c14
    clear c14
    obtain ⟨y1116, hy1116⟩ : ∃ y_ : List Int, y_ = (x5_1 ++ [wrap64 ((rd t1111 x7_1) - (rd t1111 (ji11)))]) := ⟨_, rfl⟩
    replace H : (spec_DeltaOf.l0 k1 y1116 t1111 (wrap64 (x7_1 + 1))) = some r := by first | (rw [hy1116]; with_reducible exact H) | (have H2_ := (Option.bind_some _ _).symm.trans H; rw [hy1116]; with_reducible exact H2_) | (have H2_ := (Option.bind_some _ _).symm.trans H; with_reducible exact H2_) | with_reducible exact H | (rw [hy1116]; exact H) | exact H
    have Ny1116 := am hy1116
    clear hy1116
    have H' := am H
    clear H
    obtain ⟨Ao15, co15, eo15⟩ := Kd.R_slice HO_6.out
    subst eo15
    try go_wp2
    replace HO_5 := am (Kd.R_drew HO_5.out)
    replace HO_6 := am (Kd.R_drew HO_6.out)
    replace BK1107 := am (blk_drew BK1107.out)
    replace HB := am (below_drew1 HB.out)
    obtain ⟨⟨ad1114, e1114, hx1114_0⟩, p1114, q1114⟩ := pq (Kd.at_int (Kd.R_reads' HO_6.out).2.2 x7_1)
    cases e1114
    obtain ⟨⟨ad1115, e1115, hx1115_0⟩, p1115, q1115⟩ := pq (Kd.at_int (Kd.R_reads' HO_6.out).2.2 (ji11))
    obtain rfl : ad1114 = ad1115 := (by injection e1115)
    refine start_ (n := 14) (S := fun w' => w'.cell? (ad1114.add (x7_1).toNat) = some (.int .i64 (rd t1111 x7_1)) ∧ w'.cell? (ad1114.add ((ji11)).toNat) = some (.int .i64 (rd t1111 (ji11)))) (ds := [11, 12]) (yz 14 0) (by kernel_rfl) rfl rfl ⟨hx1114_0, hx1115_0⟩ (fun hHeld => ?_); refine with_tabW spec_DeltaOf.tab6 spec_DeltaOf.bits6 (fun HT_ HW_ => ?_)
    generalize wr.drew = w16 at HO_5 HO_6 BK1107 HB hx1114_0 hx1115_0 hHeld ⊢
    refine pa 0 (some 18) (yz 14 1) HT_ ?_
    refine pa 1 (some 19) (yz 14 3) HT_ ?_
    refine pa 2 (some 20) (yz 14 7) HT_ ?_
    refine pa 3 (some 21) (yz 14 15) HT_ ?_
    refine pa 5 (some 23) (yz 14 47) HT_ ?_
    refine pa 6 (some 24) (yz 14 111) HT_ ?_
    refine pa 7 (some 25) (yz 14 239) HT_ ?_
    refine pa 8 (some 26) (yz 14 495) HT_ ?_
    refine take_ (i := 4) (N := some 22) (v := ?_) (a' := ?_) (yz 14 511) rfl rfl (take_ofW HT_.out HW_.out (by kernel_rfl)) (fun _ _ _ h => h) (Or.inl ⟨by rfl, ?_⟩) hHeld ?_ ?_
    rotate_left
    ·rintro w' ⟨s0, s1⟩
     go_simp
     with_reducible rfl
    rotate_left
    ·simp only [Act.put, qa, qb, qc, i64_w, i32_w]
     rfl
    refine take_ (i := 9) (N := some 27) (v := ?_) (a' := ?_) (yz 14 1023) rfl rfl (take_ofW HT_.out HW_.out (by kernel_rfl)) (fun _ _ _ h => h) (Or.inl ⟨by rfl, ?_⟩) hHeld ?_ ?_
    rotate_left
    ·rintro w' ⟨s0, s1⟩
     go_simp
     with_reducible rfl
    rotate_left
    ·simp only [Act.put, qa, qb, qc, i64_w, i32_w]
     rfl
    refine pa 10 (some 28) (yz 14 2047) HT_ ?_
    refine last_ (i := 11) (N := some 29) (yz 14 4095) rfl rfl (one_of HT_.out (by kernel_rfl)) (by decide) (fun K hK => ?_)
    refine value_ (w1 := ?_) (v := ?_) (by rfl) rfl ?_ ?_
    rotate_left 2
    ·go_simp
     constructor
     ·rfl
     ·rfl
    refine hK.out _ _ ?_
    clear hK K
    refine norm_ (a' := ?_) ?_ ?_
    rotate_left
    ·show Act.put _ (some 29) _ = _
     simp only [Act.put, qa, qb, qc, i64_w, i32_w]
     rfl
    refine last_ (i := 12) (N := some 30) (yz 14 8191) rfl rfl (one_of HT_.out (by kernel_rfl)) (by decide) (fun K hK => ?_)
    refine Kd.R_append_step (Kd.int .i64) (w0 := w) w.heap.size (by rfl) (.tmp 18) (.tmp 29) 24 3 (.int .i64 0) 8 rfl Try.underlying24 info3 rfl (by decide) (by omega) u5 x5_1 (wrap64 ((rd t1111 x7_1) - (rd t1111 (ji11)))) [.int .i64 (wrap64 ((rd t1111 x7_1) - (rd t1111 (ji11))))] (fun k_ => some k_ ≠ (.slice (some ad1114) t1111.length co15 : Value).ownBlock) (fun _ => False) rfl rfl ?aP (fun _ hk => hk.elim) ?aF ?aO ?aB ?aS ?aL ?_
    (case aP => exact rfl)
    (case aB => exact bw)
    (case aF => exact (fun k_ hk => Kd.fresh' (Kd.R_lt (ro HO_6.out)) k_ hk))
    (case aO => exact (ro HO_5.out))
    (case aS => exact (below_size bw))
    (case aL => have := LMc14.out; omega)
    intro v1117 w17 ho hb hg hat
    rw [← Ny1116.out] at ho
    replace HO_6 := am (Kd.R_after (ok := (fun _ => True)) (by (with_reducible repeat (first | apply Kd.R_alloc | apply Kd.R_drewN | apply Kd.R_drew)); exact Kd.R_mono HO_6.out (fun _ hk => ⟨trivial, by first | exact hk | exact (by intro a n m c x h; cases a <;> exact h : ∀ (a : Option Addr) (n m c x : Nat), some x ≠ (Value.slice a n c).ownBlock → some x ≠ (Value.slice a m c).ownBlock) _ _ _ _ _ hk⟩)) hg hat)
    replace BK1107 := am (blk_grown (g := gb1107) (o := .cells #[.slice A0_0 l0_0.length c0_0] 26 (0, 0)) (bo BK1107.out) hg (Kd.R_ne HO_5.out BK1107.out (by decide)))
    replace HB := am (hb)
    have HO1118 := am (ho)
    clear HO_5 ho hb hg hat
    refine hK.out _ _ ?_
    clear hK K
    refine norm_ (a' := ?_) ?_ ?_
    rotate_left
    ·show Act.put _ (some 30) _ = _
     simp only [Act.put, qa, qb, qc, i64_w, i32_w]
     rfl
    refine pa 13 (some 5) (yz 14 16383) HT_ ?_
    refine done_ (done_of HT_.out (by kernel_rfl)) ?_
    try go_wp2
    go_roundg k1
    case measure => have := HK1.out; omega
    case rel => exact ⟨(y1116), (wrap64 (x7_1 + 1)), rr, H', ⟨by have := HK1.out; omega⟩, ⟨ro HO1118.out⟩, ⟨by (with_reducible repeat (first | apply Kd.R_alloc | apply Kd.R_drewN | apply Kd.R_drew)); exact Kd.R_mono HO_6.out (fun _ hk => hk.2)⟩, ⟨bo BK1107.out⟩, ⟨bw⟩⟩
   ·replace H := ga H; obtain ⟨t1119, A18, H⟩ := H
    obtain rfl := Option.some.inj H
    obtain ⟨Ao19, co19, eo19⟩ := Kd.R_slice HO_6.out
    subst eo19
    obtain ⟨Ao20, co20, eo20⟩ := Kd.R_slice HO_5.out
    subst eo20
    go_wp2_with (first | ((with_reducible refine gate_callee (f := 93) rfl ?_); refine gl (some 32) Try.func93 #[.slice Ao20 x5_1.length co20] ?_; (with_reducible refine (spec_SortList.calls k1 _ _ x5_1 t1119 _ ?side1 ?side2 A18.out).mono ?_); (case side1 => exact co (Kd.R_reads' HO_5.out).2.2); (case side2 => exact (Kd.R_reads' HO_5.out).2.1); rintro e w21 ⟨v1120, rfl, ho0, hb⟩; refine ⟨_, rfl, ?_⟩; have HO1121 := am (Kd.R_lower (Kd.R_new' (Kd.R_new' ho0 (Kd.R_lt (ro HO_5.out))) (Kd.R_lt (ro HO_6.out))) (below_size bw)); replace HO_5 := am (Kd.R_elder' (ro HO_5.out) (Kd.R_base ho0) hb); replace HO_6 := am (Kd.R_elder' (ro HO_6.out) (Kd.R_base ho0) hb); replace BK1107 := kb BK1107 hb; replace HB := am (below_step bw hb); clear hb ho0))
    go_ret
    exact ⟨_, re, by (with_reducible repeat (first | apply Kd.R_alloc | apply Kd.R_drewN | apply Kd.R_drew)); exact Kd.R_mono HO1121.out (fun _ hk => trivial), bw⟩


/-! ### spec_l11Case: function 185 -/
def spec_l11Case.j0 : Nat → List Int → Int → Int → List Int → Option (List Int × Int)
 | 0, _, _, _, _ => none
 | k + 1, x1127000, x1127001, x1127002, x1133000 => (spec_l1Below.f x1127000 x1127001 x1127002 40).bind fun bt1141 => ((spec_l1Below.f x1127000 bt1141.2.1 bt1141.2.2 40).bind fun bt1144 => ((spec_l1Below.f x1127000 bt1144.2.1 bt1144.2.2 50).bind fun bt1147 => ((spec_l1PickInt.f x1127000 bt1147.2.1 bt1147.2.2 (([bt1141.1, bt1144.1, bt1147.1, (-1), 101] : List Int))).bind fun bt1153 => (if (x1133000.length : Int) > 4 then (if bt1153.1 > 30 then (if bt1153.1 < 101 then (some (x1133000, 30)) else (some (x1133000, bt1153.1))) else (some (x1133000, bt1153.1))) else (some (x1133000, bt1153.1))))))
def spec_l11Case.f (k : Nat) (l0 : List Int) : Option (List Int × Int) := (spec_l1New.f k l0).bind fun bt1123 => ((spec_l3Draw.f k bt1123.1 bt1123.2.1 bt1123.2.2).bind fun bt1127 => ((spec_l1Once.f bt1123.1 bt1127.2.1 bt1127.2.2 12).bind fun bt1133 => (if bt1133.1 = true then ((spec_l3Bent.f k bt1123.1 bt1133.2.1 bt1133.2.2).bind fun bt1136 => (spec_l11Case.j0 k bt1123.1 bt1136.2.1 bt1136.2.2 bt1136.1)) else (spec_l11Case.j0 k bt1123.1 bt1133.2.1 bt1133.2.2 bt1127.1))))
set_option maxHeartbeats 8000000 in
set_option maxRecDepth 100000 in
theorem spec_l11Case.calls (k : Nat) (A0 : Option Addr) (c0 : Nat) (l0 : List Int) (r1 : List Int) (r2 : Int) (w : World) (hr0 : Kd.C (Kd.int .u8) w A0 l0.length l0) (hc0 : l0.length ≤ c0) (h : spec_l11Case.f k l0 = some (r1, r2)) :
  Calls Try.prog 185 #[.slice A0 l0.length c0] w fun e w' => ∃ v0_ : Value, e = .returned (.tuple #[.agg #[v0_], .int .i64 r2]) ∧ Kd.Q (Kd.int .i64) 3 w' w.heap.size (fun _ => True) v0_ r1 ∧ Below w.heap.size w w' := by
 have hu26 := Try.underlying26
 have HR0 := am hr0
 have HC0 := am hc0
 clear hr0 hc0
 have HB := am (Below.refl w.heap.size w)
 have H : ((spec_l1New.f k l0).bind fun bt1123 => ((spec_l3Draw.f k bt1123.1 bt1123.2.1 bt1123.2.2).bind fun bt1127 => ((spec_l1Once.f bt1123.1 bt1127.2.1 bt1127.2.2 12).bind fun bt1133 => (if bt1133.1 = true then ((spec_l3Bent.f k bt1123.1 bt1133.2.1 bt1133.2.2).bind fun bt1136 => (spec_l11Case.j0 k bt1123.1 bt1136.2.1 bt1136.2.2 bt1136.1)) else (spec_l11Case.j0 k bt1123.1 bt1133.2.1 bt1133.2.2 bt1127.1))))) = some (r1, r2) := h
 clear h
 replace H := ga H; obtain ⟨⟨t1123, t1124, t1125⟩, A2, H⟩ := H
 replace H : ((spec_l3Draw.f k t1123 t1124 t1125).bind fun bt1127 => ((spec_l1Once.f t1123 bt1127.2.1 bt1127.2.2 12).bind fun bt1133 => (if bt1133.1 = true then ((spec_l3Bent.f k t1123 bt1133.2.1 bt1133.2.2).bind fun bt1136 => (spec_l11Case.j0 k t1123 bt1136.2.1 bt1136.2.2 bt1136.1)) else (spec_l11Case.j0 k t1123 bt1133.2.1 bt1133.2.2 bt1127.1)))) = some (r1, r2) := H
 replace H := ga H; obtain ⟨⟨t1127, t1130, t1131⟩, A3, H⟩ := H
 replace H : ((spec_l1Once.f t1123 t1130 t1131 12).bind fun bt1133 => (if bt1133.1 = true then ((spec_l3Bent.f k t1123 bt1133.2.1 bt1133.2.2).bind fun bt1136 => (spec_l11Case.j0 k t1123 bt1136.2.1 bt1136.2.2 bt1136.1)) else (spec_l11Case.j0 k t1123 bt1133.2.1 bt1133.2.2 t1127))) = some (r1, r2) := H
 replace H := ga H; obtain ⟨⟨t1133, t1134, t1135⟩, A4, H⟩ := H
 replace H : (if t1133 = true then ((spec_l3Bent.f k t1123 t1134 t1135).bind fun bt1136 => (spec_l11Case.j0 k t1123 bt1136.2.1 bt1136.2.2 bt1136.1)) else (spec_l11Case.j0 k t1123 t1134 t1135 t1127)) = some (r1, r2) := H
 have HC5 := am H
 clear H
 go_enter Try.func185, Try.ntmps185
 go_upto_if 12 with (first | ((with_reducible refine gate_dst (N := 2) rfl ?_); refine bx 2 #[.slice none 0 0] 26 ?_; intro gb1122 hg w6 hbox hb; have BK1122 := am (hbox); have GW1122 := am (gs hg : w.heap.size ≤ gb1122); have GE1122 := GW1122; replace HB := am (below_step bw hb); clear hb hbox hg) | ((with_reducible refine gate_callee (f := 131) rfl ?_); refine gl (some 8) Try.func131 #[.slice A0 l0.length c0] ?_; (with_reducible refine (spec_l1New.calls k _ _ l0 t1123 t1124 t1125 w _ ?side1 ?side2 ?side3 A2.out).mono ?_); (case side1 => exact bw); (case side2 => exact HR0.out); (case side3 => exact HC0.out); rintro e w7 ⟨g1126, rfl, hi, hb, hb2⟩; refine ⟨_, rfl, ?_⟩; replace HB := am (hb); have HI1126 := am (hi); have NB1126_1122 := am (IsS132.ne_blk hi (blk_below (g := gb1122) (o := .cells #[.slice none 0 0] 26 (0, 0)) (bo BK1122.out) hb2) (by decide)); have NB1122_1126 := ns NB1126_1122; replace BK1122 := kb BK1122 hb2; clear hb hb2 hi) | ((with_reducible refine gate_callee (f := 213) rfl ?_); refine gl (some 10) Try.func213 #[.pointer (some ⟨g1126, 0, none⟩)] ?_; (with_reducible refine (spec_l3Draw.calls k g1126 t1123 t1124 t1125 t1127 t1130 t1131 w _ ?side1 ?side2 A3.out).mono ?_); (case side1 => exact iw HI1126.out); (case side2 => exact bv); rintro e w8 ⟨v1128, rfl, ho0, hi, hb, hk⟩; refine ⟨_, rfl, ?_⟩; replace BK1122 := kk hk BK1122 NB1122_1126; have HO1129 := am (Kd.R_lower ho0 (below_size bv)); replace HB := am (hb); replace HI1126 := am (hi); clear hb hk hi ho0) | ((with_reducible refine gate_dst (N := 5) rfl ?_); refine bx 5 #[.slice none 0 0] 26 ?_; intro gb1132 hg w9 hbox hb; replace HO1129 := am (Kd.R_below (ro HO1129.out) hb); have BK1132 := am (hbox); have GW1132 := am ((by rw [hg]; exact (below_size bv) : w.heap.size ≤ gb1132)); have GE1132 := GW1132; replace HB := am (below_step bv hb); have NB1122_1132 := nl hg BK1122; have NB1132_1122 := ns NB1122_1132; replace BK1122 := kb BK1122 hb; have NB1126_1132 := am ((by rw [hg]; exact Nat.ne_of_lt (IsS132.lt (show IsS132 w _ g1126 t1123 t1130 t1131 from (iw HI1126.out))) : g1126 ≠ gb1132)); have NB1132_1126 := ns NB1126_1132; replace HI1126 := am (IsS132.below (iw HI1126.out) hb); clear hb hbox hg; obtain ⟨Ao10, co10, eo10⟩ := Kd.R_slice HO1129.out; subst eo10; have hnb11 := NB1132_1122.out; have hnc11 := NB1122_1132.out; have hnb12 := NB1132_1126.out; have hnc12 := NB1126_1132.out; have hcz13_0 := bc BK1132 0 (.slice none 0 0); have hfz13_0 := blk_frozen BK1132.out 0) | ((with_reducible refine gate_callee (f := 163) rfl ?_); refine gl (some 12) Try.func163 #[.pointer (some ⟨g1126, 0, none⟩), .int .i64 12] ?_; (with_reducible refine (spec_l1Once.calls g1126 t1123 t1130 t1131 12 t1133 t1134 t1135 w _ ?side1 ?side2 A4.out).mono ?_); (case side1 => exact iw HI1126.out); (case side2 => exact bv); rintro e w14 ⟨rfl, hi, hb, hk⟩; refine ⟨_, rfl, ?_⟩; replace BK1122 := kk hk BK1122 NB1122_1126; replace HO1129 := am (Kd.R_mono (Kd.R_keep (IsS132.apart (show IsS132 w _ g1126 t1123 t1130 t1131 from (iw HI1126.out)) (by (with_reducible repeat (first | apply Kd.R_alloc | apply Kd.R_drewN | apply Kd.R_drew)); exact (Kd.R_mono (Kd.R_far (p := ⟨gb1132, 0, none⟩) (Kd.R_types HO1129.out BK1132.out (by decide)) (fun _ hk => hk.2) (.slice Ao10 t1127.length co10)) (fun _ h_ => h_.1))) (by decide)) hk (fun _ h => h.2)) (fun _ h => h.1)); replace BK1132 := am (KeepBut.blk hk (g' := gb1132) (o := .cells #[.slice Ao10 t1127.length co10] 26 (0, 0)) (by (with_reducible repeat (first | refine blk_drewN ?_ _ | refine blk_drew ?_ | refine blk_alloc ?_ _)); refine blk_put (cs := #[.slice none 0 0]) ?_ 0 _ rfl; (with_reducible repeat (first | refine blk_drewN ?_ _ | refine blk_drew ?_ | refine blk_alloc ?_ _)); exact BK1132.out) NB1132_1126.out (by simp)); replace HB := am (hb); replace HI1126 := am (hi); clear hb hk hi))
 (try simp only [Act.put, List.setIfInBounds_toArray, List.set_cons_zero, List.set_cons_succ])
 go_cut [] (fun wc => ∃ (kq : Nat) (x1127001_4 : Int) (x1127002_4 : Int) (x1133000_4 : List Int) (u1133000 : Value), Aside0 (spec_l11Case.j0 kq t1123 x1127001_4 x1127002_4 x1133000_4 = some (r1, r2)) ∧ Aside0 (kq ≤ k) ∧ Aside0 (Kd.Q (Kd.int .i64) 3 wc w.heap.size (fun _ => True) u1133000 x1133000_4) ∧ Aside0 (wc.heap[gb1122]? = some (.cells #[(.slice none 0 0)] 26 (0, 0))) ∧ Aside0 (wc.heap[gb1132]? = some (.cells #[u1133000] 26 (0, 0))) ∧ Aside0 (IsS132 w wc g1126 t1123 x1127001_4 x1127002_4) ∧ Aside0 (Below w.heap.size w wc))
 case first =>
  have H := HC5.out
  clear HC5
  replace H := gb H; obtain ⟨rfl, H⟩ | ⟨rfl, H⟩ := H
  ·replace H := ga H; obtain ⟨⟨t1136, t1139, t1140⟩, A16, H⟩ := H
   replace H : (spec_l11Case.j0 k t1123 t1139 t1140 t1136) = some (r1, r2) := H
   have H' := am H
   clear H
   go_wp2_with (first | ((with_reducible refine gate_callee (f := 130) rfl ?_); refine gl (some 14) Try.func130 #[.pointer (some ⟨g1126, 0, none⟩)] ?_; (with_reducible refine (spec_l3Bent.calls k g1126 t1123 t1134 t1135 t1136 t1139 t1140 w _ ?side1 ?side2 A16.out).mono ?_); (case side1 => exact iw HI1126.out); (case side2 => exact bv); rintro e w17 ⟨v1137, rfl, ho0, hi, hb, hk⟩; refine ⟨_, rfl, ?_⟩; replace BK1122 := kk hk BK1122 NB1122_1126; replace BK1132 := kk hk BK1132 NB1132_1126; have HO1138 := am (Kd.Q_lower (Kd.Q_new' ho0 (Kd.R_lt (ro HO1129.out))) (below_size bv)); replace HO1129 := am (Kd.R_mono (Kd.R_told (Kd.R_oldK (IsS132.apart (show IsS132 w _ g1126 t1123 t1134 t1135 from (iw HI1126.out)) (ro HO1129.out) (by decide)) hk) (Kd.Q_base ho0)) (fun _ h_ => h_.1)); replace HB := am (hb); replace HI1126 := am (hi); clear hb hk hi ho0; obtain ⟨Ao18, co18, eo18, _⟩ := Kd.Q_slice HO1138.out; subst eo18; have hnb19 := NB1132_1122.out; have hnc19 := NB1122_1132.out; have hnb20 := NB1132_1126.out; have hnc20 := NB1126_1132.out; have hcz21_0 := bc BK1132 0 (.slice Ao10 t1127.length co10); have hfz21_0 := blk_frozen BK1132.out 0))
   go_meet
   case rel => exact ⟨_, (t1139), (t1140), (t1136), (.slice Ao18 t1136.length co18), H', ⟨om⟩, ⟨by (with_reducible repeat (first | apply Kd.Q_alloc | apply Kd.Q_drewN | apply Kd.Q_drew)); exact Kd.Q_mono (Kd.Q_far (p := ⟨gb1132, 0, none⟩) (Kd.Q_types HO1138.out BK1132.out (by decide)) (fun _ hk => hk.2) (.slice Ao18 t1136.length co18)) (fun _ hk => trivial)⟩, ⟨bf BK1122.out⟩, ⟨by (with_reducible repeat (first | refine blk_drewN ?_ _ | refine blk_drew ?_ | refine blk_alloc ?_ _)); refine blk_put (cs := #[.slice Ao10 t1127.length co10]) ?_ 0 _ rfl; (with_reducible repeat (first | refine blk_drewN ?_ _ | refine blk_drew ?_ | refine blk_alloc ?_ _)); exact BK1132.out⟩, ⟨(iw HI1126.out)⟩, ⟨bv⟩⟩
  ·have H' := am H
   clear H
   go_wp2
   go_meet
   case rel => exact ⟨_, (t1134), (t1135), (t1127), (.slice Ao10 t1127.length co10), H', ⟨om⟩, ⟨Kd.Q_of_R (ro HO1129.out)⟩, ⟨bo BK1122.out⟩, ⟨bo BK1132.out⟩, ⟨(iw HI1126.out)⟩, ⟨bv⟩⟩
 case rest =>
  clear HC5
  try clear hcz13_0; try clear hcz21_0; try clear hfz13_0; try clear hfz21_0
  obtain ⟨kq, x1127001_4, x1127002_4, x1133000_4, u1133000, HA, HJ4, HO_1133000, BK1122, BK1132, HI1126, HB⟩ := hcut
  cases kq with
  | zero => exact absurd HA.out (by simp [spec_l11Case.j0])
  | succ kj4 =>
   have H := HA.out
   clear HA
   simp only [spec_l11Case.j0] at H
   replace H := ga H; obtain ⟨⟨t1141, t1142, t1143⟩, A22, H⟩ := H
   replace H : ((spec_l1Below.f t1123 t1142 t1143 40).bind fun bt1144 => ((spec_l1Below.f t1123 bt1144.2.1 bt1144.2.2 50).bind fun bt1147 => ((spec_l1PickInt.f t1123 bt1147.2.1 bt1147.2.2 (([t1141, bt1144.1, bt1147.1, (-1), 101] : List Int))).bind fun bt1153 => (if (x1133000_4.length : Int) > 4 then (if bt1153.1 > 30 then (if bt1153.1 < 101 then (some (x1133000_4, 30)) else (some (x1133000_4, bt1153.1))) else (some (x1133000_4, bt1153.1))) else (some (x1133000_4, bt1153.1)))))) = some (r1, r2) := H
   replace H := ga H; obtain ⟨⟨t1144, t1145, t1146⟩, A23, H⟩ := H
   replace H : ((spec_l1Below.f t1123 t1145 t1146 50).bind fun bt1147 => ((spec_l1PickInt.f t1123 bt1147.2.1 bt1147.2.2 (([t1141, t1144, bt1147.1, (-1), 101] : List Int))).bind fun bt1153 => (if (x1133000_4.length : Int) > 4 then (if bt1153.1 > 30 then (if bt1153.1 < 101 then (some (x1133000_4, 30)) else (some (x1133000_4, bt1153.1))) else (some (x1133000_4, bt1153.1))) else (some (x1133000_4, bt1153.1))))) = some (r1, r2) := H
   replace H := ga H; obtain ⟨⟨t1147, t1148, t1149⟩, A24, H⟩ := H
   replace H : ((spec_l1PickInt.f t1123 t1148 t1149 (([t1141, t1144, t1147, (-1), 101] : List Int))).bind fun bt1153 => (if (x1133000_4.length : Int) > 4 then (if bt1153.1 > 30 then (if bt1153.1 < 101 then (some (x1133000_4, 30)) else (some (x1133000_4, bt1153.1))) else (some (x1133000_4, bt1153.1))) else (some (x1133000_4, bt1153.1)))) = some (r1, r2) := H
   obtain ⟨y1150, hy1150⟩ : ∃ y_ : List Int, y_ = (([t1141, t1144, t1147, (-1), 101] : List Int)) := ⟨_, rfl⟩
   replace H : ((spec_l1PickInt.f t1123 t1148 t1149 y1150).bind fun bt1153 => (if (x1133000_4.length : Int) > 4 then (if bt1153.1 > 30 then (if bt1153.1 < 101 then (some (x1133000_4, 30)) else (some (x1133000_4, bt1153.1))) else (some (x1133000_4, bt1153.1))) else (some (x1133000_4, bt1153.1)))) = some (r1, r2) := by first | (rw [hy1150]; with_reducible exact H) | (have H2_ := (Option.bind_some _ _).symm.trans H; rw [hy1150]; with_reducible exact H2_) | (have H2_ := (Option.bind_some _ _).symm.trans H; with_reducible exact H2_) | with_reducible exact H | (rw [hy1150]; exact H) | exact H
   have Ny1150 := am hy1150
   clear hy1150
   replace H := ga H; obtain ⟨⟨t1153, t1154, t1155⟩, A25, H⟩ := H
   replace H : (if (x1133000_4.length : Int) > 4 then (if t1153 > 30 then (if t1153 < 101 then (some (x1133000_4, 30)) else (some (x1133000_4, t1153))) else (some (x1133000_4, t1153))) else (some (x1133000_4, t1153))) = some (r1, r2) := H
   replace H := gj H; obtain ⟨c26, H⟩ | ⟨c26, H⟩ := H
   ·have c26b0 : decide (4 < (x1133000_4.length : Int)) = true := decide_eq_true c26
    have c26b1 : decide (4 < x1133000_4.length) = true := decide_eq_true (by omega)
    clear c26
    replace H := gj H; obtain ⟨c27, H⟩ | ⟨c27, H⟩ := H
    ·have c27b0 : decide (30 < t1153) = true := decide_eq_true c27
     clear c27
     replace H := gi H; obtain ⟨c28b0, H⟩ | ⟨c28b0, H⟩ := H
     ·simp only [Option.some.injEq, Prod.mk.injEq] at H
      obtain ⟨rfl, rfl⟩ := H
      go_wp2_with (first | ((with_reducible refine gate_callee (f := 156) rfl ?_); refine gl (some 17) Try.func156 #[.pointer (some ⟨g1126, 0, none⟩), .int .i64 40] ?_; (with_reducible refine (spec_l1Below.calls g1126 t1123 x1127001_4 x1127002_4 40 t1141 t1142 t1143 w _ ?side1 ?side2 A22.out).mono ?_); (case side1 => exact iw HI1126.out); (case side2 => exact bv); rintro e w29 ⟨rfl, hi, hb, hk⟩; refine ⟨_, rfl, ?_⟩; replace HO_1133000 := am (Kd.Q_mono (Kd.Q_keep (IsS132.apartQ (show IsS132 w _ g1126 t1123 x1127001_4 x1127002_4 from (iw HI1126.out)) (qo HO_1133000.out) (by decide)) hk (fun _ h => h.2)) (fun _ h => h.1)); replace BK1122 := kk hk BK1122 NB1122_1126; replace BK1132 := kk hk BK1132 NB1132_1126; replace HB := am (hb); replace HI1126 := am (hi); clear hb hk hi) | ((with_reducible refine gate_callee (f := 156) rfl ?_); refine gl (some 19) Try.func156 #[.pointer (some ⟨g1126, 0, none⟩), .int .i64 40] ?_; (with_reducible refine (spec_l1Below.calls g1126 t1123 t1142 t1143 40 t1144 t1145 t1146 w _ ?side1 ?side2 A23.out).mono ?_); (case side1 => exact iw HI1126.out); (case side2 => exact bv); rintro e w30 ⟨rfl, hi, hb, hk⟩; refine ⟨_, rfl, ?_⟩; replace HO_1133000 := am (Kd.Q_mono (Kd.Q_keep (IsS132.apartQ (show IsS132 w _ g1126 t1123 t1142 t1143 from (iw HI1126.out)) (qo HO_1133000.out) (by decide)) hk (fun _ h => h.2)) (fun _ h => h.1)); replace BK1122 := kk hk BK1122 NB1122_1126; replace BK1132 := kk hk BK1132 NB1132_1126; replace HB := am (hb); replace HI1126 := am (hi); clear hb hk hi) | ((with_reducible refine gate_callee (f := 156) rfl ?_); refine gl (some 21) Try.func156 #[.pointer (some ⟨g1126, 0, none⟩), .int .i64 50] ?_; (with_reducible refine (spec_l1Below.calls g1126 t1123 t1145 t1146 50 t1147 t1148 t1149 w _ ?side1 ?side2 A24.out).mono ?_); (case side1 => exact iw HI1126.out); (case side2 => exact bv); rintro e w31 ⟨rfl, hi, hb, hk⟩; refine ⟨_, rfl, ?_⟩; replace HO_1133000 := am (Kd.Q_mono (Kd.Q_keep (IsS132.apartQ (show IsS132 w _ g1126 t1123 t1145 t1146 from (iw HI1126.out)) (qo HO_1133000.out) (by decide)) hk (fun _ h => h.2)) (fun _ h => h.1)); replace BK1122 := kk hk BK1122 NB1122_1126; replace BK1132 := kk hk BK1132 NB1132_1126; replace HB := am (hb); replace HI1126 := am (hi); clear hb hk hi) | ((with_reducible refine gate_dst (N := 22) rfl ?_); refine Kd.R_lit (Kd.int .i64) _ 3 ?hg (N := 22) ?hd (xs := ([t1141, t1144, t1147, (-1), 101] : List Int)) (inner := [.int .i64 t1141, .int .i64 t1144, .int .i64 t1147, .int .i64 (-1), .int .i64 101]) (ok := fun _ => True) (okp := fun _ => True) ?hr ?hp (fun _ hk => hk) trivial (Below.refl _ _) (Nat.le_refl _) (by simp) ?_; (case hd => rfl); (case hg => rfl); (case hr => first | (go_simp; done) | (go_simp; rfl)); (case hp => exact (Reps.one (show Kd.M (Kd.int .i64) _ _ _ t1141 [.int .i64 t1141] from rfl) (Reps.one (show Kd.M (Kd.int .i64) _ _ _ t1144 [.int .i64 t1144] from rfl) (Reps.one (show Kd.M (Kd.int .i64) _ _ _ t1147 [.int .i64 t1147] from rfl) (Reps.one (show Kd.M (Kd.int .i64) _ _ _ (-1) [.int .i64 (-1)] from rfl) (Reps.one (show Kd.M (Kd.int .i64) _ _ _ 101 [.int .i64 101] from rfl) (Reps.none _ _))))))); intro v1151 w32 ho33 hb hg_ hnew_; clear hg_ hnew_; (first | rw [← Ny1150.out] at ho33 | (simp only [Int.reduceToNat] at ho33; rw [← Ny1150.out] at ho33)); have HO1152 := am (Kd.R_lower (Kd.R_new' ho33 (Kd.Q_lt (qo HO_1133000.out))) (below_size bv)); replace HO_1133000 := am (Kd.Q_elder' (qo HO_1133000.out) (Kd.R_base ho33) hb); replace BK1122 := kb BK1122 hb; replace BK1132 := kb BK1132 hb; replace HB := am (below_step bv hb); replace HI1126 := am (IsS132.below (iw HI1126.out) hb); clear hb ho33; obtain ⟨Ao34, co34, eo34⟩ := Kd.R_slice HO1152.out; subst eo34) | ((with_reducible refine gate_callee (f := 150) rfl ?_); refine gl (some 23) Try.func150 #[.pointer (some ⟨g1126, 0, none⟩), .slice Ao34 y1150.length co34] ?_; (with_reducible refine (spec_l1PickInt.calls g1126 t1123 t1148 t1149 _ _ y1150 t1153 t1154 t1155 w _ ?side1 ?side2 ?side3 ?side4 ?side5 A25.out).mono ?_); (case side1 => exact iw HI1126.out); (case side2 => exact bv); (case side3 => exact co (Kd.R_reads' HO1152.out).2.2); (case side4 => exact (Kd.R_reads' HO1152.out).2.1); (case side5 => exact far_slice (IsS132.own_ne HI1126.out HO1152.out (by decide))); rintro e w35 ⟨rfl, hi, hb, hk⟩; refine ⟨_, rfl, ?_⟩; replace HO_1133000 := am (Kd.Q_mono (Kd.Q_keep (IsS132.apartQ (show IsS132 w _ g1126 t1123 t1148 t1149 from (iw HI1126.out)) (qo HO_1133000.out) (by decide)) hk (fun _ h => h.2)) (fun _ h => h.1)); replace BK1122 := kk hk BK1122 NB1122_1126; replace BK1132 := kk hk BK1132 NB1132_1126; replace HO1152 := am (Kd.R_mono (Kd.R_keep (IsS132.apart (show IsS132 w _ g1126 t1123 t1148 t1149 from (iw HI1126.out)) (ro HO1152.out) (by decide)) hk (fun _ h => h.2)) (fun _ h => h.1)); replace HB := am (hb); replace HI1126 := am (hi); clear hb hk hi; have hnb36 := NB1132_1122.out; have hnc36 := NB1122_1132.out; have hnb37 := NB1132_1126.out; have hnc37 := NB1126_1132.out; have hcz38_0 := bc BK1132 0 (u1133000); have hfz38_0 := blk_frozen BK1132.out 0; obtain ⟨Ao39, co39, eo39, _⟩ := Kd.Q_slice HO_1133000.out; subst eo39; have hnb40 := NB1122_1126.out; have hnc40 := NB1126_1122.out; have hcz41_0 := bc BK1122 0 (.slice none 0 0); have hfz41_0 := blk_frozen BK1122.out 0))
      refine bodyPost_ret (results_ct rfl _ _ gb1122 26 #[.slice Ao39 x1133000_4.length co39] (0, 0) _ rfl (by (with_reducible repeat (first | refine blk_drewN ?_ _ | refine blk_drew ?_ | refine blk_alloc ?_ _)); refine blk_put (cs := #[.slice none 0 0]) ?_ 0 _ rfl; (with_reducible repeat (first | refine blk_drewN ?_ _ | refine blk_drew ?_ | refine blk_alloc ?_ _)); exact BK1122.out) Try.underlying26 rfl (by kernel_rfl)) rfl ?_
      exact ⟨_, re, by (with_reducible repeat (first | apply Kd.Q_alloc | apply Kd.Q_drewN | apply Kd.Q_drew)); exact Kd.Q_mono (Kd.Q_far (p := ⟨gb1122, 0, none⟩) (Kd.Q_types HO_1133000.out BK1122.out (by decide)) (fun _ hk => hk.2) (.slice Ao39 x1133000_4.length co39)) (fun _ hk => trivial), bv⟩
     ·simp only [Option.some.injEq, Prod.mk.injEq] at H
      obtain ⟨rfl, rfl⟩ := H
      go_wp2_with (first | ((with_reducible refine gate_callee (f := 156) rfl ?_); refine gl (some 17) Try.func156 #[.pointer (some ⟨g1126, 0, none⟩), .int .i64 40] ?_; (with_reducible refine (spec_l1Below.calls g1126 t1123 x1127001_4 x1127002_4 40 t1141 t1142 t1143 w _ ?side1 ?side2 A22.out).mono ?_); (case side1 => exact iw HI1126.out); (case side2 => exact bv); rintro e w42 ⟨rfl, hi, hb, hk⟩; refine ⟨_, rfl, ?_⟩; replace HO_1133000 := am (Kd.Q_mono (Kd.Q_keep (IsS132.apartQ (show IsS132 w _ g1126 t1123 x1127001_4 x1127002_4 from (iw HI1126.out)) (qo HO_1133000.out) (by decide)) hk (fun _ h => h.2)) (fun _ h => h.1)); replace BK1122 := kk hk BK1122 NB1122_1126; replace BK1132 := kk hk BK1132 NB1132_1126; replace HB := am (hb); replace HI1126 := am (hi); clear hb hk hi) | ((with_reducible refine gate_callee (f := 156) rfl ?_); refine gl (some 19) Try.func156 #[.pointer (some ⟨g1126, 0, none⟩), .int .i64 40] ?_; (with_reducible refine (spec_l1Below.calls g1126 t1123 t1142 t1143 40 t1144 t1145 t1146 w _ ?side1 ?side2 A23.out).mono ?_); (case side1 => exact iw HI1126.out); (case side2 => exact bv); rintro e w43 ⟨rfl, hi, hb, hk⟩; refine ⟨_, rfl, ?_⟩; replace HO_1133000 := am (Kd.Q_mono (Kd.Q_keep (IsS132.apartQ (show IsS132 w _ g1126 t1123 t1142 t1143 from (iw HI1126.out)) (qo HO_1133000.out) (by decide)) hk (fun _ h => h.2)) (fun _ h => h.1)); replace BK1122 := kk hk BK1122 NB1122_1126; replace BK1132 := kk hk BK1132 NB1132_1126; replace HB := am (hb); replace HI1126 := am (hi); clear hb hk hi) | ((with_reducible refine gate_callee (f := 156) rfl ?_); refine gl (some 21) Try.func156 #[.pointer (some ⟨g1126, 0, none⟩), .int .i64 50] ?_; (with_reducible refine (spec_l1Below.calls g1126 t1123 t1145 t1146 50 t1147 t1148 t1149 w _ ?side1 ?side2 A24.out).mono ?_); (case side1 => exact iw HI1126.out); (case side2 => exact bv); rintro e w44 ⟨rfl, hi, hb, hk⟩; refine ⟨_, rfl, ?_⟩; replace HO_1133000 := am (Kd.Q_mono (Kd.Q_keep (IsS132.apartQ (show IsS132 w _ g1126 t1123 t1145 t1146 from (iw HI1126.out)) (qo HO_1133000.out) (by decide)) hk (fun _ h => h.2)) (fun _ h => h.1)); replace BK1122 := kk hk BK1122 NB1122_1126; replace BK1132 := kk hk BK1132 NB1132_1126; replace HB := am (hb); replace HI1126 := am (hi); clear hb hk hi) | ((with_reducible refine gate_dst (N := 22) rfl ?_); refine Kd.R_lit (Kd.int .i64) _ 3 ?hg (N := 22) ?hd (xs := ([t1141, t1144, t1147, (-1), 101] : List Int)) (inner := [.int .i64 t1141, .int .i64 t1144, .int .i64 t1147, .int .i64 (-1), .int .i64 101]) (ok := fun _ => True) (okp := fun _ => True) ?hr ?hp (fun _ hk => hk) trivial (Below.refl _ _) (Nat.le_refl _) (by simp) ?_; (case hd => rfl); (case hg => rfl); (case hr => first | (go_simp; done) | (go_simp; rfl)); (case hp => exact (Reps.one (show Kd.M (Kd.int .i64) _ _ _ t1141 [.int .i64 t1141] from rfl) (Reps.one (show Kd.M (Kd.int .i64) _ _ _ t1144 [.int .i64 t1144] from rfl) (Reps.one (show Kd.M (Kd.int .i64) _ _ _ t1147 [.int .i64 t1147] from rfl) (Reps.one (show Kd.M (Kd.int .i64) _ _ _ (-1) [.int .i64 (-1)] from rfl) (Reps.one (show Kd.M (Kd.int .i64) _ _ _ 101 [.int .i64 101] from rfl) (Reps.none _ _))))))); intro v1151 w45 ho46 hb hg_ hnew_; clear hg_ hnew_; (first | rw [← Ny1150.out] at ho46 | (simp only [Int.reduceToNat] at ho46; rw [← Ny1150.out] at ho46)); have HO1152 := am (Kd.R_lower (Kd.R_new' ho46 (Kd.Q_lt (qo HO_1133000.out))) (below_size bv)); replace HO_1133000 := am (Kd.Q_elder' (qo HO_1133000.out) (Kd.R_base ho46) hb); replace BK1122 := kb BK1122 hb; replace BK1132 := kb BK1132 hb; replace HB := am (below_step bv hb); replace HI1126 := am (IsS132.below (iw HI1126.out) hb); clear hb ho46; obtain ⟨Ao47, co47, eo47⟩ := Kd.R_slice HO1152.out; subst eo47) | ((with_reducible refine gate_callee (f := 150) rfl ?_); refine gl (some 23) Try.func150 #[.pointer (some ⟨g1126, 0, none⟩), .slice Ao47 y1150.length co47] ?_; (with_reducible refine (spec_l1PickInt.calls g1126 t1123 t1148 t1149 _ _ y1150 t1153 t1154 t1155 w _ ?side1 ?side2 ?side3 ?side4 ?side5 A25.out).mono ?_); (case side1 => exact iw HI1126.out); (case side2 => exact bv); (case side3 => exact co (Kd.R_reads' HO1152.out).2.2); (case side4 => exact (Kd.R_reads' HO1152.out).2.1); (case side5 => exact far_slice (IsS132.own_ne HI1126.out HO1152.out (by decide))); rintro e w48 ⟨rfl, hi, hb, hk⟩; refine ⟨_, rfl, ?_⟩; replace HO_1133000 := am (Kd.Q_mono (Kd.Q_keep (IsS132.apartQ (show IsS132 w _ g1126 t1123 t1148 t1149 from (iw HI1126.out)) (qo HO_1133000.out) (by decide)) hk (fun _ h => h.2)) (fun _ h => h.1)); replace BK1122 := kk hk BK1122 NB1122_1126; replace BK1132 := kk hk BK1132 NB1132_1126; replace HO1152 := am (Kd.R_mono (Kd.R_keep (IsS132.apart (show IsS132 w _ g1126 t1123 t1148 t1149 from (iw HI1126.out)) (ro HO1152.out) (by decide)) hk (fun _ h => h.2)) (fun _ h => h.1)); replace HB := am (hb); replace HI1126 := am (hi); clear hb hk hi; have hnb49 := NB1132_1122.out; have hnc49 := NB1122_1132.out; have hnb50 := NB1132_1126.out; have hnc50 := NB1126_1132.out; have hcz51_0 := bc BK1132 0 (u1133000); have hfz51_0 := blk_frozen BK1132.out 0; obtain ⟨Ao52, co52, eo52, _⟩ := Kd.Q_slice HO_1133000.out; subst eo52; have hnb53 := NB1122_1126.out; have hnc53 := NB1126_1122.out; have hcz54_0 := bc BK1122 0 (.slice none 0 0); have hfz54_0 := blk_frozen BK1122.out 0))
      refine bodyPost_ret (results_ct rfl _ _ gb1122 26 #[.slice Ao52 x1133000_4.length co52] (0, 0) _ rfl (by (with_reducible repeat (first | refine blk_drewN ?_ _ | refine blk_drew ?_ | refine blk_alloc ?_ _)); refine blk_put (cs := #[.slice none 0 0]) ?_ 0 _ rfl; (with_reducible repeat (first | refine blk_drewN ?_ _ | refine blk_drew ?_ | refine blk_alloc ?_ _)); exact BK1122.out) Try.underlying26 rfl (by kernel_rfl)) rfl ?_
      exact ⟨_, re, by (with_reducible repeat (first | apply Kd.Q_alloc | apply Kd.Q_drewN | apply Kd.Q_drew)); exact Kd.Q_mono (Kd.Q_far (p := ⟨gb1122, 0, none⟩) (Kd.Q_types HO_1133000.out BK1122.out (by decide)) (fun _ hk => hk.2) (.slice Ao52 x1133000_4.length co52)) (fun _ hk => trivial), bv⟩
    ·have c27b0 : decide (30 < t1153) = false := decide_eq_false c27
     clear c27
     simp only [Option.some.injEq, Prod.mk.injEq] at H
     obtain ⟨rfl, rfl⟩ := H
     go_wp2_with (first | ((with_reducible refine gate_callee (f := 156) rfl ?_); refine gl (some 17) Try.func156 #[.pointer (some ⟨g1126, 0, none⟩), .int .i64 40] ?_; (with_reducible refine (spec_l1Below.calls g1126 t1123 x1127001_4 x1127002_4 40 t1141 t1142 t1143 w _ ?side1 ?side2 A22.out).mono ?_); (case side1 => exact iw HI1126.out); (case side2 => exact bv); rintro e w55 ⟨rfl, hi, hb, hk⟩; refine ⟨_, rfl, ?_⟩; replace HO_1133000 := am (Kd.Q_mono (Kd.Q_keep (IsS132.apartQ (show IsS132 w _ g1126 t1123 x1127001_4 x1127002_4 from (iw HI1126.out)) (qo HO_1133000.out) (by decide)) hk (fun _ h => h.2)) (fun _ h => h.1)); replace BK1122 := kk hk BK1122 NB1122_1126; replace BK1132 := kk hk BK1132 NB1132_1126; replace HB := am (hb); replace HI1126 := am (hi); clear hb hk hi) | ((with_reducible refine gate_callee (f := 156) rfl ?_); refine gl (some 19) Try.func156 #[.pointer (some ⟨g1126, 0, none⟩), .int .i64 40] ?_; (with_reducible refine (spec_l1Below.calls g1126 t1123 t1142 t1143 40 t1144 t1145 t1146 w _ ?side1 ?side2 A23.out).mono ?_); (case side1 => exact iw HI1126.out); (case side2 => exact bv); rintro e w56 ⟨rfl, hi, hb, hk⟩; refine ⟨_, rfl, ?_⟩; replace HO_1133000 := am (Kd.Q_mono (Kd.Q_keep (IsS132.apartQ (show IsS132 w _ g1126 t1123 t1142 t1143 from (iw HI1126.out)) (qo HO_1133000.out) (by decide)) hk (fun _ h => h.2)) (fun _ h => h.1)); replace BK1122 := kk hk BK1122 NB1122_1126; replace BK1132 := kk hk BK1132 NB1132_1126; replace HB := am (hb); replace HI1126 := am (hi); clear hb hk hi) | ((with_reducible refine gate_callee (f := 156) rfl ?_); refine gl (some 21) Try.func156 #[.pointer (some ⟨g1126, 0, none⟩), .int .i64 50] ?_; (with_reducible refine (spec_l1Below.calls g1126 t1123 t1145 t1146 50 t1147 t1148 t1149 w _ ?side1 ?side2 A24.out).mono ?_); (case side1 => exact iw HI1126.out); (case side2 => exact bv); rintro e w57 ⟨rfl, hi, hb, hk⟩; refine ⟨_, rfl, ?_⟩; replace HO_1133000 := am (Kd.Q_mono (Kd.Q_keep (IsS132.apartQ (show IsS132 w _ g1126 t1123 t1145 t1146 from (iw HI1126.out)) (qo HO_1133000.out) (by decide)) hk (fun _ h => h.2)) (fun _ h => h.1)); replace BK1122 := kk hk BK1122 NB1122_1126; replace BK1132 := kk hk BK1132 NB1132_1126; replace HB := am (hb); replace HI1126 := am (hi); clear hb hk hi) | ((with_reducible refine gate_dst (N := 22) rfl ?_); refine Kd.R_lit (Kd.int .i64) _ 3 ?hg (N := 22) ?hd (xs := ([t1141, t1144, t1147, (-1), 101] : List Int)) (inner := [.int .i64 t1141, .int .i64 t1144, .int .i64 t1147, .int .i64 (-1), .int .i64 101]) (ok := fun _ => True) (okp := fun _ => True) ?hr ?hp (fun _ hk => hk) trivial (Below.refl _ _) (Nat.le_refl _) (by simp) ?_; (case hd => rfl); (case hg => rfl); (case hr => first | (go_simp; done) | (go_simp; rfl)); (case hp => exact (Reps.one (show Kd.M (Kd.int .i64) _ _ _ t1141 [.int .i64 t1141] from rfl) (Reps.one (show Kd.M (Kd.int .i64) _ _ _ t1144 [.int .i64 t1144] from rfl) (Reps.one (show Kd.M (Kd.int .i64) _ _ _ t1147 [.int .i64 t1147] from rfl) (Reps.one (show Kd.M (Kd.int .i64) _ _ _ (-1) [.int .i64 (-1)] from rfl) (Reps.one (show Kd.M (Kd.int .i64) _ _ _ 101 [.int .i64 101] from rfl) (Reps.none _ _))))))); intro v1151 w58 ho59 hb hg_ hnew_; clear hg_ hnew_; (first | rw [← Ny1150.out] at ho59 | (simp only [Int.reduceToNat] at ho59; rw [← Ny1150.out] at ho59)); have HO1152 := am (Kd.R_lower (Kd.R_new' ho59 (Kd.Q_lt (qo HO_1133000.out))) (below_size bv)); replace HO_1133000 := am (Kd.Q_elder' (qo HO_1133000.out) (Kd.R_base ho59) hb); replace BK1122 := kb BK1122 hb; replace BK1132 := kb BK1132 hb; replace HB := am (below_step bv hb); replace HI1126 := am (IsS132.below (iw HI1126.out) hb); clear hb ho59; obtain ⟨Ao60, co60, eo60⟩ := Kd.R_slice HO1152.out; subst eo60) | ((with_reducible refine gate_callee (f := 150) rfl ?_); refine gl (some 23) Try.func150 #[.pointer (some ⟨g1126, 0, none⟩), .slice Ao60 y1150.length co60] ?_; (with_reducible refine (spec_l1PickInt.calls g1126 t1123 t1148 t1149 _ _ y1150 t1153 t1154 t1155 w _ ?side1 ?side2 ?side3 ?side4 ?side5 A25.out).mono ?_); (case side1 => exact iw HI1126.out); (case side2 => exact bv); (case side3 => exact co (Kd.R_reads' HO1152.out).2.2); (case side4 => exact (Kd.R_reads' HO1152.out).2.1); (case side5 => exact far_slice (IsS132.own_ne HI1126.out HO1152.out (by decide))); rintro e w61 ⟨rfl, hi, hb, hk⟩; refine ⟨_, rfl, ?_⟩; replace HO_1133000 := am (Kd.Q_mono (Kd.Q_keep (IsS132.apartQ (show IsS132 w _ g1126 t1123 t1148 t1149 from (iw HI1126.out)) (qo HO_1133000.out) (by decide)) hk (fun _ h => h.2)) (fun _ h => h.1)); replace BK1122 := kk hk BK1122 NB1122_1126; replace BK1132 := kk hk BK1132 NB1132_1126; replace HO1152 := am (Kd.R_mono (Kd.R_keep (IsS132.apart (show IsS132 w _ g1126 t1123 t1148 t1149 from (iw HI1126.out)) (ro HO1152.out) (by decide)) hk (fun _ h => h.2)) (fun _ h => h.1)); replace HB := am (hb); replace HI1126 := am (hi); clear hb hk hi; have hnb62 := NB1132_1122.out; have hnc62 := NB1122_1132.out; have hnb63 := NB1132_1126.out; have hnc63 := NB1126_1132.out; have hcz64_0 := bc BK1132 0 (u1133000); have hfz64_0 := blk_frozen BK1132.out 0; obtain ⟨Ao65, co65, eo65, _⟩ := Kd.Q_slice HO_1133000.out; subst eo65; have hnb66 := NB1122_1126.out; have hnc66 := NB1126_1122.out; have hcz67_0 := bc BK1122 0 (.slice none 0 0); have hfz67_0 := blk_frozen BK1122.out 0))
     refine bodyPost_ret (results_ct rfl _ _ gb1122 26 #[.slice Ao65 x1133000_4.length co65] (0, 0) _ rfl (by (with_reducible repeat (first | refine blk_drewN ?_ _ | refine blk_drew ?_ | refine blk_alloc ?_ _)); refine blk_put (cs := #[.slice none 0 0]) ?_ 0 _ rfl; (with_reducible repeat (first | refine blk_drewN ?_ _ | refine blk_drew ?_ | refine blk_alloc ?_ _)); exact BK1122.out) Try.underlying26 rfl (by kernel_rfl)) rfl ?_
     exact ⟨_, re, by (with_reducible repeat (first | apply Kd.Q_alloc | apply Kd.Q_drewN | apply Kd.Q_drew)); exact Kd.Q_mono (Kd.Q_far (p := ⟨gb1122, 0, none⟩) (Kd.Q_types HO_1133000.out BK1122.out (by decide)) (fun _ hk => hk.2) (.slice Ao65 x1133000_4.length co65)) (fun _ hk => trivial), bv⟩
   ·have c26b0 : decide (4 < (x1133000_4.length : Int)) = false := decide_eq_false c26
    have c26b1 : decide (4 < x1133000_4.length) = false := decide_eq_false (by omega)
    clear c26
    simp only [Option.some.injEq, Prod.mk.injEq] at H
    obtain ⟨rfl, rfl⟩ := H
    go_wp2_with (first | ((with_reducible refine gate_callee (f := 156) rfl ?_); refine gl (some 17) Try.func156 #[.pointer (some ⟨g1126, 0, none⟩), .int .i64 40] ?_; (with_reducible refine (spec_l1Below.calls g1126 t1123 x1127001_4 x1127002_4 40 t1141 t1142 t1143 w _ ?side1 ?side2 A22.out).mono ?_); (case side1 => exact iw HI1126.out); (case side2 => exact bv); rintro e w68 ⟨rfl, hi, hb, hk⟩; refine ⟨_, rfl, ?_⟩; replace HO_1133000 := am (Kd.Q_mono (Kd.Q_keep (IsS132.apartQ (show IsS132 w _ g1126 t1123 x1127001_4 x1127002_4 from (iw HI1126.out)) (qo HO_1133000.out) (by decide)) hk (fun _ h => h.2)) (fun _ h => h.1)); replace BK1122 := kk hk BK1122 NB1122_1126; replace BK1132 := kk hk BK1132 NB1132_1126; replace HB := am (hb); replace HI1126 := am (hi); clear hb hk hi) | ((with_reducible refine gate_callee (f := 156) rfl ?_); refine gl (some 19) Try.func156 #[.pointer (some ⟨g1126, 0, none⟩), .int .i64 40] ?_; (with_reducible refine (spec_l1Below.calls g1126 t1123 t1142 t1143 40 t1144 t1145 t1146 w _ ?side1 ?side2 A23.out).mono ?_); (case side1 => exact iw HI1126.out); (case side2 => exact bv); rintro e w69 ⟨rfl, hi, hb, hk⟩; refine ⟨_, rfl, ?_⟩; replace HO_1133000 := am (Kd.Q_mono (Kd.Q_keep (IsS132.apartQ (show IsS132 w _ g1126 t1123 t1142 t1143 from (iw HI1126.out)) (qo HO_1133000.out) (by decide)) hk (fun _ h => h.2)) (fun _ h => h.1)); replace BK1122 := kk hk BK1122 NB1122_1126; replace BK1132 := kk hk BK1132 NB1132_1126; replace HB := am (hb); replace HI1126 := am (hi); clear hb hk hi) | ((with_reducible refine gate_callee (f := 156) rfl ?_); refine gl (some 21) Try.func156 #[.pointer (some ⟨g1126, 0, none⟩), .int .i64 50] ?_; (with_reducible refine (spec_l1Below.calls g1126 t1123 t1145 t1146 50 t1147 t1148 t1149 w _ ?side1 ?side2 A24.out).mono ?_); (case side1 => exact iw HI1126.out); (case side2 => exact bv); rintro e w70 ⟨rfl, hi, hb, hk⟩; refine ⟨_, rfl, ?_⟩; replace HO_1133000 := am (Kd.Q_mono (Kd.Q_keep (IsS132.apartQ (show IsS132 w _ g1126 t1123 t1145 t1146 from (iw HI1126.out)) (qo HO_1133000.out) (by decide)) hk (fun _ h => h.2)) (fun _ h => h.1)); replace BK1122 := kk hk BK1122 NB1122_1126; replace BK1132 := kk hk BK1132 NB1132_1126; replace HB := am (hb); replace HI1126 := am (hi); clear hb hk hi) | ((with_reducible refine gate_dst (N := 22) rfl ?_); refine Kd.R_lit (Kd.int .i64) _ 3 ?hg (N := 22) ?hd (xs := ([t1141, t1144, t1147, (-1), 101] : List Int)) (inner := [.int .i64 t1141, .int .i64 t1144, .int .i64 t1147, .int .i64 (-1), .int .i64 101]) (ok := fun _ => True) (okp := fun _ => True) ?hr ?hp (fun _ hk => hk) trivial (Below.refl _ _) (Nat.le_refl _) (by simp) ?_; (case hd => rfl); (case hg => rfl); (case hr => first | (go_simp; done) | (go_simp; rfl)); (case hp => exact (Reps.one (show Kd.M (Kd.int .i64) _ _ _ t1141 [.int .i64 t1141] from rfl) (Reps.one (show Kd.M (Kd.int .i64) _ _ _ t1144 [.int .i64 t1144] from rfl) (Reps.one (show Kd.M (Kd.int .i64) _ _ _ t1147 [.int .i64 t1147] from rfl) (Reps.one (show Kd.M (Kd.int .i64) _ _ _ (-1) [.int .i64 (-1)] from rfl) (Reps.one (show Kd.M (Kd.int .i64) _ _ _ 101 [.int .i64 101] from rfl) (Reps.none _ _))))))); intro v1151 w71 ho72 hb hg_ hnew_; clear hg_ hnew_; (first | rw [← Ny1150.out] at ho72 | (simp only [Int.reduceToNat] at ho72; rw [← Ny1150.out] at ho72)); have HO1152 := am (Kd.R_lower (Kd.R_new' ho72 (Kd.Q_lt (qo HO_1133000.out))) (below_size bv)); replace HO_1133000 := am (Kd.Q_elder' (qo HO_1133000.out) (Kd.R_base ho72) hb); replace BK1122 := kb BK1122 hb; replace BK1132 := kb BK1132 hb; replace HB := am (below_step bv hb); replace HI1126 := am (IsS132.below (iw HI1126.out) hb); clear hb ho72; obtain ⟨Ao73, co73, eo73⟩ := Kd.R_slice HO1152.out; subst eo73) | ((with_reducible refine gate_callee (f := 150) rfl ?_); refine gl (some 23) Try.func150 #[.pointer (some ⟨g1126, 0, none⟩), .slice Ao73 y1150.length co73] ?_; (with_reducible refine (spec_l1PickInt.calls g1126 t1123 t1148 t1149 _ _ y1150 t1153 t1154 t1155 w _ ?side1 ?side2 ?side3 ?side4 ?side5 A25.out).mono ?_); (case side1 => exact iw HI1126.out); (case side2 => exact bv); (case side3 => exact co (Kd.R_reads' HO1152.out).2.2); (case side4 => exact (Kd.R_reads' HO1152.out).2.1); (case side5 => exact far_slice (IsS132.own_ne HI1126.out HO1152.out (by decide))); rintro e w74 ⟨rfl, hi, hb, hk⟩; refine ⟨_, rfl, ?_⟩; replace HO_1133000 := am (Kd.Q_mono (Kd.Q_keep (IsS132.apartQ (show IsS132 w _ g1126 t1123 t1148 t1149 from (iw HI1126.out)) (qo HO_1133000.out) (by decide)) hk (fun _ h => h.2)) (fun _ h => h.1)); replace BK1122 := kk hk BK1122 NB1122_1126; replace BK1132 := kk hk BK1132 NB1132_1126; replace HO1152 := am (Kd.R_mono (Kd.R_keep (IsS132.apart (show IsS132 w _ g1126 t1123 t1148 t1149 from (iw HI1126.out)) (ro HO1152.out) (by decide)) hk (fun _ h => h.2)) (fun _ h => h.1)); replace HB := am (hb); replace HI1126 := am (hi); clear hb hk hi; have hnb75 := NB1132_1122.out; have hnc75 := NB1122_1132.out; have hnb76 := NB1132_1126.out; have hnc76 := NB1126_1132.out; have hcz77_0 := bc BK1132 0 (u1133000); have hfz77_0 := blk_frozen BK1132.out 0; obtain ⟨Ao78, co78, eo78, _⟩ := Kd.Q_slice HO_1133000.out; subst eo78; have hnb79 := NB1122_1126.out; have hnc79 := NB1126_1122.out; have hcz80_0 := bc BK1122 0 (.slice none 0 0); have hfz80_0 := blk_frozen BK1122.out 0))
    refine bodyPost_ret (results_ct rfl _ _ gb1122 26 #[.slice Ao78 x1133000_4.length co78] (0, 0) _ rfl (by (with_reducible repeat (first | refine blk_drewN ?_ _ | refine blk_drew ?_ | refine blk_alloc ?_ _)); refine blk_put (cs := #[.slice none 0 0]) ?_ 0 _ rfl; (with_reducible repeat (first | refine blk_drewN ?_ _ | refine blk_drew ?_ | refine blk_alloc ?_ _)); exact BK1122.out) Try.underlying26 rfl (by kernel_rfl)) rfl ?_
    exact ⟨_, re, by (with_reducible repeat (first | apply Kd.Q_alloc | apply Kd.Q_drewN | apply Kd.Q_drew)); exact Kd.Q_mono (Kd.Q_far (p := ⟨gb1122, 0, none⟩) (Kd.Q_types HO_1133000.out BK1122.out (by decide)) (fun _ hk => hk.2) (.slice Ao78 x1133000_4.length co78)) (fun _ hk => trivial), bv⟩


/-! ### spec_DrawLengthsOf: function 96 -/
def spec_DrawLengthsOf.f (k : Nat) (l0 : List Int) : Option (List Int × Int) := (spec_l11Case.f k l0).bind fun bt1157 => (some (bt1157.1, bt1157.2))
set_option maxHeartbeats 8000000 in
set_option maxRecDepth 100000 in
theorem spec_DrawLengthsOf.calls (k : Nat) (A0 : Option Addr) (c0 : Nat) (l0 : List Int) (r1 : List Int) (r2 : Int) (w : World) (hr0 : Kd.C (Kd.int .u8) w A0 l0.length l0) (hc0 : l0.length ≤ c0) (h : spec_DrawLengthsOf.f k l0 = some (r1, r2)) :
  Calls Try.prog 96 #[.slice A0 l0.length c0] w fun e w' => ∃ v0_ : Value, e = .returned (.tuple #[.agg #[v0_], .int .i64 r2]) ∧ Kd.Q (Kd.int .i64) 3 w' w.heap.size (fun _ => True) v0_ r1 ∧ Below w.heap.size w w' := by
 have hu26 := Try.underlying26
 have HR0 := am hr0
 have HC0 := am hc0
 clear hr0 hc0
 have HB := am (Below.refl w.heap.size w)
 have H : ((spec_l11Case.f k l0).bind fun bt1157 => (some (bt1157.1, bt1157.2))) = some (r1, r2) := h
 clear h
 replace H := ga H; obtain ⟨⟨t1157, t1160⟩, A2, H⟩ := H
 replace H : (some (t1157, t1160)) = some (r1, r2) := H
 simp only [Option.some.injEq, Prod.mk.injEq] at H
 obtain ⟨rfl, rfl⟩ := H
 go_enter Try.func96, Try.ntmps96
 go_wp2_with (first | ((with_reducible refine gate_dst (N := 2) rfl ?_); refine bx 2 #[.slice none 0 0] 26 ?_; intro gb1156 hg w3 hbox hb; have BK1156 := am (hbox); have GW1156 := am (gs hg : w.heap.size ≤ gb1156); have GE1156 := GW1156; replace HB := am (below_step bw hb); clear hb hbox hg) | ((with_reducible refine gate_callee (f := 185) rfl ?_); refine gl (some 8) Try.func185 #[.slice A0 l0.length c0] ?_; (with_reducible refine (spec_l11Case.calls k _ _ l0 t1157 t1160 _ ?side1 ?side2 A2.out).mono ?_); (case side1 => exact co (Kd.C_below HR0.out HB.out)); (case side2 => exact HC0.out); rintro e w4 ⟨v1158, rfl, ho0, hb⟩; refine ⟨_, rfl, ?_⟩; have HO1159 := am (Kd.Q_lower ho0 (below_size bw)); replace BK1156 := kb BK1156 hb; replace HB := am (below_step bw hb); clear hb ho0) | ((with_reducible refine gate_dst (N := 4) rfl ?_); refine bx 4 #[.slice none 0 0] 26 ?_; intro gb1161 hg w5 hbox hb; replace HO1159 := am (Kd.Q_below (qo HO1159.out) hb); have BK1161 := am (hbox); have GW1161 := am (gs hg : w.heap.size ≤ gb1161); have GE1161 := GW1161; replace HB := am (below_step bw hb); have NB1156_1161 := nl hg BK1156; have NB1161_1156 := ns NB1156_1161; replace BK1156 := kb BK1156 hb; clear hb hbox hg; obtain ⟨Ao6, co6, eo6, _⟩ := Kd.Q_slice HO1159.out; subst eo6; have hnb7 := NB1161_1156.out; have hnc7 := NB1156_1161.out; have hcz8_0 := bc BK1161 0 (.slice none 0 0); have hfz8_0 := blk_frozen BK1161.out 0; have hcz9_0 := bc BK1156 0 (.slice none 0 0); have hfz9_0 := blk_frozen BK1156.out 0))
 refine bodyPost_ret (results_ct rfl _ _ gb1156 26 #[.slice Ao6 t1157.length co6] (0, 0) _ rfl (by (with_reducible repeat (first | refine blk_drewN ?_ _ | refine blk_drew ?_ | refine blk_alloc ?_ _)); refine blk_put (cs := #[.slice none 0 0]) ?_ 0 _ rfl; (with_reducible repeat (first | refine blk_drewN ?_ _ | refine blk_drew ?_ | refine blk_alloc ?_ _)); refine blk_far ?_ NB1156_1161.out _; (with_reducible repeat (first | refine blk_drewN ?_ _ | refine blk_drew ?_ | refine blk_alloc ?_ _)); exact BK1156.out) Try.underlying26 rfl (by kernel_rfl)) rfl ?_
 exact ⟨_, re, by (with_reducible repeat (first | apply Kd.Q_alloc | apply Kd.Q_drewN | apply Kd.Q_drew)); exact Kd.Q_mono (Kd.Q_far (p := ⟨gb1156, 0, none⟩) (Kd.Q_far (p := ⟨gb1161, 0, none⟩) (Kd.Q_types (Kd.Q_types HO1159.out BK1161.out (by decide)) BK1156.out (by decide)) (fun _ hk => by first | exact hk.1.2 | simp_all) (.slice Ao6 t1157.length co6)) (fun _ hk => hk.2) (.slice Ao6 t1157.length co6)) (fun _ hk => trivial), bw⟩


/-! ### impl_total: function 166 -/
def impl_total.l0 : Nat → Int → List Int → Int → Int → Option (Int)
 | 0, _, _, _, _ => none
 | k + 1, x3, x6, x7, x8 => if x8 < x7 then (if 0 ≤ x8 then (if x8 < (x6.length : Int) then (impl_total.l0 k (wrap64 (x3 + (rd x6 x8))) x6 x7 (wrap64 (x8 + 1))) else (none)) else (none)) else (some x3)
def impl_total.f (k : Nat) (l0 : List Int) : Option (Int) := impl_total.l0 k 0 l0 (l0.length : Int) 0
set_option maxHeartbeats 8000000 in
set_option maxRecDepth 100000 in
theorem impl_total.calls (k : Nat) (A0 : Option Addr) (c0 : Nat) (l0 : List Int) (r : Int) (w : World) (hr0 : Kd.C (Kd.int .i64) w A0 l0.length l0) (hc0 : l0.length ≤ c0) (h : impl_total.f k l0 = some r) :
  Calls Try.prog 166 #[.slice A0 l0.length c0] w fun e w' => e = .returned (.int .i64 r) ∧ Drawn0 w w' := by
 have HR0 := am hr0
 have HC0 := am hc0
 clear hr0 hc0
 have H : (impl_total.l0 k 0 l0 (l0.length : Int) 0) = some r := h
 clear h
 have H' := am H
 clear H
 go_enter Try.func166, Try.ntmps166
 go_wp2
 go_loopg [3, 8] k (fun kq v3 v8 w' => ∃ (x3_1 : Int) (x8_1 : Int), v3 = .int .i64 x3_1 ∧ v8 = .int .i64 x8_1 ∧ Aside0 (impl_total.l0 kq x3_1 l0 (l0.length : Int) x8_1 = some r) ∧ Aside0 (kq ≤ k) ∧ Drawn0 w w')
 case atStart => exact ⟨(0), (0), rr, rr, H', ⟨Nat.le_refl _⟩, dw⟩
 case round =>
  clear H'
  obtain ⟨x3_1, x8_1, rfl, rfl, HA, HK1, ⟨m1, rfl⟩⟩ := hrel
  cases gk with
  | zero => exact absurd HA.out (by simp [impl_total.l0])
  | succ k1 =>
   have H := HA.out
   clear HA
   simp only [impl_total.l0] at H
   replace H := gi H; obtain ⟨c2b0, H⟩ | ⟨c2b0, H⟩ := H
   ·replace H := gd H; obtain ⟨c3b0, H⟩ := H
    replace H := gd H; obtain ⟨c4b0, H⟩ := H
    have H' := am H
    clear H
    obtain ⟨⟨ad1162, e1162, hx1162_0⟩, p1162, q1162⟩ := pq (Kd.at_int HR0.out x8_1)
    cases e1162
    go_wp2
    go_roundg k1
    case measure => have := HK1.out; omega
    case rel => exact ⟨(wrap64 (x3_1 + (rd l0 x8_1))), (wrap64 (x8_1 + 1)), rr, rr, H', ⟨by have := HK1.out; omega⟩, dw⟩
   ·obtain rfl := Option.some.inj H
    go_wp2
    go_ret
    exact ⟨rr, dw⟩

end Go.Proofs.Ytkfplkdchkmgbaa.C
