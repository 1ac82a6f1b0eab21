/- Contracts of functions of the program: spec_SeriesFrom, impl_IsPalindrome, spec_IsPalindrome, impl_MultiplyLists, spec_MultiplyLists, impl_reach, impl_EulerAt, spec_l15Euler, spec_EulerAt. -/
import Derived.Test.YtbbehmbpoilffaaC0
import Derived.Test.YtbbehmbpoilffaaC1
import Derived.Test.YtbbehmbpoilffaaC3
import Derived.Test.YtbbehmbpoilffaaC6
import Derived.Test.YtbbehmbpoilffaaC7
import Derived.Test.YtbbehmbpoilffaaC8
import Derived.Test.YtbbehmbpoilffaaC9
namespace Go.Proofs.Ytbbehmbpoilffaa.C
open Go.RowKit Go.Proofs.YtbbehmbpoilffaaW.PrintWords Go.Proofs.YtbbehmbpoilffaaW.PrintLast Go.Proofs.YtbbehmbpoilffaaW.PrintMore
attribute [local go_sem] max2_int min2_int max_two min_two max_three min_three max_four min_four
set_option linter.unusedVariables false
set_option linter.unusedSimpArgs false

/-! ### spec_SeriesFrom: function 18 -/
def spec_SeriesFrom.l0 : Nat → List Int → Int → List Int → Int → Int → Option (List Int)
 | 0, _, _, _, _, _ => none
 | k + 1, x0, x1, x5, x6, x7 => if x7 < x1 then (if x7 < (x0.length : Int) then (if 0 ≤ x7 then (if x5.length < 17592186044416 then (spec_SeriesFrom.l0 k x0 x1 (x5 ++ [wrap64 (x6 + (rd x0 x7))]) (wrap64 (x6 + (rd x0 x7))) (wrap64 (x7 + 1))) else (none)) else (none)) else (if x5.length < 17592186044416 then (spec_SeriesFrom.l0 k x0 x1 (x5 ++ [x6]) x6 (wrap64 (x7 + 1))) else (none))) else (some x5)
def spec_SeriesFrom.f (k : Nat) (l0 : List Int) (a1 : Int) : Option (List Int) := (some (([] : List Int) : List Int)).bind fun y665 => ((spec_l1In.f a1 0 1000).bind fun t668 => (if t668 = true then (spec_SeriesFrom.l0 k l0 a1 y665 0 0) else (some y665)))
set_option maxHeartbeats 8000000 in
set_option maxRecDepth 100000 in
theorem spec_SeriesFrom.calls (k : Nat) (A0 : Option Addr) (c0 : Nat) (l0 : List Int) (a1 : Int) (r : List Int) (w : World) (hr0 : Kd.C (Kd.int .i64) w A0 l0.length l0) (hc0 : l0.length ≤ c0) (h : spec_SeriesFrom.f k l0 a1 = some r) :
  Calls Try.prog 18 #[.slice A0 l0.length c0, .int .i64 a1] w fun e w' => ∃ v0_ : Value, e = .returned (v0_) ∧ Kd.R (Kd.int .i64) 3 w' w.heap.size (fun _ => True) v0_ r ∧ Below w.heap.size w w' := by
 have HR0 := am hr0
 have HC0 := am hc0
 clear hr0 hc0
 have HB := am (Below.refl w.heap.size w)
 have H : ((some (([] : List Int) : List Int)).bind fun y665 => ((spec_l1In.f a1 0 1000).bind fun t668 => (if t668 = true then (spec_SeriesFrom.l0 k l0 a1 y665 0 0) else (some y665)))) = some r := h
 clear h
 obtain ⟨y665, hy665⟩ : ∃ y_ : List Int, y_ = (([] : List Int)) := ⟨_, rfl⟩
 replace H : ((spec_l1In.f a1 0 1000).bind fun t668 => (if t668 = true then (spec_SeriesFrom.l0 k l0 a1 y665 0 0) else (some y665))) = some r := by first | (rw [hy665]; with_reducible first | exact H | exact bs H) | (with_reducible first | exact bs H | exact H) | (rw [hy665]; exact H) | exact H
 have Ny665 := am hy665
 clear hy665
 replace H := ga H; obtain ⟨t668, A3, H⟩ := H
 replace H := gb H; obtain ⟨rfl, H⟩ | ⟨rfl, H⟩ := H
 ·have H' := am H
  clear H
  go_enter Try.func18, Try.ntmps18
  go_wp2_with (first | ((with_reducible refine gate_dst (N := 8) rfl ?_); refine Kd.R_lit (Kd.int .i64) _ 3 ?hg (N := 8) ?hd (xs := ([] : List Int)) (inner := []) (ok := fun _ => True) (okp := fun _ => True) ?hr ?hp (fun _ hk => hk) trivial (Below.refl _ _) (Nat.le_refl _) (by simp) ?_; (case hd => rfl); (case hg => rfl); (case hr => first | (go_simp; done) | (go_simp; rfl)); (case hp => exact (Reps.none _ _)); intro v666 w5 ho6 hb hg_ hnew_; clear hg_ hnew_; (first | rw [← Ny665.out] at ho6 | (simp only [Int.reduceToNat] at ho6; rw [← Ny665.out] at ho6)); have HO667 := am (Kd.R_lower ho6 (below_size bw)); replace HB := am (below_step bw hb); clear hb ho6) | ((with_reducible refine gate_callee (f := 81) rfl ?_); refine gl (some 10) Try.func81 #[.int .i64 a1, .int .i64 0, .int .i64 1000] ?_; (with_reducible refine (spec_l1In.calls a1 0 1000 true _ A3.out).mono ?_); rintro e w' ⟨rfl, ⟨nd, rfl⟩⟩; refine ⟨_, rfl, ?_⟩))
  go_loopg [5, 6, 7] k (fun kq v5 v6 v7 w' => ∃ (x5_1 : List Int) (x6_1 : Int) (x7_1 : Int), v6 = .int .i64 x6_1 ∧ v7 = .int .i64 x7_1 ∧ Aside0 (spec_SeriesFrom.l0 kq l0 a1 x5_1 x6_1 x7_1 = some r) ∧ Aside0 (kq ≤ k) ∧ Aside0 (Kd.R (Kd.int .i64) 3 w' w.heap.size (fun _ => True) v5 x5_1) ∧ Aside0 (Below w.heap.size w w'))
  case atStart => exact ⟨(y665), (0), (0), rr, rr, H', ⟨Nat.le_refl _⟩, ⟨ro HO667.out⟩, ⟨bw⟩⟩
  case round =>
   clear H'
   obtain ⟨x5_1, x6_1, x7_1, rfl, rfl, HA, HK1, HO_5, HB⟩ := hrel
   cases gk with
   | zero => exact absurd HA.out (by simp [spec_SeriesFrom.l0])
   | succ k1 =>
    have H := HA.out
    clear HA
    simp only [spec_SeriesFrom.l0] at H
    replace H := gi H; obtain ⟨c7b0, H⟩ | ⟨c7b0, H⟩ := H
    ·replace H := gi H; obtain ⟨c8b0, H⟩ | ⟨c8b0, H⟩ := H
     ·replace H := gd H; obtain ⟨c9b0, H⟩ := H
      by_cases c10 : x5_1.length < 17592186044416
      rotate_left
      ·rw [if_neg c10] at H
       exact absurd H (by simp)
      rw [if_pos c10] at H
      have LMc10 := am c10
      clear c10
      obtain ⟨y670, hy670⟩ : ∃ y_ : List Int, y_ = (x5_1 ++ [wrap64 (x6_1 + (rd l0 x7_1))]) := ⟨_, rfl⟩
      replace H : (spec_SeriesFrom.l0 k1 l0 a1 y670 (wrap64 (x6_1 + (rd l0 x7_1))) (wrap64 (x7_1 + 1))) = some r := by first | (rw [hy670]; with_reducible first | exact H | exact bs H) | (with_reducible first | exact bs H | exact H) | (rw [hy670]; exact H) | exact H
      have Ny670 := am hy670
      clear hy670
      have H' := am H
      clear H
      obtain ⟨⟨ad669, e669, hx669_0⟩, p669, q669⟩ := pq (Kd.at_int HR0.out x7_1)
      cases e669
      replace hx669_0 := hw HB hx669_0
      go_wp2_with (first | ((with_reducible refine gate_builtin (b := .append) (xs := #[.tmp 28, .tmp 30]) rfl ?_); at_builtin; refine Kd.R_append (Kd.int .i64) (w0 := w) w.heap.size rfl (.tmp 28) (.tmp 30) 24 3 (.int .i64 0) 8 rfl Try.underlying24 info3 rfl (by decide) (by omega) u5 x5_1 (wrap64 (x6_1 + (rd l0 x7_1))) [.int .i64 (wrap64 (x6_1 + (rd l0 x7_1)))] (fun _ => True) (fun _ => False) rfl rfl ?aP (fun _ hk => hk.elim) ?aF ?aO ?aB ?aS ?aL ?_; (case aP => exact rfl); (case aB => exact bw); (case aF => exact (fun _ _ => trivial)); (case aO => exact (ro HO_5.out)); (case aS => exact (below_size bw)); (case aL => have := LMc10.out; omega); intro v671 w11 ho hb hg hat; rw [← Ny670.out] at ho; replace HB := am (hb); have HO672 := am (ho); clear HO_5 ho hb hg hat))
      go_roundg k1
      case measure => have := HK1.out; omega
      case rel => exact ⟨(y670), (wrap64 (x6_1 + (rd l0 x7_1))), (wrap64 (x7_1 + 1)), rr, rr, H', ⟨by have := HK1.out; omega⟩, ⟨ro HO672.out⟩, ⟨bw⟩⟩
     by_cases c12 : x5_1.length < 17592186044416
     rotate_left
     ·rw [if_neg c12] at H
      exact absurd H (by simp)
     rw [if_pos c12] at H
     have LMc12 := am c12
     clear c12
     obtain ⟨y673, hy673⟩ : ∃ y_ : List Int, y_ = (x5_1 ++ [x6_1]) := ⟨_, rfl⟩
     replace H : (spec_SeriesFrom.l0 k1 l0 a1 y673 x6_1 (wrap64 (x7_1 + 1))) = some r := by first | (rw [hy673]; with_reducible first | exact H | exact bs H) | (with_reducible first | exact bs H | exact H) | (rw [hy673]; exact H) | exact H
     have Ny673 := am hy673
     clear hy673
     have H' := am H
     clear H
     go_wp2_with (first | ((with_reducible refine gate_builtin (b := .append) (xs := #[.tmp 28, .tmp 30]) rfl ?_); at_builtin; refine Kd.R_append (Kd.int .i64) (w0 := w) w.heap.size rfl (.tmp 28) (.tmp 30) 24 3 (.int .i64 0) 8 rfl Try.underlying24 info3 rfl (by decide) (by omega) u5 x5_1 x6_1 [.int .i64 x6_1] (fun _ => True) (fun _ => False) rfl rfl ?aP (fun _ hk => hk.elim) ?aF ?aO ?aB ?aS ?aL ?_; (case aP => exact rfl); (case aB => exact bw); (case aF => exact (fun _ _ => trivial)); (case aO => exact (ro HO_5.out)); (case aS => exact (below_size bw)); (case aL => have := LMc12.out; omega); intro v674 w13 ho hb hg hat; rw [← Ny673.out] at ho; replace HB := am (hb); have HO675 := am (ho); clear HO_5 ho hb hg hat))
     go_roundg k1
     case measure => have := HK1.out; omega
     case rel => exact ⟨(y673), (x6_1), (wrap64 (x7_1 + 1)), rr, rr, H', ⟨by have := HK1.out; omega⟩, ⟨ro HO675.out⟩, ⟨bw⟩⟩
    obtain rfl := Option.some.inj H
    go_wp2
    go_ret
    exact ⟨_, re, ro HO_5.out, bw⟩
 obtain rfl := Option.some.inj H
 go_enter Try.func18, Try.ntmps18
 go_wp2_with (first | ((with_reducible refine gate_dst (N := 8) rfl ?_); refine Kd.R_lit (Kd.int .i64) _ 3 ?hg (N := 8) ?hd (xs := ([] : List Int)) (inner := []) (ok := fun _ => True) (okp := fun _ => True) ?hr ?hp (fun _ hk => hk) trivial (Below.refl _ _) (Nat.le_refl _) (by simp) ?_; (case hd => rfl); (case hg => rfl); (case hr => first | (go_simp; done) | (go_simp; rfl)); (case hp => exact (Reps.none _ _)); intro v666 w14 ho15 hb hg_ hnew_; clear hg_ hnew_; (first | rw [← Ny665.out] at ho15 | (simp only [Int.reduceToNat] at ho15; rw [← Ny665.out] at ho15)); have HO667 := am (Kd.R_lower ho15 (below_size bw)); replace HB := am (below_step bw hb); clear hb ho15) | ((with_reducible refine gate_callee (f := 81) rfl ?_); refine gl (some 10) Try.func81 #[.int .i64 a1, .int .i64 0, .int .i64 1000] ?_; (with_reducible refine (spec_l1In.calls a1 0 1000 false _ A3.out).mono ?_); rintro e w' ⟨rfl, ⟨nd, rfl⟩⟩; refine ⟨_, rfl, ?_⟩))
 go_ret
 exact ⟨_, re, ro HO667.out, bw⟩


/-! ### impl_IsPalindrome: function 19 -/
def impl_IsPalindrome.l0 : Nat → List Int → Int → Int → Option (Bool)
 | 0, _, _, _ => none
 | k + 1, x0, x5, x6 => if x6 < x5 then (if 0 ≤ x6 then (if x6 < (x0.length : Int) then (if 0 ≤ (wrap64 ((wrap64 ((x0.length : Int) - 1)) - x6)) then (if (wrap64 ((wrap64 ((x0.length : Int) - 1)) - x6)) < (x0.length : Int) then (if (rd x0 x6) = (rd x0 (wrap64 ((wrap64 ((x0.length : Int) - 1)) - x6))) then (impl_IsPalindrome.l0 k x0 x5 (wrap64 (x6 + 1))) else (some false)) else (none)) else (none)) else (none)) else (none)) else (some true)
def impl_IsPalindrome.f (k : Nat) (l0 : List Int) : Option (Bool) := impl_IsPalindrome.l0 k l0 (l0.length : Int) 0
set_option maxHeartbeats 8000000 in
set_option maxRecDepth 100000 in
theorem impl_IsPalindrome.calls (k : Nat) (A0 : Option Addr) (c0 : Nat) (l0 : List Int) (r : Bool) (w : World) (hr0 : Kd.C (Kd.int .i64) w A0 l0.length l0) (hc0 : l0.length ≤ c0) (h : impl_IsPalindrome.f k l0 = some r) :
  Calls Try.prog 19 #[.slice A0 l0.length c0] w fun e w' => e = .returned (.bool r) ∧ Drawn0 w w' := by
 have HR0 := am hr0
 have HC0 := am hc0
 clear hr0 hc0
 have H : (impl_IsPalindrome.l0 k l0 (l0.length : Int) 0) = some r := h
 clear h
 have H' := am H
 clear H
 go_enter Try.func19, Try.ntmps19
 go_wp2
 repeat (go_quiet (fail); try go_wp2)
 go_loopg [6] k (fun kq v6 w' => ∃ (x6_1 : Int), v6 = .int .i64 x6_1 ∧ Aside0 (impl_IsPalindrome.l0 kq l0 (l0.length : Int) x6_1 = some r) ∧ Aside0 (kq ≤ k) ∧ Drawn0 w w')
 case atStart => exact ⟨(0), rr, H', ⟨Nat.le_refl _⟩, dw⟩
 case round =>
  clear H'
  obtain ⟨x6_1, rfl, HA, HK1, ⟨m1, rfl⟩⟩ := hrel
  cases gk with
  | zero => exact absurd HA.out (by simp [impl_IsPalindrome.l0])
  | succ k1 =>
   have H := HA.out
   clear HA
   simp only [impl_IsPalindrome.l0] at H
   replace H := gi H; obtain ⟨c2b0, H⟩ | ⟨c2b0, H⟩ := H
   ·replace H := gd H; obtain ⟨c3b0, H⟩ := H
    replace H := gd H; obtain ⟨c4b0, H⟩ := H
    obtain ⟨ji5, hji5⟩ : ∃ j_ : Int, (wrap64 ((wrap64 ((l0.length : Int) - 1)) - x6_1)) = j_ := ⟨_, rfl⟩
    replace H : (if 0 ≤ (ji5) then (if (ji5) < (l0.length : Int) then (if (rd l0 x6_1) = (rd l0 (ji5)) then (impl_IsPalindrome.l0 k1 l0 (l0.length : Int) (wrap64 (x6_1 + 1))) else (some false)) else (none)) else (none)) = some r := by first | (rw [hji5] at H; exact H) | (simp only [hji5] at H ⊢; exact H)
    have hji5w : (IntKind.i64.wrap ((wrap64 ((l0.length : Int) - 1)) - x6_1)) = ji5 := (i64_w _).trans hji5
    replace H := gd H; obtain ⟨c6b0, H⟩ := H
    replace H := gd H; obtain ⟨c7b0, H⟩ := H
    by_cases c8 : (rd l0 x6_1) = (rd l0 (ji5))
    ·rw [if_pos c8] at H
     have c8b0 : ((rd l0 x6_1) == (rd l0 (ji5))) = true := beq_iff_eq.mpr c8
     have c8b1 : ((rd l0 x6_1) != (rd l0 (ji5))) = false := bne_eq_false_iff_eq.mpr c8
     clear c8
     have H' := am H
     clear H
     obtain ⟨⟨ad676, e676, hx676_0⟩, p676, q676⟩ := pq (Kd.at_int HR0.out x6_1)
     cases e676
     obtain ⟨⟨ad677, e677, hx677_0⟩, p677, q677⟩ := pq (Kd.at_int HR0.out (ji5))
     obtain rfl : ad676 = ad677 := (by injection e677)
     go_wp2
     repeat (go_quiet (fail); try go_wp2)
     go_roundg k1
     case measure => have := HK1.out; omega
     case rel => exact ⟨(wrap64 (x6_1 + 1)), rr, H', ⟨by have := HK1.out; omega⟩, dw⟩
    rw [if_neg c8] at H
    have c8b0 : ((rd l0 x6_1) == (rd l0 (ji5))) = false := beq_eq_false_iff_ne.mpr c8
    have c8b1 : ((rd l0 x6_1) != (rd l0 (ji5))) = true := bne_iff_ne.mpr c8
    obtain rfl := Option.some.inj H
    obtain ⟨⟨ad676, e676, hx676_0⟩, p676, q676⟩ := pq (Kd.at_int HR0.out x6_1)
    cases e676
    obtain ⟨⟨ad677, e677, hx677_0⟩, p677, q677⟩ := pq (Kd.at_int HR0.out (ji5))
    obtain rfl : ad676 = ad677 := (by injection e677)
    go_wp2
    repeat (go_quiet (fail); try go_wp2)
    go_ret
    exact ⟨by first | rfl | (simp; done) | (simp only [← hji5] <;> (first | rfl | simp)) | (simp [*]; done), dw⟩
   obtain rfl := Option.some.inj H
   go_wp2
   repeat (go_quiet (fail); try go_wp2)
   go_ret
   exact ⟨rr, dw⟩


/-! ### spec_IsPalindrome: function 20 -/
def spec_IsPalindrome.l0 : Nat → List Int → Int → Option (Bool)
 | 0, _, _ => none
 | k + 1, x0, x3 => if x3 < (x0.length : Int) then (if 0 ≤ x3 then (if 0 ≤ (wrap64 ((wrap64 ((x0.length : Int) - 1)) - x3)) then (if (wrap64 ((wrap64 ((x0.length : Int) - 1)) - x3)) < (x0.length : Int) then (if (rd x0 x3) = (rd x0 (wrap64 ((wrap64 ((x0.length : Int) - 1)) - x3))) then (spec_IsPalindrome.l0 k x0 (wrap64 (x3 + 1))) else (some false)) else (none)) else (none)) else (none)) else (some true)
def spec_IsPalindrome.f (k : Nat) (l0 : List Int) : Option (Bool) := spec_IsPalindrome.l0 k l0 0
set_option maxHeartbeats 8000000 in
set_option maxRecDepth 100000 in
theorem spec_IsPalindrome.calls (k : Nat) (A0 : Option Addr) (c0 : Nat) (l0 : List Int) (r : Bool) (w : World) (hr0 : Kd.C (Kd.int .i64) w A0 l0.length l0) (hc0 : l0.length ≤ c0) (h : spec_IsPalindrome.f k l0 = some r) :
  Calls Try.prog 20 #[.slice A0 l0.length c0] w fun e w' => e = .returned (.bool r) ∧ Drawn0 w w' := by
 have HR0 := am hr0
 have HC0 := am hc0
 clear hr0 hc0
 have H : (spec_IsPalindrome.l0 k l0 0) = some r := h
 clear h
 have H' := am H
 clear H
 go_enter Try.func20, Try.ntmps20
 go_wp2
 repeat (go_quiet (fail); try go_wp2)
 go_loopg [3] k (fun kq v3 w' => ∃ (x3_1 : Int), v3 = .int .i64 x3_1 ∧ Aside0 (spec_IsPalindrome.l0 kq l0 x3_1 = some r) ∧ Aside0 (kq ≤ k) ∧ Drawn0 w w')
 case atStart => exact ⟨(0), rr, H', ⟨Nat.le_refl _⟩, dw⟩
 case round =>
  clear H'
  obtain ⟨x3_1, rfl, HA, HK1, ⟨m1, rfl⟩⟩ := hrel
  cases gk with
  | zero => exact absurd HA.out (by simp [spec_IsPalindrome.l0])
  | succ k1 =>
   have H := HA.out
   clear HA
   simp only [spec_IsPalindrome.l0] at H
   replace H := gi H; obtain ⟨c2b0, H⟩ | ⟨c2b0, H⟩ := H
   ·replace H := gd H; obtain ⟨c3b0, H⟩ := H
    obtain ⟨ji4, hji4⟩ : ∃ j_ : Int, (wrap64 ((wrap64 ((l0.length : Int) - 1)) - x3_1)) = j_ := ⟨_, rfl⟩
    replace H : (if 0 ≤ (ji4) then (if (ji4) < (l0.length : Int) then (if (rd l0 x3_1) = (rd l0 (ji4)) then (spec_IsPalindrome.l0 k1 l0 (wrap64 (x3_1 + 1))) else (some false)) else (none)) else (none)) = some r := by first | (rw [hji4] at H; exact H) | (simp only [hji4] at H ⊢; exact H)
    have hji4w : (IntKind.i64.wrap ((wrap64 ((l0.length : Int) - 1)) - x3_1)) = ji4 := (i64_w _).trans hji4
    replace H := gd H; obtain ⟨c5b0, H⟩ := H
    replace H := gd H; obtain ⟨c6b0, H⟩ := H
    by_cases c7 : (rd l0 x3_1) = (rd l0 (ji4))
    ·rw [if_pos c7] at H
     have c7b0 : ((rd l0 x3_1) == (rd l0 (ji4))) = true := beq_iff_eq.mpr c7
     have c7b1 : ((rd l0 x3_1) != (rd l0 (ji4))) = false := bne_eq_false_iff_eq.mpr c7
     clear c7
     have H' := am H
     clear H
     obtain ⟨⟨ad678, e678, hx678_0⟩, p678, q678⟩ := pq (Kd.at_int HR0.out x3_1)
     cases e678
     obtain ⟨⟨ad679, e679, hx679_0⟩, p679, q679⟩ := pq (Kd.at_int HR0.out (ji4))
     obtain rfl : ad678 = ad679 := (by injection e679)
     go_wp2
     repeat (go_quiet (fail); try go_wp2)
     go_roundg k1
     case measure => have := HK1.out; omega
     case rel => exact ⟨(wrap64 (x3_1 + 1)), rr, H', ⟨by have := HK1.out; omega⟩, dw⟩
    rw [if_neg c7] at H
    have c7b0 : ((rd l0 x3_1) == (rd l0 (ji4))) = false := beq_eq_false_iff_ne.mpr c7
    have c7b1 : ((rd l0 x3_1) != (rd l0 (ji4))) = true := bne_iff_ne.mpr c7
    obtain rfl := Option.some.inj H
    obtain ⟨⟨ad678, e678, hx678_0⟩, p678, q678⟩ := pq (Kd.at_int HR0.out x3_1)
    cases e678
    obtain ⟨⟨ad679, e679, hx679_0⟩, p679, q679⟩ := pq (Kd.at_int HR0.out (ji4))
    obtain rfl : ad678 = ad679 := (by injection e679)
    go_wp2
    repeat (go_quiet (fail); try go_wp2)
    go_ret
    exact ⟨by first | rfl | (simp; done) | (simp only [← hji4] <;> (first | rfl | simp)) | (simp [*]; done), dw⟩
   obtain rfl := Option.some.inj H
   go_wp2
   repeat (go_quiet (fail); try go_wp2)
   go_ret
   exact ⟨rr, dw⟩


/-! ### impl_MultiplyLists: function 21 -/
def impl_MultiplyLists.f (k : Nat) (l0 : List Int) (l1 : List Int) : Option (List Int) := (impl_within.f (l0.length : Int) 1 500).bind fun t680 => (if t680 = true then ((impl_within.f (l1.length : Int) 1 500).bind fun t681 => (if t681 = true then ((impl_product.f k l0 l1).bind fun t682 => (some t682)) else (some ([] : List Int)))) else (some ([] : List Int)))
set_option maxHeartbeats 8000000 in
set_option maxRecDepth 100000 in
theorem impl_MultiplyLists.calls (k : Nat) (A0 : Option Addr) (c0 : Nat) (l0 : List Int) (A1 : Option Addr) (c1 : Nat) (l1 : List Int) (r : List Int) (w : World) (hr0 : Kd.C (Kd.int .i64) w A0 l0.length l0) (hc0 : l0.length ≤ c0) (hr1 : Kd.C (Kd.int .i64) w A1 l1.length l1) (hc1 : l1.length ≤ c1) (h : impl_MultiplyLists.f k l0 l1 = some r) :
  Calls Try.prog 21 #[.slice A0 l0.length c0, .slice A1 l1.length c1] w fun e w' => ∃ v0_ : Value, e = .returned (v0_) ∧ Kd.R (Kd.int .i64) 3 w' w.heap.size (fun _ => True) v0_ r ∧ Below w.heap.size w w' := by
 have HR0 := am hr0
 have HC0 := am hc0
 clear hr0 hc0
 have HR1 := am hr1
 have HC1 := am hc1
 clear hr1 hc1
 have HB := am (Below.refl w.heap.size w)
 have H : ((impl_within.f (l0.length : Int) 1 500).bind fun t680 => (if t680 = true then ((impl_within.f (l1.length : Int) 1 500).bind fun t681 => (if t681 = true then ((impl_product.f k l0 l1).bind fun t682 => (some t682)) else (some ([] : List Int)))) else (some ([] : List Int)))) = some r := h
 clear h
 replace H := ga H; obtain ⟨t680, A3, H⟩ := H
 replace H := gb H; obtain ⟨rfl, H⟩ | ⟨rfl, H⟩ := H
 ·replace H := ga H; obtain ⟨t681, A5, H⟩ := H
  replace H := gb H; obtain ⟨rfl, H⟩ | ⟨rfl, H⟩ := H
  ·replace H := ga H; obtain ⟨t682, A7, H⟩ := H
   obtain rfl := Option.some.inj H
   go_enter Try.func21, Try.ntmps21
   go_wp2_with (first | ((with_reducible refine gate_callee (f := 80) rfl ?_); refine gl (some 7) Try.func80 #[.int .i64 (l0.length : Int), .int .i64 1, .int .i64 500] ?_; (with_reducible refine (impl_within.calls (l0.length : Int) 1 500 true _ A3.out).mono ?_); rintro e w' ⟨rfl, ⟨nd, rfl⟩⟩; refine ⟨_, rfl, ?_⟩) | (go_at_call 80; (with_reducible refine (impl_within.calls (l1.length : Int) 1 500 true _ A5.out).mono ?_); rintro e w' ⟨rfl, ⟨nd, rfl⟩⟩) | ((with_reducible refine gate_callee (f := 73) rfl ?_); refine gl (some 17) Try.func73 #[.slice A0 l0.length c0, .slice A1 l1.length c1] ?_; (with_reducible refine (impl_product.calls k _ _ l0 _ _ l1 t682 _ ?side1 ?side2 ?side3 ?side4 A7.out).mono ?_); (case side1 => exact co HR0.out); (case side2 => exact HC0.out); (case side3 => exact co HR1.out); (case side4 => exact HC1.out); rintro e w8 ⟨v683, rfl, ho0, hb⟩; refine ⟨_, rfl, ?_⟩; have HO684 := am (Kd.R_lower ho0 (below_size bw)); replace HB := am (below_step bw hb); clear hb ho0))
   go_ret
   exact ⟨_, re, ro HO684.out, bw⟩
  obtain rfl := Option.some.inj H
  go_enter Try.func21, Try.ntmps21
  go_wp2_with (first | ((with_reducible refine gate_callee (f := 80) rfl ?_); refine gl (some 7) Try.func80 #[.int .i64 (l0.length : Int), .int .i64 1, .int .i64 500] ?_; (with_reducible refine (impl_within.calls (l0.length : Int) 1 500 true _ A3.out).mono ?_); rintro e w' ⟨rfl, ⟨nd, rfl⟩⟩; refine ⟨_, rfl, ?_⟩) | (go_at_call 80; (with_reducible refine (impl_within.calls (l1.length : Int) 1 500 false _ A5.out).mono ?_); rintro e w' ⟨rfl, ⟨nd, rfl⟩⟩))
  go_ret
  exact ⟨_, re, by first | exact Kd.R_nil _ _ _ _ _ | exact Kd.N_nil _ _ _ _ _ | exact Kd.V_nil _ _ _ _ _ | exact Kd.Q_nil _ _ _ _ _ | exact Kd.S_nil _ _ _ _ _, bw⟩
 obtain rfl := Option.some.inj H
 go_enter Try.func21, Try.ntmps21
 go_wp2_with (first | ((with_reducible refine gate_callee (f := 80) rfl ?_); refine gl (some 7) Try.func80 #[.int .i64 (l0.length : Int), .int .i64 1, .int .i64 500] ?_; (with_reducible refine (impl_within.calls (l0.length : Int) 1 500 false _ A3.out).mono ?_); rintro e w' ⟨rfl, ⟨nd, rfl⟩⟩; refine ⟨_, rfl, ?_⟩))
 go_ret
 exact ⟨_, re, by first | exact Kd.R_nil _ _ _ _ _ | exact Kd.N_nil _ _ _ _ _ | exact Kd.V_nil _ _ _ _ _ | exact Kd.Q_nil _ _ _ _ _ | exact Kd.S_nil _ _ _ _ _, bw⟩


/-! ### spec_MultiplyLists: function 22 -/
mutual
def spec_MultiplyLists.j0 : Nat → List Int → List Int → Bool → Option (List Int)
 | 0, _, _, _ => none
 | k + 1, x0, x1, x17 => if x17 = true then (some (([] : List Int))) else (if 0 ≤ (wrap64 ((wrap64 ((x0.length : Int) + (x1.length : Int))) - 1)) then (if (wrap64 ((wrap64 ((x0.length : Int) + (x1.length : Int))) - 1) : Int).toNat ≤ 35184372088832 then (spec_MultiplyLists.l0 k x0 x1 (List.replicate (wrap64 ((wrap64 ((x0.length : Int) + (x1.length : Int))) - 1) : Int).toNat 0) 0) else (none)) else (none))
def spec_MultiplyLists.l0 : Nat → List Int → List Int → List Int → Int → Option (List Int)
 | 0, _, _, _, _ => none
 | k + 1, x0, x1, x5, x6 => if x6 < (x0.length : Int) then (spec_MultiplyLists.l1 k x0 x1 x5 x6 0) else (some x5)
def spec_MultiplyLists.l1 : Nat → List Int → List Int → List Int → Int → Int → Option (List Int)
 | 0, _, _, _, _, _ => none
 | k + 1, x0, x1, x5, x6, x7 => if x7 < (x1.length : Int) then (if 0 ≤ (wrap64 (x6 + x7)) then (if (wrap64 (x6 + x7)) < (x5.length : Int) then (if 0 ≤ x6 then (if x6 < (x0.length : Int) then (if 0 ≤ x7 then (spec_MultiplyLists.l1 k x0 x1 (x5.set ((wrap64 (x6 + x7)) : Int).toNat (wrap64 ((rd x5 (wrap64 (x6 + x7))) + (wrap64 ((rd x0 x6) * (rd x1 x7)))))) x6 (wrap64 (x7 + 1))) else (none)) else (none)) else (none)) else (none)) else (none)) else (spec_MultiplyLists.l0 k x0 x1 x5 (wrap64 (x6 + 1)))
end
def spec_MultiplyLists.f (k : Nat) (l0 : List Int) (l1 : List Int) : Option (List Int) := (spec_l1In.f (l0.length : Int) 1 500).bind fun t685 => (if t685 = true then ((spec_l1In.f (l1.length : Int) 1 500).bind fun t686 => (spec_MultiplyLists.j0 k l0 l1 (!t686))) else (spec_MultiplyLists.j0 k l0 l1 true))
def spec_MultiplyLists.T10 : Bool × List (List Nat × List Nat) := (true, [([], []), ([], []), ([], []), ([1, 2], [1, 2]), ([], []), ([], []), ([], []), ([5, 6], [5, 6]), ([4, 7], [4, 7]), ([8], [8]), ([], []), ([], []), ([10, 11], [10, 11]), ([12], [12]), ([], []), ([], []), ([14, 15], [14, 15]), ([16], [16]), ([13, 17], [13, 17]), ([9, 18], [9, 18]), ([0, 3, 0, 1, 2, 3, 4, 5, 6, 7, 8, 9, 10, 11, 12, 13, 14, 15, 16, 17, 18, 19], [0, 3]), ([20, 19, 0, 1, 2, 3, 4, 5, 6, 7, 8, 9, 10, 11, 12, 13, 14, 15, 16, 17, 18, 19], [19, 20])])
def spec_MultiplyLists.B10 : List Nat := [0, 0, 0, 6, 0, 0, 0, 96, 240, 496, 0, 0, 3072, 7168, 0, 0, 49152, 114688, 261120, 524272, 1048575, 2097151]
theorem spec_MultiplyLists.tab10 : rtab .any (opsOf Try.f22 10) = spec_MultiplyLists.T10 := by kernel_rfl
theorem spec_MultiplyLists.bits10 : waitsOk spec_MultiplyLists.T10.2 spec_MultiplyLists.B10 = true := by kernel_rfl
set_option maxHeartbeats 8000000 in
set_option maxRecDepth 100000 in
theorem spec_MultiplyLists.calls (k : Nat) (A0 : Option Addr) (c0 : Nat) (l0 : List Int) (A1 : Option Addr) (c1 : Nat) (l1 : List Int) (r : List Int) (w : World) (hr0 : Kd.C (Kd.int .i64) w A0 l0.length l0) (hc0 : l0.length ≤ c0) (hr1 : Kd.C (Kd.int .i64) w A1 l1.length l1) (hc1 : l1.length ≤ c1) (h : spec_MultiplyLists.f k l0 l1 = some r) :
  Calls Try.prog 22 #[.slice A0 l0.length c0, .slice A1 l1.length c1] w fun e w' => ∃ v0_ : Value, e = .returned (v0_) ∧ Kd.R (Kd.int .i64) 3 w' w.heap.size (fun _ => True) v0_ r ∧ Below w.heap.size w w' := by
 have HR0 := am hr0
 have HC0 := am hc0
 clear hr0 hc0
 have HR1 := am hr1
 have HC1 := am hc1
 clear hr1 hc1
 have HB := am (Below.refl w.heap.size w)
 have H : ((spec_l1In.f (l0.length : Int) 1 500).bind fun t685 => (if t685 = true then ((spec_l1In.f (l1.length : Int) 1 500).bind fun t686 => (spec_MultiplyLists.j0 k l0 l1 (!t686))) else (spec_MultiplyLists.j0 k l0 l1 true))) = some r := h
 clear h
 have HC3 := am H
 clear H
 go_enter Try.func22, Try.ntmps22
 go_upto_region 1 with (fail)
 go_cut [17] (fun v17 wc => ∃ (kq : Nat) (x17_2 : Bool), v17 = .bool x17_2 ∧ Aside0 (spec_MultiplyLists.j0 kq l0 l1 x17_2 = some r) ∧ Aside0 (kq ≤ k) ∧ Aside0 (Below w.heap.size w wc))
 case first =>
  have H := HC3.out
  clear HC3
  replace H := ga H; obtain ⟨t685, A4, H⟩ := H
  replace H := gb H; obtain ⟨rfl, H⟩ | ⟨rfl, H⟩ := H
  ·replace H := ga H; obtain ⟨t686, A6, H⟩ := H
   have H' := am H
   clear H
   go_wp2_with (first | ((with_reducible refine gate_callee (f := 81) rfl ?_); refine gl (some 10) Try.func81 #[.int .i64 (l0.length : Int), .int .i64 1, .int .i64 500] ?_; (with_reducible refine (spec_l1In.calls (l0.length : Int) 1 500 true _ A4.out).mono ?_); rintro e w' ⟨rfl, ⟨nd, rfl⟩⟩; refine ⟨_, rfl, ?_⟩) | (go_at_call 81; (with_reducible refine (spec_l1In.calls (l1.length : Int) 1 500 t686 _ A6.out).mono ?_); rintro e w' ⟨rfl, ⟨nd, rfl⟩⟩))
   go_meet
   case rel => exact ⟨_, (!t686), rr, H', ⟨om⟩, ⟨bw⟩⟩
  have H' := am H
  clear H
  go_wp2_with (first | ((with_reducible refine gate_callee (f := 81) rfl ?_); refine gl (some 10) Try.func81 #[.int .i64 (l0.length : Int), .int .i64 1, .int .i64 500] ?_; (with_reducible refine (spec_l1In.calls (l0.length : Int) 1 500 false _ A4.out).mono ?_); rintro e w' ⟨rfl, ⟨nd, rfl⟩⟩; refine ⟨_, rfl, ?_⟩))
  go_meet
  case rel => exact ⟨_, (true), rr, H', ⟨om⟩, ⟨bw⟩⟩
 case rest =>
  clear HC3
  try clear c1
  obtain ⟨kq, x17_2, rfl, HA, HJ2, HB⟩ := hcut
  cases kq with
  | zero => exact absurd HA.out (by simp [spec_MultiplyLists.j0])
  | succ kj2 =>
   have H := HA.out
   clear HA
   simp only [spec_MultiplyLists.j0] at H
   replace H := gb H; obtain ⟨rfl, H⟩ | ⟨rfl, H⟩ := H
   ·obtain ⟨y687, hy687⟩ : ∃ y_ : List Int, y_ = (([] : List Int)) := ⟨_, rfl⟩
    replace H : (some y687) = some r := by first | (rw [hy687]; with_reducible first | exact H | exact bs H) | (with_reducible first | exact bs H | exact H) | (rw [hy687]; exact H) | exact H
    have Ny687 := am hy687
    clear hy687
    obtain rfl := Option.some.inj H
    go_wp2_with (first | ((with_reducible refine gate_dst (N := 18) rfl ?_); (try (refine gate_guard (by rfl) ?_; dsimp only)); refine Kd.R_lit (Kd.int .i64) _ 3 ?hg (N := 18) ?hd (xs := ([] : List Int)) (inner := []) (ok := fun _ => True) (okp := fun _ => True) ?hr ?hp (fun _ hk => hk) trivial (Below.refl _ _) (Nat.le_refl _) (by simp) ?_; (case hd => rfl); (case hg => rfl); (case hr => first | (go_simp; done) | (go_simp; rfl)); (case hp => exact (Reps.none _ _)); intro v688 w8 ho9 hb hg_ hnew_; clear hg_ hnew_; (first | rw [← Ny687.out] at ho9 | (simp only [Int.reduceToNat] at ho9; rw [← Ny687.out] at ho9)); have HO689 := am (Kd.R_lower ho9 (below_size bw)); replace HB := am (below_step bw hb); clear hb ho9))
    go_ret
    exact ⟨_, re, ro HO689.out, bw⟩
   obtain ⟨ji10, hji10⟩ : ∃ j_ : Int, (wrap64 ((wrap64 ((l0.length : Int) + (l1.length : Int))) - 1)) = j_ := ⟨_, rfl⟩
   replace H : (if 0 ≤ (ji10) then (if (ji10 : Int).toNat ≤ 35184372088832 then (spec_MultiplyLists.l0 kj2 l0 l1 (List.replicate (ji10 : Int).toNat 0) 0) else (none)) else (none)) = some r := by first | (rw [hji10] at H; exact H) | (simp only [hji10] at H ⊢; exact H)
   have hji10w : (IntKind.i64.wrap ((wrap64 ((l0.length : Int) + (l1.length : Int))) - 1)) = ji10 := (i64_w _).trans hji10
   replace H := gp H; obtain ⟨c11, H⟩ := H
   have c11b0 := eq_true c11
   have c11b1 : decide (0 ≤ (ji10)) = true := decide_eq_true c11
   clear c11
   replace H := gp H; obtain ⟨c12, H⟩ := H
   have c12b0 := eq_true c12
   have c12b1 : decide ((ji10 : Int).toNat ≤ 35184372088832) = true := decide_eq_true c12
   clear c12
   obtain ⟨y690, hy690⟩ : ∃ y_ : List Int, y_ = (List.replicate (ji10 : Int).toNat 0) := ⟨_, rfl⟩
   replace H : (spec_MultiplyLists.l0 kj2 l0 l1 y690 0) = some r := by first | (rw [hy690]; with_reducible first | exact H | exact bs H) | (with_reducible first | exact bs H | exact H) | (rw [hy690]; exact H) | exact H
   have Ny690 := am hy690
   clear hy690
   have H' := am H
   clear H
   go_wp2_with (first | ((with_reducible refine gate_dst (N := 25) rfl ?_); (try (refine gate_guard (by rfl) ?_; dsimp only)); refine Kd.R_make (Kd.int .i64) _ 3 rfl (N := 25) rfl 24 _ _ rfl ji10 rfl rfl Try.underlying24 (.int .i64 0) 8 info3 rfl (by decide) (by omega) 0 (ok := fun _ => True) (okp := fun _ => True) rfl (fun _ hk => hk) trivial (of_decide_eq_true (by first | (with_reducible assumption) | assumption)) (Nat.le_trans (Nat.mul_le_mul_right _ (of_decide_eq_true (by first | (with_reducible assumption) | assumption) : ji10.toNat ≤ 35184372088832)) (by omega)) (Below.refl _ _) (Nat.le_refl _) ?_; intro v691 w13 ho14 hb hg_ hnew_; clear hg_ hnew_; (first | rw [← Ny690.out] at ho14 | (simp only [Int.reduceToNat] at ho14; rw [← Ny690.out] at ho14)); have HO692 := am (Kd.R_lower ho14 (below_size bw)); replace HB := am (below_step bw hb); clear hb ho14))
   go_loopg [6] kj2 (fun kq v6 w' => ∃ (x5_2 : List Int) (x6_2 : Int), v6 = .int .i64 x6_2 ∧ Aside0 (spec_MultiplyLists.l0 kq l0 l1 x5_2 x6_2 = some r) ∧ Aside0 (kq ≤ kj2) ∧ Aside0 (Kd.R (Kd.int .i64) 3 w' w.heap.size (fun _ => True) v691 x5_2) ∧ Aside0 (Below w.heap.size w w'))
   case atStart => exact ⟨(y690), (0), rr, H', ⟨Nat.le_refl _⟩, ⟨ro HO692.out⟩, ⟨bw⟩⟩
   case round =>
    clear H'
    try clear c1; try clear c11; try clear c11b0; try clear c11b1; try clear c12; try clear c12b0; try clear c12b1
    obtain ⟨x5_2, x6_2, rfl, HA, HK2, HO_5, HB⟩ := hrel
    cases gk with
    | zero => exact absurd HA.out (by simp [spec_MultiplyLists.l0])
    | succ k2 =>
     have H := HA.out
     clear HA
     simp only [spec_MultiplyLists.l0] at H
     replace H := gi H; obtain ⟨c15b0, H⟩ | ⟨c15b0, H⟩ := H
     ·have H' := am H
      clear H
      go_wp2
      go_loopg [7] k2 (fun kq v7 w' => ∃ (x5_3 : List Int) (x7_3 : Int), v7 = .int .i64 x7_3 ∧ Aside0 (spec_MultiplyLists.l1 kq l0 l1 x5_3 x6_2 x7_3 = some r) ∧ Aside0 (kq ≤ k2) ∧ Aside0 (Kd.R (Kd.int .i64) 3 w' w.heap.size (fun _ => True) v691 x5_3) ∧ Aside0 (Below w.heap.size w w'))
      case atStart => exact ⟨(x5_2), (0), rr, H', ⟨Nat.le_refl _⟩, ⟨ro HO_5.out⟩, ⟨bw⟩⟩
      case round =>
       clear H'
       try clear c1; try clear c11; try clear c11b0; try clear c11b1; try clear c12; try clear c12b0; try clear c12b1; try clear c15b0
       obtain ⟨x5_3, x7_3, rfl, HA, HK3, HO_5, HB⟩ := hrel
       cases gk with
       | zero => exact absurd HA.out (by simp [spec_MultiplyLists.l1])
       | succ k3 =>
        have H := HA.out
        clear HA
        simp only [spec_MultiplyLists.l1] at H
        replace H := gi H; obtain ⟨c16b0, H⟩ | ⟨c16b0, H⟩ := H
        ·obtain ⟨ji17, hji17⟩ : ∃ j_ : Int, (wrap64 (x6_2 + x7_3)) = j_ := ⟨_, rfl⟩
         replace H : (if 0 ≤ (ji17) then (if (ji17) < (x5_3.length : Int) then (if 0 ≤ x6_2 then (if x6_2 < (l0.length : Int) then (if 0 ≤ x7_3 then (spec_MultiplyLists.l1 k3 l0 l1 (x5_3.set ((ji17) : Int).toNat (wrap64 ((rd x5_3 (ji17)) + (wrap64 ((rd l0 x6_2) * (rd l1 x7_3)))))) x6_2 (wrap64 (x7_3 + 1))) else (none)) else (none)) else (none)) else (none)) else (none)) = some r := by first | (rw [hji17] at H; exact H) | (simp only [hji17] at H ⊢; exact H)
         have hji17w : (IntKind.i64.wrap (x6_2 + x7_3)) = ji17 := (i64_w _).trans hji17
         replace H := gd H; obtain ⟨c18b0, H⟩ := H
         replace H := gd H; obtain ⟨c19b0, H⟩ := H
         replace H := gd H; obtain ⟨c20b0, H⟩ := H
         replace H := gd H; obtain ⟨c21b0, H⟩ := H
         replace H := gd H; obtain ⟨c22b0, H⟩ := H
         obtain ⟨y696, hy696⟩ : ∃ y_ : List Int, y_ = (x5_3.set ((ji17) : Int).toNat (wrap64 ((rd x5_3 (ji17)) + (wrap64 ((rd l0 x6_2) * (rd l1 x7_3)))))) := ⟨_, rfl⟩
         replace H : (spec_MultiplyLists.l1 k3 l0 l1 y696 x6_2 (wrap64 (x7_3 + 1))) = some r := by first | (rw [hy696]; with_reducible first | exact H | exact bs H) | (with_reducible first | exact bs H | exact H) | (rw [hy696]; exact H) | exact H
         have Ny696 := am hy696
         clear hy696
         have H' := am H
         clear H
         try go_wp2
         replace HO_5 := am (Kd.R_drew HO_5.out)
         replace HB := am (below_drew1 HB.out)
         obtain ⟨Ao25, co25, eo25⟩ := Kd.R_slice HO_5.out
         (first | subst eo25 | (injection eo25 with f1_ f2_ f3_; have f4_ := f1_.symm; have f5_ := f3_.symm; clear f1_ f2_ f3_; subst f4_; subst f5_))
         obtain ⟨⟨ad693, e693, hx693_0⟩, p693, q693⟩ := pq (Kd.at_int (Kd.R_reads' HO_5.out).2.2 (ji17))
         cases e693
         obtain ⟨⟨ad694, e694, hx694_0⟩, p694, q694⟩ := pq (Kd.at_int HR0.out x6_2)
         have hw694_0 := hx694_0
         cases e694
         replace hx694_0 := hw HB hx694_0
         obtain ⟨⟨ad695, e695, hx695_0⟩, p695, q695⟩ := pq (Kd.at_int HR1.out x7_3)
         have hw695_0 := hx695_0
         cases e695
         replace hx695_0 := hw HB hx695_0
         have p23 : 0 ≤ ((ji17) : Int) := of_decide_eq_true (by first | (with_reducible assumption) | assumption)
         have q23 : ((ji17) : Int) < ((x5_3.length : Int) : Int) := of_decide_eq_true (by first | (with_reducible assumption) | assumption)
         obtain ⟨go23, co23, eo23, gb23, gl23, cl23, HG23⟩ := Kd.R_form HO_5.out (by omega)
         (first | cases eo23 | (injection eo23 with ea_ en_ ec_; (first | subst ea_ | (injection ea_ with ea_; subst ea_)); subst ec_; clear en_))
         have GB23 := am gb23
         have GG23 := am HG23
         clear gb23 gl23 HG23
         (first | simp only [add_plain] at hx693_0 | skip)
         obtain ⟨hx23_0, hf23_0⟩ := Kd.R_celln 0 HO_5.out ((ji17) : Int) p23 q23
         replace p23 := eq_true p23
         replace q23 := eq_true q23
         have HP26 := Kd.R_putn HO_5.out ((ji17) : Int) (wrap64 ((rd x5_3 (ji17)) + (wrap64 ((rd l0 x6_2) * (rd l1 x7_3)))))
         rw [← Ny696.out] at HP26
         have HQ26 := am HP26
         clear HP26
         refine start_ (n := 22) (S := fun w' => w'.cell? ⟨go23, ((ji17)).toNat, none⟩ = some (.int .i64 (rd x5_3 (ji17))) ∧ w'.cell? (ad694.add (x6_2).toNat) = some (.int .i64 (rd l0 x6_2)) ∧ w'.cell? (ad695.add (x7_3).toNat) = some (.int .i64 (rd l1 x7_3))) (ds := [21]) (yz 22 0) (by kernel_rfl) rfl rfl ⟨hx693_0, ((HB.out.cell (World.block_lt_of_cell? w _ hw694_0)).trans hw694_0), ((HB.out.cell (World.block_lt_of_cell? w _ hw695_0)).trans hw695_0)⟩ (fun hHeld => ?_); refine with_tabW spec_MultiplyLists.tab10 spec_MultiplyLists.bits10 (fun HT_ HW_ => ?_)
         generalize wr.drew = w24 at HO_5 HB GG23 HQ26 hf23_0 hx23_0 hx693_0 hx694_0 hx695_0 hHeld ⊢
         refine pa 0 (some 38) (yz 22 1) HT_ ?_
         refine pa 1 (some 39) (yz 22 3) HT_ ?_
         refine pa 2 (some 40) (yz 22 7) HT_ ?_
         refine pa 3 (some 41) (yz 22 15) HT_ ?_
         refine pa 4 (some 42) (yz 22 31) HT_ ?_
         refine pa 5 (some 43) (yz 22 63) HT_ ?_
         refine pa 6 (some 44) (yz 22 127) HT_ ?_
         refine pa 7 (some 45) (yz 22 255) HT_ ?_
         refine pa 8 (some 46) (yz 22 511) HT_ ?_
         refine pa 10 (some 48) (yz 22 1535) HT_ ?_
         refine pa 11 (some 49) (yz 22 3583) HT_ ?_
         refine pa 12 (some 50) (yz 22 7679) HT_ ?_
         refine pa 14 (some 52) (yz 22 24063) HT_ ?_
         refine pa 15 (some 53) (yz 22 56831) HT_ ?_
         refine pa 16 (some 54) (yz 22 122367) HT_ ?_
         refine tk 9 (some 47) (yz 22 122879) HT_ HW_ hHeld ?_
         refine tk 13 (some 51) (yz 22 131071) HT_ HW_ hHeld ?_
         refine tk 17 (some 55) (yz 22 262143) HT_ HW_ hHeld ?_
         refine pa 18 (some 56) (yz 22 524287) HT_ ?_
         refine pa 19 (some 57) (yz 22 1048575) HT_ ?_
         refine pa 20 (some 58) (yz 22 2097151) HT_ ?_
         refine last_ (i := 21) (N := none) (yz 22 4194303) rfl rfl (one_of HT_.out (by kernel_rfl)) (by decide) (fun K hK => ?_)
         refine skip_ (w1 := ?_) (by rfl) rfl ?_ ?_
         rotate_left
         ·go_simp
          rfl
         refine hK.out _ _ ?_
         clear hK K
         refine done_ (done_of HT_.out (by kernel_rfl)) ?_
         try go_wp2
         go_roundg k3
         case measure => have := HJ2.out; have := HK2.out; have := HK3.out; omega
         case rel => exact ⟨(y696), (wrap64 (x7_3 + 1)), rr, H', ⟨by have := HJ2.out; have := HK2.out; have := HK3.out; omega⟩, ⟨ro HQ26.out⟩, ⟨bw⟩⟩
        have H' := am H
        clear H
        go_wp2
        go_roundg k3
        case measure => have := HJ2.out; have := HK2.out; have := HK3.out; omega
        case rel => exact ⟨(x5_3), (wrap64 (x6_2 + 1)), rr, H', ⟨by have := HJ2.out; have := HK2.out; have := HK3.out; omega⟩, ⟨ro HO_5.out⟩, ⟨bw⟩⟩
     obtain rfl := Option.some.inj H
     go_wp2
     go_ret
     exact ⟨_, by first | rfl | (simp [errW_none, errW_some] <;> rfl) | (simp only [← hji10]; first | rfl | (simp [errW_none, errW_some] <;> rfl)) | (simp [*, errW_none, errW_some] <;> rfl), ro HO_5.out, bw⟩


/-! ### impl_reach: function 82 -/
def impl_reach.p (is : List Bool) (d : Int) : Option Bool := if d ≥ 200 then some true else if d ≥ 0 then (if d < (is.length : Int) then some (rdOf false is d) else none) else some false
def impl_reach.f (k : Nat) (l0_0 : List Int) : Option (Int → Option Bool) := (impl_IsSemigroup.f k l0_0).bind fun t => if t = true then (impl_table.f k l0_0 200).bind fun is => some (impl_reach.p is) else some (fun _ => some false)
set_option maxHeartbeats 8000000 in
theorem impl_reach.c1 (w : World) : FnR1 Try.prog w (.func (.func 124) #[] #[]) (fun _ => some false) :=
 ⟨124, #[], rfl, (fun args w => enters_ Try.func124 (by kernel_rfl) rfl args w), fun W _ d b h => by
  obtain rfl := Option.some.inj h
  show Calls Try.prog 124 #[.int .i64 d] W _
  go_enter Try.func124, Try.ntmps124
  go_wp2
  go_ret
  exact ⟨rfl, dw⟩⟩
set_option maxHeartbeats 8000000 in
theorem impl_reach.c2 (w : World) (g : Nat) (A : Option Addr) (c : Nat) (is : List Bool) (hbox : w.heap[g]? = some (.cells #[.slice A is.length c] 74 (0, 0))) (hC : Kd.C Kd.bool w A is.length is) :
  FnR1 Try.prog w (.func (.func 125) #[] #[.pointer (some ⟨g, 0, none⟩)]) (impl_reach.p is) :=
 ⟨125, _, rfl, (fun args w => enters_ Try.func125 (by kernel_rfl) rfl args w), fun W hb d b h => by
  show Calls Try.prog 125 #[.int .i64 d, .pointer (some ⟨g, 0, none⟩)] W _
  have hbox' := blk_below hbox hb
  have hC' := Kd.C_below hC hb
  have hcz : W.cell? ⟨g, 0, none⟩ = some (.slice A is.length c) := (blk_cell hbox' 0).trans rfl
  clear hbox hC hbox' hb
  unfold impl_reach.p at h
  replace h := gj h; obtain ⟨c1, h⟩ | ⟨c1, h⟩ := h
  ·obtain rfl := Option.some.inj h
   have c1b0 : decide (200 ≤ d) = true := decide_eq_true c1
   clear hC' hcz c1
   go_enter Try.func125, Try.ntmps125
   go_wp2
   go_ret
   exact ⟨re, dw⟩
  ·have c1b0 : decide (200 ≤ d) = false := decide_eq_false c1
   clear c1
   replace h := gj h; obtain ⟨c2, h⟩ | ⟨c2, h⟩ := h
   ·have c2b0 : decide (0 ≤ d) = true := decide_eq_true c2
    replace h := gd h; obtain ⟨c3b0, h⟩ := h
    obtain rfl := Option.some.inj h
    clear c2
    obtain ⟨⟨ad, e0, hx⟩, p1, q1⟩ := pq (Kd.at_bool hC' d)
    cases e0
    clear hC'
    go_enter Try.func125, Try.ntmps125
    go_wp2
    go_ret
    exact ⟨re, dw⟩
   ·have c2b0 : decide (0 ≤ d) = false := decide_eq_false c2
    obtain rfl := Option.some.inj h
    clear hC' hcz c2
    go_enter Try.func125, Try.ntmps125
    go_wp2
    go_ret
    exact ⟨re, dw⟩⟩
set_option maxHeartbeats 8000000 in
set_option maxRecDepth 100000 in
theorem impl_reach.calls (k : Nat) (A0_0 : Option Addr) (c0_0 : Nat) (l0_0 : List Int) (r : Int → Option Bool) (w : World) (hr0_0 : Kd.C (Kd.int .i64) w A0_0 l0_0.length l0_0) (hc0_0 : l0_0.length ≤ c0_0) (h : impl_reach.f k l0_0 = some r) :
  Calls Try.prog 82 #[.agg #[.slice A0_0 l0_0.length c0_0]] w fun e w' => ∃ v0_ : Value, e = .returned v0_ ∧ FnR1 Try.prog w' v0_ r ∧ Below w.heap.size w w' := by
 have hu27 := Try.underlying26
 have hu66 := Try.underlying74
 have HR0_0 := Aside0.mk hr0_0
 have HC0_0 := Aside0.mk hc0_0
 clear hr0_0 hc0_0
 have HB := Aside0.mk (Below.refl w.heap.size w)
 have H : ((impl_IsSemigroup.f k l0_0).bind fun t => if t = true then (impl_table.f k l0_0 200).bind fun is => some (impl_reach.p is) else some (fun _ => some false)) = some r := h
 clear h
 replace H := ga H; obtain ⟨t1, A1, H⟩ := H
 replace H := gb H; obtain ⟨rfl, H⟩ | ⟨rfl, H⟩ := H
 ·replace H := ga H; obtain ⟨t2, A2, H⟩ := H
  obtain rfl := Option.some.inj H
  clear H
  go_enter Try.func82, Try.ntmps82
  go_wp2_with (first | ((with_reducible refine gate_dst (N := 1) rfl ?_); refine bx 1 #[.slice A0_0 l0_0.length c0_0] 26 ?_; intro gb1 hg w1 hbox hb; have BK1 := Aside0.mk hbox; replace HB := Aside0.mk (below_step bw hb); clear hb hbox hg; have hcz1 := bc BK1 0 (.slice A0_0 l0_0.length c0_0); have hfz1 := blk_frozen BK1.out 0) | ((with_reducible refine gate_callee (f := 65) rfl ?_); refine gl (some 5) Try.func65 #[.agg #[.slice A0_0 l0_0.length c0_0]] ?_; (with_reducible refine (impl_IsSemigroup.calls k _ _ l0_0 true _ ?side1 ?side2 A1.out).mono ?_); (case side1 => exact co (Kd.C_below HR0_0.out HB.out)); (case side2 => exact HC0_0.out); rintro e w2 ⟨rfl, hb⟩; refine ⟨_, rfl, ?_⟩; clear hcz1 hfz1; replace BK1 := Aside0.mk (blk_below (g := gb1) (o := .cells #[.slice A0_0 l0_0.length c0_0] 26 (0, 0)) (bo BK1.out) hb); replace HB := Aside0.mk (below_step bw hb); clear hb; have hcz1 := bc BK1 0 (.slice A0_0 l0_0.length c0_0); have hfz1 := blk_frozen BK1.out 0) | ((with_reducible refine gate_callee (f := 66) rfl ?_); refine gl (some 8) Try.func66 #[.agg #[.slice A0_0 l0_0.length c0_0], .int .i64 200] ?_; (with_reducible refine (impl_table.calls k _ _ l0_0 200 t2 _ ?side1 ?side2 A2.out).mono ?_); (case side1 => exact co (Kd.C_below HR0_0.out HB.out)); (case side2 => exact HC0_0.out); rintro e w3 ⟨v2, rfl, ho0, hb⟩; refine ⟨_, rfl, ?_⟩; clear hcz1 hfz1 BK1; have HO2 := Aside0.mk (Kd.R_lower ho0 (below_size bw)); replace HB := Aside0.mk (below_step bw hb); clear hb ho0; obtain ⟨Ao2, co2, eo2⟩ := Kd.R_slice HO2.out; subst eo2) | ((with_reducible refine gate_dst (N := 3) rfl ?_); refine bx 3 #[.slice none 0 0] 74 ?_; intro gb3 hg w4 hbox hb; have GE3 := Aside0.mk (gs hg : w.heap.size ≤ gb3); replace HO2 := Aside0.mk (Kd.R_below (ro HO2.out) hb); have BK3 := Aside0.mk hbox; replace HB := Aside0.mk (below_step bw hb); clear hb hbox hg; have hcz3 := bc BK3 0 (.slice none 0 0); have hfz3 := blk_frozen BK3.out 0))
  go_ret
  exact ⟨_, rfl, impl_reach.c2 _ gb3 Ao2 co2 t2 (by (with_reducible repeat (first | refine blk_drewN ?_ _ | refine blk_drew ?_ | refine blk_alloc ?_ _)); exact blk_put (cs := #[.slice none 0 0]) (bo BK3.out) 0 _ rfl) (co (Kd.R_reads' (Kd.R_far (p := ⟨gb3, 0, none⟩) (Kd.R_types HO2.out BK3.out (by decide)) (fun _ hk => hk.2) (.slice Ao2 t2.length co2))).2.2), bw⟩
 ·obtain rfl := Option.some.inj H
  clear H
  go_enter Try.func82, Try.ntmps82
  go_wp2_with (first | ((with_reducible refine gate_dst (N := 1) rfl ?_); refine bx 1 #[.slice A0_0 l0_0.length c0_0] 26 ?_; intro gb1 hg w1 hbox hb; have BK1 := Aside0.mk hbox; replace HB := Aside0.mk (below_step bw hb); clear hb hbox hg; have hcz1 := bc BK1 0 (.slice A0_0 l0_0.length c0_0); have hfz1 := blk_frozen BK1.out 0) | ((with_reducible refine gate_callee (f := 65) rfl ?_); refine gl (some 5) Try.func65 #[.agg #[.slice A0_0 l0_0.length c0_0]] ?_; (with_reducible refine (impl_IsSemigroup.calls k _ _ l0_0 false _ ?side1 ?side2 A1.out).mono ?_); (case side1 => exact co (Kd.C_below HR0_0.out HB.out)); (case side2 => exact HC0_0.out); rintro e w2 ⟨rfl, hb⟩; refine ⟨_, rfl, ?_⟩; clear hcz1 hfz1 BK1; replace HB := Aside0.mk (below_step bw hb); clear hb))
  go_ret
  exact ⟨_, rfl, impl_reach.c1 _, bw⟩


/-! ### impl_EulerAt: function 23 -/
mutual
def impl_EulerAt.j0 : Nat → Int → Bool → List Int → Option (Int)
 | 0, _, _, _ => none
 | k + 1, x1, x19, x698000 => if x19 = true then (some 0) else ((impl_reach.f k x698000).bind fun t700 => (impl_EulerAt.l0 k x1 t700 0 (shl .i64 1 (x698000.length : Int)) 0 x698000))
def impl_EulerAt.l0 : Nat → Int → (Int → Option Bool) → Int → Int → Int → List Int → Option (Int)
 | 0, _, _, _, _, _, _ => none
 | k + 1, x1, x5, x6, x25, x26, x698000 => if x26 < x25 then (impl_EulerAt.l1 k x1 x5 x6 x26 x1 1 x25 x26 x698000 (x698000.length : Int) 0 x698000) else (some x6)
def impl_EulerAt.l1 : Nat → Int → (Int → Option Bool) → Int → Int → Int → Int → Int → Int → List Int → Int → Int → List Int → Option (Int)
 | 0, _, _, _, _, _, _, _, _, _, _, _, _ => none
 | k + 1, x1, x5, x6, x7, x8, x9, x25, x26, x31, x32, x33, x698000 => if x33 < x32 then (if 0 ≤ x33 then (if x33 < (x31.length : Int) then (if (Go.bits .and .i64 (shr .i64 x7 x33) 1) = 1 then (impl_EulerAt.l1 k x1 x5 x6 x7 (wrap64 (x8 - (rd x31 x33))) (wrap64 (-x9)) x25 x26 x31 x32 (wrap64 (x33 + 1)) x698000) else (impl_EulerAt.l1 k x1 x5 x6 x7 x8 x9 x25 x26 x31 x32 (wrap64 (x33 + 1)) x698000)) else (none)) else (none)) else ((apF1.f x5 x8).bind fun t702 => (if t702 = true then (impl_EulerAt.l0 k x1 x5 (wrap64 (x6 + x9)) x25 (wrap64 (x26 + 1)) x698000) else (impl_EulerAt.l0 k x1 x5 x6 x25 (wrap64 (x26 + 1)) x698000)))
end
def impl_EulerAt.f (k : Nat) (l0_0 : List Int) (a1 : Int) : Option (Int) := (impl_IsSemigroup.f k l0_0).bind fun t698 => (if t698 = true then ((impl_within.f a1 0 1000).bind fun t699 => (impl_EulerAt.j0 k a1 (!t699) l0_0)) else (impl_EulerAt.j0 k a1 true l0_0))
set_option maxHeartbeats 8000000 in
set_option maxRecDepth 100000 in
theorem impl_EulerAt.calls (k : Nat) (A0_0 : Option Addr) (c0_0 : Nat) (l0_0 : List Int) (a1 : Int) (r : Int) (w : World) (hr0_0 : Kd.C (Kd.int .i64) w A0_0 l0_0.length l0_0) (hc0_0 : l0_0.length ≤ c0_0) (h : impl_EulerAt.f k l0_0 a1 = some r) :
  Calls Try.prog 23 #[.agg #[.slice A0_0 l0_0.length c0_0], .int .i64 a1] w fun e w' => e = .returned (.int .i64 r) ∧ Below w.heap.size w w' := by
 have hu26 := Try.underlying26
 have HR0_0 := am hr0_0
 have HC0_0 := am hc0_0
 clear hr0_0 hc0_0
 have HB := am (Below.refl w.heap.size w)
 have H : ((impl_IsSemigroup.f k l0_0).bind fun t698 => (if t698 = true then ((impl_within.f a1 0 1000).bind fun t699 => (impl_EulerAt.j0 k a1 (!t699) l0_0)) else (impl_EulerAt.j0 k a1 true l0_0))) = some r := h
 clear h
 have HC3 := am H
 clear H
 go_enter Try.func23, Try.ntmps23
 go_upto_region 1 with (first | ((with_reducible refine gate_dst (N := 2) rfl ?_); refine bx 2 #[.slice A0_0 l0_0.length c0_0] 26 ?_; intro gb697 hg w4 hbox hb; have BK697 := am (hbox); have GW697 := am (gs hg : w.heap.size ≤ gb697); have GE697 := GW697; replace HB := am (below_step bw hb); clear hb hbox hg))
 (try simp only [Act.put, List.setIfInBounds_toArray, List.set_cons_zero, List.set_cons_succ])
 go_cut [19] (fun v19 wc => ∃ (kq : Nat) (x19_2 : Bool), v19 = .bool x19_2 ∧ Aside0 (impl_EulerAt.j0 kq a1 x19_2 l0_0 = some r) ∧ Aside0 (kq ≤ k) ∧ Aside0 (wc.heap[gb697]? = some (.cells #[(.slice A0_0 l0_0.length c0_0)] 26 (0, 0))) ∧ Aside0 (Below w.heap.size w wc))
 case first =>
  have H := HC3.out
  clear HC3
  replace H := ga H; obtain ⟨t698, A5, H⟩ := H
  replace H := gb H; obtain ⟨rfl, H⟩ | ⟨rfl, H⟩ := H
  ·replace H := ga H; obtain ⟨t699, A7, H⟩ := H
   have H' := am H
   clear H
   have hcz8_0 := bc BK697 0 (.slice A0_0 l0_0.length c0_0)
   have hfz8_0 := blk_frozen BK697.out 0
   go_wp2_with (first | ((with_reducible refine gate_callee (f := 65) rfl ?_); refine gl (some 13) Try.func65 #[.agg #[.slice A0_0 l0_0.length c0_0]] ?_; (with_reducible refine (impl_IsSemigroup.calls k _ _ l0_0 true _ ?side1 ?side2 A5.out).mono ?_); (case side1 => exact co (Kd.C_below HR0_0.out HB.out)); (case side2 => exact HC0_0.out); rintro e w9 ⟨rfl, hb⟩; refine ⟨_, rfl, ?_⟩; replace BK697 := kb BK697 hb; replace HB := am (below_step bw hb); clear hb) | (go_at_call 80; (with_reducible refine (impl_within.calls a1 0 1000 t699 _ A7.out).mono ?_); rintro e w' ⟨rfl, ⟨nd, rfl⟩⟩))
   go_meet
   case rel => exact ⟨_, (!t699), rr, H', ⟨om⟩, ⟨bo BK697.out⟩, ⟨bw⟩⟩
  have H' := am H
  clear H
  have hcz10_0 := bc BK697 0 (.slice A0_0 l0_0.length c0_0)
  have hfz10_0 := blk_frozen BK697.out 0
  go_wp2_with (first | ((with_reducible refine gate_callee (f := 65) rfl ?_); refine gl (some 13) Try.func65 #[.agg #[.slice A0_0 l0_0.length c0_0]] ?_; (with_reducible refine (impl_IsSemigroup.calls k _ _ l0_0 false _ ?side1 ?side2 A5.out).mono ?_); (case side1 => exact co (Kd.C_below HR0_0.out HB.out)); (case side2 => exact HC0_0.out); rintro e w11 ⟨rfl, hb⟩; refine ⟨_, rfl, ?_⟩; replace BK697 := kb BK697 hb; replace HB := am (below_step bw hb); clear hb))
  go_meet
  case rel => exact ⟨_, (true), rr, H', ⟨om⟩, ⟨bo BK697.out⟩, ⟨bw⟩⟩
 case rest =>
  clear HC3
  try clear hcz10_0; try clear hcz8_0; try clear hfz10_0; try clear hfz8_0
  obtain ⟨kq, x19_2, rfl, HA, HJ2, BK697, HB⟩ := hcut
  cases kq with
  | zero => exact absurd HA.out (by simp [impl_EulerAt.j0])
  | succ kj2 =>
   have H := HA.out
   clear HA
   simp only [impl_EulerAt.j0] at H
   replace H := gb H; obtain ⟨rfl, H⟩ | ⟨rfl, H⟩ := H
   ·obtain rfl := Option.some.inj H
    go_wp2
    go_ret
    exact ⟨re, bw⟩
   replace H := ga H; obtain ⟨t700, A13, H⟩ := H
   obtain ⟨ji14, hji14⟩ : ∃ j_ : Int, (shl .i64 1 (l0_0.length : Int)) = j_ := ⟨_, rfl⟩
   replace H : (impl_EulerAt.l0 kj2 a1 t700 0 ji14 0 l0_0) = some r := by first | (rw [hji14] at H; exact H) | (simp only [hji14] at H ⊢; exact H)
   (try rw [hji14] at A13)
   have hji14_ : (IntKind.i64.wrap (1 * 2 ^ min (l0_0.length : Int).toNat 64)) = ji14 := hji14
   have hji14z : (l0_0.length : Int) ≤ 64 → (IntKind.i64.wrap (1 * 2 ^ (l0_0.length : Int).toNat)) = ji14 := shl_small hji14
   have hji14p : (IntKind.i64.wrap (1 * 2 ^ min l0_0.length 64)) = ji14 := hji14_
   have hji14q : (l0_0.length : Int) ≤ 64 → (IntKind.i64.wrap (1 * 2 ^ l0_0.length)) = ji14 := hji14z
   have hji14r : (IntKind.i64.wrap (2 ^ min l0_0.length 64)) = ji14 := by have h_ := hji14p; rw [Int.one_mul] at h_; exact h_
   have hji14s : (l0_0.length : Int) ≤ 64 → (IntKind.i64.wrap (2 ^ l0_0.length)) = ji14 := fun hle_ => by have h_ := hji14q hle_; rw [Int.one_mul] at h_; exact h_
   have hji14u : (IntKind.i64.wrap (2 ^ min (l0_0.length : Int).toNat 64)) = ji14 := by have h_ := hji14_; rw [Int.one_mul] at h_; exact h_
   have hji14v : (l0_0.length : Int) ≤ 64 → (IntKind.i64.wrap (2 ^ (l0_0.length : Int).toNat)) = ji14 := fun hle_ => by have h_ := hji14z hle_; rw [Int.one_mul] at h_; exact h_
   have hji14y : (wrap64 (1 * 2 ^ min (l0_0.length : Int).toNat 64)) = ji14 := (i64_w _).symm.trans hji14_
   have hji14x : (l0_0.length : Int) ≤ 64 → (wrap64 (1 * 2 ^ (l0_0.length : Int).toNat)) = ji14 := fun h_ => (i64_w _).symm.trans (hji14z h_)
   have H' := am H
   clear H
   have hcz15_0 := bc BK697 0 (.slice A0_0 l0_0.length c0_0)
   have hfz15_0 := blk_frozen BK697.out 0
   go_wp2_with (first | ((with_reducible refine gate_callee (f := 82) rfl ?_); refine gl (some 21) Try.func82 #[.agg #[.slice A0_0 l0_0.length c0_0]] ?_; (with_reducible refine (impl_reach.calls kj2 _ _ l0_0 t700 _ ?side1 ?side2 A13.out).mono ?_); (case side1 => exact co (Kd.C_below HR0_0.out HB.out)); (case side2 => exact HC0_0.out); rintro e w16 ⟨F_t700, rfl, hF_t700, hb⟩; refine ⟨_, rfl, ?_⟩; replace BK697 := kb BK697 hb; have HW_ := am (below_step bw hb : Below w.heap.size w w16); replace HR0_0 := am (Kd.C_below HR0_0.out HW_.out); clear HB hb; have HB := am (Below.refl w16.heap.size w16); obtain ⟨gF_t700, lF_t700, rfl, eF_t700, hF_t700⟩ := hF_t700; obtain ⟨w, rfl⟩ : ∃ x_, x_ = w16 := ⟨_, rfl⟩; have hcz17_0 := bc BK697 0 (.slice A0_0 l0_0.length c0_0); have hfz17_0 := blk_frozen BK697.out 0))
   go_loopg [6, 26] kj2 (fun kq v6 v26 w' => ∃ (x6_2 : Int) (x26_2 : Int), v6 = .int .i64 x6_2 ∧ v26 = .int .i64 x26_2 ∧ Aside0 (impl_EulerAt.l0 kq a1 t700 x6_2 ji14 x26_2 l0_0 = some r) ∧ Aside0 (kq ≤ kj2) ∧ Aside0 (w'.heap[gb697]? = some (.cells #[(.slice A0_0 l0_0.length c0_0)] 26 (0, 0))) ∧ Aside0 (Below w.heap.size w w'))
   case atStart => exact ⟨(0), (0), rr, rr, H', ⟨Nat.le_refl _⟩, ⟨bo BK697.out⟩, ⟨bw⟩⟩
   case round =>
    clear H'
    try clear hcz10_0; try clear hcz15_0; try clear hcz17_0; try clear hcz8_0; try clear hfz10_0; try clear hfz15_0; try clear hfz17_0; try clear hfz8_0
    obtain ⟨x6_2, x26_2, rfl, rfl, HA, HK2, BK697, HB⟩ := hrel
    cases gk with
    | zero => exact absurd HA.out (by simp [impl_EulerAt.l0])
    | succ k2 =>
     have H := HA.out
     clear HA
     simp only [impl_EulerAt.l0] at H
     replace H := gi H; obtain ⟨c18b0, H⟩ | ⟨c18b0, H⟩ := H
     ·have H' := am H
      clear H
      have hcz19_0 := bc BK697 0 (.slice A0_0 l0_0.length c0_0)
      have hfz19_0 := blk_frozen BK697.out 0
      go_wp2
      go_loopg [8, 9, 33] k2 (fun kq v8 v9 v33 w' => ∃ (x8_3 : Int) (x9_3 : Int) (x33_3 : Int), v8 = .int .i64 x8_3 ∧ v9 = .int .i64 x9_3 ∧ v33 = .int .i64 x33_3 ∧ Aside0 (impl_EulerAt.l1 kq a1 t700 x6_2 x26_2 x8_3 x9_3 ji14 x26_2 l0_0 (l0_0.length : Int) x33_3 l0_0 = some r) ∧ Aside0 (kq ≤ k2) ∧ Aside0 (w'.heap[gb697]? = some (.cells #[(.slice A0_0 l0_0.length c0_0)] 26 (0, 0))) ∧ Aside0 (Below w.heap.size w w'))
      case atStart => exact ⟨(a1), (1), (0), rr, rr, rr, H', ⟨Nat.le_refl _⟩, ⟨bo BK697.out⟩, ⟨bw⟩⟩
      case round =>
       clear H'
       try clear c18b0; try clear hcz10_0; try clear hcz15_0; try clear hcz17_0; try clear hcz19_0; try clear hcz8_0; try clear hfz10_0; try clear hfz15_0; try clear hfz17_0; try clear hfz19_0; try clear hfz8_0
       obtain ⟨x8_3, x9_3, x33_3, rfl, rfl, rfl, HA, HK3, BK697, HB⟩ := hrel
       cases gk with
       | zero => exact absurd HA.out (by simp [impl_EulerAt.l1])
       | succ k3 =>
        have H := HA.out
        clear HA
        simp only [impl_EulerAt.l1] at H
        replace H := gi H; obtain ⟨c20b0, H⟩ | ⟨c20b0, H⟩ := H
        ·replace H := gd H; obtain ⟨c21b0, H⟩ := H
         replace H := gd H; obtain ⟨c22b0, H⟩ := H
         have c23b0 := eq_true (of_decide_eq_true (by first | (with_reducible assumption) | assumption) : 0 ≤ x33_3)
         obtain ⟨ji24, hji24⟩ : ∃ j_ : Int, (shr .i64 x26_2 x33_3) = j_ := ⟨_, rfl⟩
         replace H : (if (Go.bits .and .i64 (ji24) 1) = 1 then (impl_EulerAt.l1 k3 a1 t700 x6_2 x26_2 (wrap64 (x8_3 - (rd l0_0 x33_3))) (wrap64 (-x9_3)) ji14 x26_2 l0_0 (l0_0.length : Int) (wrap64 (x33_3 + 1)) l0_0) else (impl_EulerAt.l1 k3 a1 t700 x6_2 x26_2 x8_3 x9_3 ji14 x26_2 l0_0 (l0_0.length : Int) (wrap64 (x33_3 + 1)) l0_0)) = some r := by first | (rw [hji24] at H; exact H) | (simp only [hji24] at H ⊢; exact H)
         have hji24_ : (x26_2 / 2 ^ min x33_3.toNat 64) = ji24 := hji24
         have hji24z : x33_3 ≤ 64 → (x26_2 / 2 ^ x33_3.toNat) = ji24 := shr_small hji24
         by_cases c25 : (Go.bits .and .i64 (ji24) 1) = 1
         ·rw [if_pos c25] at H
          have c25b0 : ((Go.bits .and .i64 (ji24) 1) == 1) = true := beq_iff_eq.mpr c25
          have c25b1 : ((Go.bits .and .i64 (ji24) 1) != 1) = false := bne_eq_false_iff_eq.mpr c25
          clear c25
          have H' := am H
          clear H
          obtain ⟨⟨ad701, e701, hx701_0⟩, p701, q701⟩ := pq (Kd.at_int HR0_0.out x33_3)
          cases e701
          replace hx701_0 := hw HB hx701_0
          go_wp2
          go_roundg k3
          case measure => have := HJ2.out; have := HK2.out; have := HK3.out; omega
          case rel => exact ⟨(wrap64 (x8_3 - (rd l0_0 x33_3))), (wrap64 (-x9_3)), (wrap64 (x33_3 + 1)), rr, rr, rr, H', ⟨by have := HJ2.out; have := HK2.out; have := HK3.out; omega⟩, ⟨bo BK697.out⟩, ⟨bw⟩⟩
         rw [if_neg c25] at H
         have c25b0 : ((Go.bits .and .i64 (ji24) 1) == 1) = false := beq_eq_false_iff_ne.mpr c25
         have c25b1 : ((Go.bits .and .i64 (ji24) 1) != 1) = true := bne_iff_ne.mpr c25
         have H' := am H
         clear H
         obtain ⟨⟨ad701, e701, hx701_0⟩, p701, q701⟩ := pq (Kd.at_int HR0_0.out x33_3)
         cases e701
         replace hx701_0 := hw HB hx701_0
         go_wp2
         go_roundg k3
         case measure => have := HJ2.out; have := HK2.out; have := HK3.out; omega
         case rel => exact ⟨(x8_3), (x9_3), (wrap64 (x33_3 + 1)), rr, rr, rr, H', ⟨by have := HJ2.out; have := HK2.out; have := HK3.out; omega⟩, ⟨bo BK697.out⟩, ⟨bw⟩⟩
        replace H := ga H; obtain ⟨t702, A26, H⟩ := H
        replace H := gb H; obtain ⟨rfl, H⟩ | ⟨rfl, H⟩ := H
        ·have H' := am H
         clear H
         go_wp2_with (first | (go_at_fn gF_t700; (with_reducible refine (hF_t700 _ bw x8_3 true A26.out).mono ?_); rintro e w' ⟨rfl, ⟨nd, rfl⟩⟩))
         go_roundg k3
         case measure => have := HJ2.out; have := HK2.out; have := HK3.out; omega
         case rel => exact ⟨(wrap64 (x6_2 + x9_3)), (wrap64 (x26_2 + 1)), rr, rr, H', ⟨by have := HJ2.out; have := HK2.out; have := HK3.out; omega⟩, ⟨bo BK697.out⟩, ⟨bw⟩⟩
        have H' := am H
        clear H
        go_wp2_with (first | (go_at_fn gF_t700; (with_reducible refine (hF_t700 _ bw x8_3 false A26.out).mono ?_); rintro e w' ⟨rfl, ⟨nd, rfl⟩⟩))
        go_roundg k3
        case measure => have := HJ2.out; have := HK2.out; have := HK3.out; omega
        case rel => exact ⟨(x6_2), (wrap64 (x26_2 + 1)), rr, rr, H', ⟨by have := HJ2.out; have := HK2.out; have := HK3.out; omega⟩, ⟨bo BK697.out⟩, ⟨bw⟩⟩
     obtain rfl := Option.some.inj H
     go_wp2
     go_ret
     replace HB := am (below_step HW_.out HB.out)
     exact ⟨by first | rfl | (simp [errW_none, errW_some] <;> rfl) | (simp only [← hji14]; first | rfl | (simp [errW_none, errW_some] <;> rfl)) | (simp [*, errW_none, errW_some] <;> rfl), bw⟩


/-! ### spec_l15Euler: function 83 -/
def spec_l15Euler.f : Nat → List Int → Int → Int → Option (Int)
 | 0, _, _, _ => none
 | k + 1, l0_0, a1, a2 => if a2 < 0 then (some 0) else (if a1 = (l0_0.length : Int) then ((spec_l15Has.f k l0_0 a2).bind fun t704 => ((spec_l1Bit.f t704).bind fun t705 => (some t705))) else ((spec_l15Euler.f k l0_0 (wrap64 (a1 + 1)) a2).bind fun t706 => (if 0 ≤ a1 then (if a1 < (l0_0.length : Int) then ((spec_l15Euler.f k l0_0 (wrap64 (a1 + 1)) (wrap64 (a2 - (rd l0_0 a1)))).bind fun t708 => (some (wrap64 (t706 - t708)))) else (none)) else (none))))
def spec_l15Euler.T5 : Bool × List (List Nat × List Nat) := (true, [([], []), ([], []), ([1], [1]), ([], []), ([0, 2, 3], [0, 2, 3]), ([], []), ([], []), ([6], [6]), ([], []), ([], []), ([9], [9]), ([], []), ([10, 11], [10, 11]), ([12], [12]), ([8, 13], [8, 13]), ([5, 7, 14, 4], [5, 7, 14]), ([4, 15], [4, 15]), ([16, 15, 0, 1, 2, 3, 4, 5, 6, 7, 8, 9, 10, 11, 12, 13, 14, 15, 16], [16])])
def spec_l15Euler.B5 : List Nat := [0, 0, 2, 0, 15, 0, 0, 64, 0, 0, 512, 0, 3584, 7680, 16128, 32767, 65535, 131071]
theorem spec_l15Euler.tab5 : rtab .any (opsOf Try.f83 5) = spec_l15Euler.T5 := by kernel_rfl
theorem spec_l15Euler.bits5 : waitsOk spec_l15Euler.T5.2 spec_l15Euler.B5 = true := by kernel_rfl
set_option maxHeartbeats 8000000 in
set_option maxRecDepth 100000 in
theorem spec_l15Euler.calls (k : Nat) : ∀ (A0_0 : Option Addr) (c0_0 : Nat) (l0_0 : List Int) (a1 : Int) (a2 : Int) (r : Int) (w : World) (hr0_0 : Kd.C (Kd.int .i64) w A0_0 l0_0.length l0_0) (hc0_0 : l0_0.length ≤ c0_0) (h : spec_l15Euler.f k l0_0 a1 a2 = some r),
  Calls Try.prog 83 #[.agg #[.slice A0_0 l0_0.length c0_0], .int .i64 a1, .int .i64 a2] w fun e w' => e = .returned (.int .i64 r) ∧ Below w.heap.size w w' := by
 induction k using Nat.strongRecOn with
 | _ k ih =>
 intro A0_0 c0_0 l0_0 a1 a2 r w hr0_0 hc0_0 h
 cases k with
 | zero => exact absurd h (by simp [spec_l15Euler.f])
 | succ k =>
 simp only [spec_l15Euler.f] at h
 have hu26 := Try.underlying26
 have HR0_0 := am hr0_0
 have HC0_0 := am hc0_0
 clear hr0_0 hc0_0
 have HB := am (Below.refl w.heap.size w)
 have H : (if a2 < 0 then (some 0) else (if a1 = (l0_0.length : Int) then ((spec_l15Has.f k l0_0 a2).bind fun t704 => ((spec_l1Bit.f t704).bind fun t705 => (some t705))) else ((spec_l15Euler.f k l0_0 (wrap64 (a1 + 1)) a2).bind fun t706 => (if 0 ≤ a1 then (if a1 < (l0_0.length : Int) then ((spec_l15Euler.f k l0_0 (wrap64 (a1 + 1)) (wrap64 (a2 - (rd l0_0 a1)))).bind fun t708 => (some (wrap64 (t706 - t708)))) else (none)) else (none))))) = some r := h
 clear h
 replace H := gi H; obtain ⟨c4b0, H⟩ | ⟨c4b0, H⟩ := H
 ·obtain rfl := Option.some.inj H
  go_enter Try.func83, Try.ntmps83
  go_wp2_with (first | ((with_reducible refine gate_dst (N := 3) rfl ?_); refine bx 3 #[.slice A0_0 l0_0.length c0_0] 26 ?_; intro gb703 hg w5 hbox hb; have BK703 := am (hbox); have GW703 := am (gs hg : w.heap.size ≤ gb703); have GE703 := GW703; replace HB := am (below_step bw hb); clear hb hbox hg))
  go_ret
  exact ⟨re, bw⟩
 by_cases c6 : a1 = (l0_0.length : Int)
 ·rw [if_pos c6] at H
  have c6b0 : (a1 == (l0_0.length : Int)) = true := beq_iff_eq.mpr c6
  have c6b1 : (a1 != (l0_0.length : Int)) = false := bne_eq_false_iff_eq.mpr c6
  clear c6
  replace H := ga H; obtain ⟨t704, A7, H⟩ := H
  replace H := ga H; obtain ⟨t705, A8, H⟩ := H
  obtain rfl := Option.some.inj H
  go_enter Try.func83, Try.ntmps83
  go_wp2_with (first | ((with_reducible refine gate_dst (N := 3) rfl ?_); refine bx 3 #[.slice A0_0 l0_0.length c0_0] 26 ?_; intro gb703 hg w9 hbox hb; have BK703 := am (hbox); have GW703 := am (gs hg : w.heap.size ≤ gb703); have GE703 := GW703; replace HB := am (below_step bw hb); clear hb hbox hg; have hcz10_0 := bc BK703 0 (.slice A0_0 l0_0.length c0_0); have hfz10_0 := blk_frozen BK703.out 0) | ((with_reducible refine gate_callee (f := 79) rfl ?_); refine gl (some 16) Try.func79 #[.agg #[.slice A0_0 l0_0.length c0_0], .int .i64 a2] ?_; (with_reducible refine (spec_l15Has.calls k _ _ l0_0 a2 t704 _ ?side1 ?side2 A7.out).mono ?_); (case side1 => exact co (Kd.C_below HR0_0.out HB.out)); (case side2 => exact HC0_0.out); rintro e w11 ⟨rfl, hb⟩; refine ⟨_, rfl, ?_⟩; replace BK703 := kb BK703 hb; replace HB := am (below_step bw hb); clear hb) | ((with_reducible refine gate_callee (f := 78) rfl ?_); refine gl (some 17) Try.func78 #[.bool t704] ?_; (with_reducible refine (spec_l1Bit.calls t704 t705 _ A8.out).mono ?_); rintro e w' ⟨rfl, ⟨nd, rfl⟩⟩; refine ⟨_, rfl, ?_⟩))
  go_ret
  exact ⟨re, bw⟩
 rw [if_neg c6] at H
 have c6b0 : (a1 == (l0_0.length : Int)) = false := beq_eq_false_iff_ne.mpr c6
 have c6b1 : (a1 != (l0_0.length : Int)) = true := bne_iff_ne.mpr c6
 replace H := ga H; obtain ⟨t706, A12, H⟩ := H
 replace H := gd H; obtain ⟨c13b0, H⟩ := H
 replace H := gd H; obtain ⟨c14b0, H⟩ := H
 replace H := ga H; obtain ⟨t708, A15, H⟩ := H
 obtain rfl := Option.some.inj H
 go_enter Try.func83, Try.ntmps83
 try go_wp2_with (first | ((with_reducible refine gate_dst (N := 3) rfl ?_); refine bx 3 #[.slice A0_0 l0_0.length c0_0] 26 ?_; intro gb703 hg w16 hbox hb; have BK703 := am (hbox); have GW703 := am (gs hg : w.heap.size ≤ gb703); have GE703 := GW703; replace HB := am (below_step bw hb); clear hb hbox hg; have hcz17_0 := bc BK703 0 (.slice A0_0 l0_0.length c0_0); have hfz17_0 := blk_frozen BK703.out 0))
 replace BK703 := bd BK703
 replace HB := am (below_drew1 HB.out)
 obtain ⟨⟨ad707, e707, hx707_0⟩, p707, q707⟩ := pq (Kd.at_int HR0_0.out a1)
 have hw707_0 := hx707_0
 cases e707
 replace hx707_0 := hw HB hx707_0
 refine start_ (n := 18) (S := fun w' => w'.cell? ⟨gb703, 0, none⟩ = some (.slice (some ad707) l0_0.length c0_0) ∧ w'.cell? (ad707.add (a1).toNat) = some (.int .i64 (rd l0_0 a1))) (ds := []) (yz 18 0) (by kernel_rfl) rfl rfl ⟨bc BK703 0 _, ((HB.out.cell (World.block_lt_of_cell? w _ hw707_0)).trans hw707_0)⟩ (fun hHeld => ?_); refine with_tabW spec_l15Euler.tab5 spec_l15Euler.bits5 (fun HT_ HW_ => ?_)
 generalize w16.drew = w18 at BK703 HB hx707_0 hHeld ⊢
 refine pa 1 (some 19) (yz 18 2) HT_ ?_
 refine pa 2 (some 20) (yz 18 6) HT_ ?_
 refine pa 3 (some 21) (yz 18 14) HT_ ?_
 refine pa 6 (some 24) (yz 18 78) HT_ ?_
 refine pa 7 (some 25) (yz 18 206) HT_ ?_
 refine pa 8 (some 26) (yz 18 462) HT_ ?_
 refine pa 9 (some 27) (yz 18 974) HT_ ?_
 refine pa 11 (some 29) (yz 18 3022) HT_ ?_
 refine tk 0 (some 18) (yz 18 3023) HT_ HW_ hHeld ?_
 refine tk 5 (some 23) (yz 18 3055) HT_ HW_ hHeld ?_
 refine tk 10 (some 28) (yz 18 4079) HT_ HW_ hHeld ?_
 refine pa 12 (some 30) (yz 18 8175) HT_ ?_
 refine tk 13 (some 31) (yz 18 16367) HT_ HW_ hHeld ?_
 refine pa 14 (some 32) (yz 18 32751) HT_ ?_
 refine oa 4 (some 22) (yz 18 32767) HT_ (fun K hK => ?_)
 refine gm Try.func83 #[.agg #[.slice (some ad707) l0_0.length c0_0], .int .i64 (wrap64 (a1 + 1)), .int .i64 a2] ?_
 with_reducible refine (ih k (by omega) _ _ l0_0 (wrap64 (a1 + 1)) a2 t706 _ ?side1 ?side2 A12.out).mono ?_
 (case side1 => exact co (Kd.C_below HR0_0.out HB.out))
 (case side2 => exact HC0_0.out)
 rintro e w19 ⟨rfl, hb⟩
 refine ⟨_, rfl, ?_⟩
 replace BK703 := kb BK703 hb
 replace HB := am (below_step bw hb)
 clear hb
 refine hK.out _ _ ⟨bc BK703 0 _, ((HB.out.cell (World.block_lt_of_cell? w _ hw707_0)).trans hw707_0)⟩ (fun hHeld => ?_)
 clear hK K
 refine nm (some 22) ?_
 refine oa 15 (some 33) (yz 18 65535) HT_ (fun K hK => ?_)
 refine gm Try.func83 #[.agg #[.slice (some ad707) l0_0.length c0_0], .int .i64 (wrap64 (a1 + 1)), .int .i64 (wrap64 (a2 - (rd l0_0 a1)))] ?_
 with_reducible refine (ih k (by omega) _ _ l0_0 (wrap64 (a1 + 1)) (wrap64 (a2 - (rd l0_0 a1))) t708 _ ?side1 ?side2 A15.out).mono ?_
 (case side1 => exact co (Kd.C_below HR0_0.out HB.out))
 (case side2 => exact HC0_0.out)
 rintro e w20 ⟨rfl, hb⟩
 refine ⟨_, rfl, ?_⟩
 replace BK703 := kb BK703 hb
 replace HB := am (below_step bw hb)
 clear hb
 refine hK.out _ _ ⟨bc BK703 0 _, ((HB.out.cell (World.block_lt_of_cell? w _ hw707_0)).trans hw707_0)⟩ (fun hHeld => ?_)
 clear hK K
 refine nm (some 33) ?_
 refine pa 16 (some 34) (yz 18 131071) HT_ ?_
 refine pa 17 (some 6) (yz 18 262143) HT_ ?_
 refine done_ (done_of HT_.out (by kernel_rfl)) ?_
 try go_wp2
 go_ret
 exact ⟨re, bw⟩


/-! ### spec_EulerAt: function 24 -/
def spec_EulerAt.f (k : Nat) (l0_0 : List Int) (a1 : Int) : Option (Int) := (spec_IsSemigroup.f k l0_0).bind fun t710 => (if t710 = true then ((spec_l1In.f a1 0 1000).bind fun t711 => (if t711 = true then ((spec_l15Euler.f k l0_0 0 a1).bind fun t712 => (some t712)) else (some 0))) else (some 0))
set_option maxHeartbeats 8000000 in
set_option maxRecDepth 100000 in
theorem spec_EulerAt.calls (k : Nat) (A0_0 : Option Addr) (c0_0 : Nat) (l0_0 : List Int) (a1 : Int) (r : Int) (w : World) (hr0_0 : Kd.C (Kd.int .i64) w A0_0 l0_0.length l0_0) (hc0_0 : l0_0.length ≤ c0_0) (h : spec_EulerAt.f k l0_0 a1 = some r) :
  Calls Try.prog 24 #[.agg #[.slice A0_0 l0_0.length c0_0], .int .i64 a1] w fun e w' => e = .returned (.int .i64 r) ∧ Below w.heap.size w w' := by
 have hu26 := Try.underlying26
 have HR0_0 := am hr0_0
 have HC0_0 := am hc0_0
 clear hr0_0 hc0_0
 have HB := am (Below.refl w.heap.size w)
 have H : ((spec_IsSemigroup.f k l0_0).bind fun t710 => (if t710 = true then ((spec_l1In.f a1 0 1000).bind fun t711 => (if t711 = true then ((spec_l15Euler.f k l0_0 0 a1).bind fun t712 => (some t712)) else (some 0))) else (some 0))) = some r := h
 clear h
 replace H := ga H; obtain ⟨t710, A3, H⟩ := H
 replace H := gb H; obtain ⟨rfl, H⟩ | ⟨rfl, H⟩ := H
 ·replace H := ga H; obtain ⟨t711, A5, H⟩ := H
  replace H := gb H; obtain ⟨rfl, H⟩ | ⟨rfl, H⟩ := H
  ·replace H := ga H; obtain ⟨t712, A7, H⟩ := H
   obtain rfl := Option.some.inj H
   go_enter Try.func24, Try.ntmps24
   go_wp2_with (first | ((with_reducible refine gate_dst (N := 2) rfl ?_); refine bx 2 #[.slice A0_0 l0_0.length c0_0] 26 ?_; intro gb709 hg w8 hbox hb; have BK709 := am (hbox); have GW709 := am (gs hg : w.heap.size ≤ gb709); have GE709 := GW709; replace HB := am (below_step bw hb); clear hb hbox hg; have hcz9_0 := bc BK709 0 (.slice A0_0 l0_0.length c0_0); have hfz9_0 := blk_frozen BK709.out 0) | ((with_reducible refine gate_callee (f := 26) rfl ?_); refine gl (some 6) Try.func26 #[.agg #[.slice A0_0 l0_0.length c0_0]] ?_; (with_reducible refine (spec_IsSemigroup.calls k _ _ l0_0 true _ ?side1 ?side2 A3.out).mono ?_); (case side1 => exact co (Kd.C_below HR0_0.out HB.out)); (case side2 => exact HC0_0.out); rintro e w10 ⟨rfl, hb⟩; refine ⟨_, rfl, ?_⟩; replace BK709 := kb BK709 hb; replace HB := am (below_step bw hb); clear hb) | (go_at_call 81; (with_reducible refine (spec_l1In.calls a1 0 1000 true _ A5.out).mono ?_); rintro e w' ⟨rfl, ⟨nd, rfl⟩⟩; have hcz11_0 := bc BK709 0 (.slice A0_0 l0_0.length c0_0); have hfz11_0 := blk_frozen BK709.out 0) | ((with_reducible refine gate_callee (f := 83) rfl ?_); refine gl (some 15) Try.func83 #[.agg #[.slice A0_0 l0_0.length c0_0], .int .i64 0, .int .i64 a1] ?_; (with_reducible refine (spec_l15Euler.calls k _ _ l0_0 0 a1 t712 _ ?side1 ?side2 A7.out).mono ?_); (case side1 => exact co (Kd.C_below HR0_0.out bw)); (case side2 => exact HC0_0.out); rintro e w12 ⟨rfl, hb⟩; refine ⟨_, rfl, ?_⟩; replace BK709 := kb BK709 hb; replace HB := am (below_step bw hb); clear hb))
   go_ret
   exact ⟨re, bw⟩
  obtain rfl := Option.some.inj H
  go_enter Try.func24, Try.ntmps24
  go_wp2_with (first | ((with_reducible refine gate_dst (N := 2) rfl ?_); refine bx 2 #[.slice A0_0 l0_0.length c0_0] 26 ?_; intro gb709 hg w13 hbox hb; have BK709 := am (hbox); have GW709 := am (gs hg : w.heap.size ≤ gb709); have GE709 := GW709; replace HB := am (below_step bw hb); clear hb hbox hg; have hcz14_0 := bc BK709 0 (.slice A0_0 l0_0.length c0_0); have hfz14_0 := blk_frozen BK709.out 0) | ((with_reducible refine gate_callee (f := 26) rfl ?_); refine gl (some 6) Try.func26 #[.agg #[.slice A0_0 l0_0.length c0_0]] ?_; (with_reducible refine (spec_IsSemigroup.calls k _ _ l0_0 true _ ?side1 ?side2 A3.out).mono ?_); (case side1 => exact co (Kd.C_below HR0_0.out HB.out)); (case side2 => exact HC0_0.out); rintro e w15 ⟨rfl, hb⟩; refine ⟨_, rfl, ?_⟩; replace BK709 := kb BK709 hb; replace HB := am (below_step bw hb); clear hb) | (go_at_call 81; (with_reducible refine (spec_l1In.calls a1 0 1000 false _ A5.out).mono ?_); rintro e w' ⟨rfl, ⟨nd, rfl⟩⟩))
  go_ret
  exact ⟨re, bw⟩
 obtain rfl := Option.some.inj H
 go_enter Try.func24, Try.ntmps24
 go_wp2_with (first | ((with_reducible refine gate_dst (N := 2) rfl ?_); refine bx 2 #[.slice A0_0 l0_0.length c0_0] 26 ?_; intro gb709 hg w16 hbox hb; have BK709 := am (hbox); have GW709 := am (gs hg : w.heap.size ≤ gb709); have GE709 := GW709; replace HB := am (below_step bw hb); clear hb hbox hg; have hcz17_0 := bc BK709 0 (.slice A0_0 l0_0.length c0_0); have hfz17_0 := blk_frozen BK709.out 0) | ((with_reducible refine gate_callee (f := 26) rfl ?_); refine gl (some 6) Try.func26 #[.agg #[.slice A0_0 l0_0.length c0_0]] ?_; (with_reducible refine (spec_IsSemigroup.calls k _ _ l0_0 false _ ?side1 ?side2 A3.out).mono ?_); (case side1 => exact co (Kd.C_below HR0_0.out HB.out)); (case side2 => exact HC0_0.out); rintro e w18 ⟨rfl, hb⟩; refine ⟨_, rfl, ?_⟩; replace BK709 := kb BK709 hb; replace HB := am (below_step bw hb); clear hb))
 go_ret
 exact ⟨re, bw⟩

end Go.Proofs.Ytbbehmbpoilffaa.C
