/- Contracts of functions of the program: impl_within, impl_allWithin, impl_IsAscending, impl_GcdOf, impl_GcdOfList, impl_leasts, impl_usable, impl_Generates, impl_IsSemigroup. -/
import Derived.Test.YtlhcpbpcdicleaaC0
namespace Go.Proofs.Ytlhcpbpcdicleaa.C
open Go.RowKit Go.Proofs.YtlhcpbpcdicleaaW.PrintWords Go.Proofs.YtlhcpbpcdicleaaW.PrintLast Go.Proofs.YtlhcpbpcdicleaaW.PrintMore
attribute [local go_sem] max2_int min2_int max_two min_two max_three min_three max_four min_four
set_option linter.unusedVariables false
set_option linter.unusedSimpArgs false
set_option maxHeartbeats 8000000
set_option maxRecDepth 100000

/-! ### impl_within: function 54 -/
def impl_within.f (a0 : Int) (a1 : Int) (a2 : Int) : Option (Bool) := if a0 ≥ a1 then (some (decide (a0 ≤ a2))) else (some false)
theorem impl_within.calls (a0 : Int) (a1 : Int) (a2 : Int) (r : Bool) (w : World) (h : impl_within.f a0 a1 a2 = some r) :
  Calls Try.prog 54 #[.int .i64 a0, .int .i64 a1, .int .i64 a2] w fun e w' => e = .returned (.bool r) ∧ Drawn0 w w' := by
 unfold impl_within.f at h
 have H := h
 clear h
 replace H := gj H; obtain ⟨c4, H⟩ | ⟨c4, H⟩ := H
 ·have c4b0 : decide (a1 ≤ a0) = true := decide_eq_true c4
  clear c4
  obtain rfl := Option.some.inj H
  go_enter Try.func54, Try.ntmps54
  go_wp2
  go_ret
  exact ⟨rr, dw⟩
 have c4b0 : decide (a1 ≤ a0) = false := decide_eq_false c4
 clear c4
 obtain rfl := Option.some.inj H
 go_enter Try.func54, Try.ntmps54
 go_wp2
 go_ret
 exact ⟨rr, dw⟩


/-! ### impl_allWithin: function 55 -/
def impl_allWithin.l0 : Nat → Int → Int → List Int → Int → Int → Option (Bool)
 | 0, _, _, _, _, _ => none
 | k + 1, x1, x2, x9, x10, x11 => if x11 < x10 then (if 0 ≤ x11 then (if x11 < (x9.length : Int) then ((impl_within.f (rd x9 x11) x1 x2).bind fun t102 => (if t102 = true then (impl_allWithin.l0 k x1 x2 x9 x10 (wrap64 (x11 + 1))) else (some false))) else (none)) else (none)) else (some true)
def impl_allWithin.f (k : Nat) (l0 : List Int) (a1 : Int) (a2 : Int) : Option (Bool) := impl_allWithin.l0 k a1 a2 l0 (l0.length : Int) 0
theorem impl_allWithin.calls (k : Nat) (A0 : Option Addr) (c0 : Nat) (l0 : List Int) (a1 : Int) (a2 : Int) (r : Bool) (w : World) (hr0 : Kd.C (Kd.int .i64) w A0 l0.length l0) (hc0 : l0.length ≤ c0) (h : impl_allWithin.f k l0 a1 a2 = some r) :
  Calls Try.prog 55 #[.slice A0 l0.length c0, .int .i64 a1, .int .i64 a2] w fun e w' => e = .returned (.bool r) ∧ Drawn0 w w' := by
 have HR0 := am hr0
 have HC0 := am hc0
 clear hr0 hc0
 unfold impl_allWithin.f at h
 have H := h
 clear h
 have H' := am H
 clear H
 go_enter Try.func55, Try.ntmps55
 go_wp2
 go_loopg [11] k (fun kq v11 w' => ∃ (x11_1 : Int), v11 = .int .i64 x11_1 ∧ Aside0 (impl_allWithin.l0 kq a1 a2 l0 (l0.length : Int) x11_1 = some r) ∧ Aside0 (kq ≤ k) ∧ Drawn0 w w')
 case atStart => exact ⟨(0), rr, H', ⟨Nat.le_refl _⟩, dw⟩
 case round =>
  clear H'
  obtain ⟨x11_1, rfl, HA, HK1, ⟨m1, rfl⟩⟩ := hrel
  cases gk with
  | zero => exact absurd HA.out (by simp [impl_allWithin.l0])
  | succ k1 =>
   have H := HA.out
   clear HA
   simp only [impl_allWithin.l0] at H
   replace H := gi H; obtain ⟨c4b0, H⟩ | ⟨c4b0, H⟩ := H
   ·replace H := gd H; obtain ⟨c5b0, H⟩ := H
    replace H := gd H; obtain ⟨c6b0, H⟩ := H
    replace H := ga H; obtain ⟨t102, A7, H⟩ := H
    replace H := gb H; obtain ⟨rfl, H⟩ | ⟨rfl, H⟩ := H
    ·have H' := am H
     clear H
     obtain ⟨⟨ad101, e101, hx101_0⟩, p101, q101⟩ := pq (Kd.at_int HR0.out x11_1)
     cases e101
     go_wp2_with (first | ((with_reducible refine gate_callee (f := 54) rfl ?_); refine gl (some 18) Try.func54 #[.int .i64 (rd l0 x11_1), .int .i64 a1, .int .i64 a2] ?_; (with_reducible refine (impl_within.calls (rd l0 x11_1) a1 a2 true _ A7.out).mono ?_); rintro e w' ⟨rfl, ⟨nd, rfl⟩⟩; refine ⟨_, rfl, ?_⟩))
     go_roundg k1
     case measure => have := HK1.out; omega
     case rel => exact ⟨(wrap64 (x11_1 + 1)), rr, H', ⟨by have := HK1.out; omega⟩, dw⟩
    obtain rfl := Option.some.inj H
    obtain ⟨⟨ad101, e101, hx101_0⟩, p101, q101⟩ := pq (Kd.at_int HR0.out x11_1)
    cases e101
    go_wp2_with (first | ((with_reducible refine gate_callee (f := 54) rfl ?_); refine gl (some 18) Try.func54 #[.int .i64 (rd l0 x11_1), .int .i64 a1, .int .i64 a2] ?_; (with_reducible refine (impl_within.calls (rd l0 x11_1) a1 a2 false _ A7.out).mono ?_); rintro e w' ⟨rfl, ⟨nd, rfl⟩⟩; refine ⟨_, rfl, ?_⟩))
    go_ret
    exact ⟨rr, dw⟩
   obtain rfl := Option.some.inj H
   go_wp2
   go_ret
   exact ⟨rr, dw⟩


/-! ### impl_IsAscending: function 56 -/
def impl_IsAscending.l0 : Nat → List Int → Int → Option (Bool)
 | 0, _, _ => none
 | k + 1, x0, x3 => if x3 < (x0.length : Int) then (if 0 ≤ x3 then (if 0 ≤ (wrap64 (x3 - 1)) then (if (wrap64 (x3 - 1)) < (x0.length : Int) then (if (rd x0 x3) ≤ (rd x0 (wrap64 (x3 - 1))) then (some false) else (impl_IsAscending.l0 k x0 (wrap64 (x3 + 1)))) else (none)) else (none)) else (none)) else (some true)
def impl_IsAscending.f (k : Nat) (l0 : List Int) : Option (Bool) := impl_IsAscending.l0 k l0 1
theorem impl_IsAscending.calls (k : Nat) (A0 : Option Addr) (c0 : Nat) (l0 : List Int) (r : Bool) (w : World) (hr0 : Kd.C (Kd.int .i64) w A0 l0.length l0) (hc0 : l0.length ≤ c0) (h : impl_IsAscending.f k l0 = some r) :
  Calls Try.prog 56 #[.slice A0 l0.length c0] w fun e w' => e = .returned (.bool r) ∧ Drawn0 w w' := by
 have HR0 := am hr0
 have HC0 := am hc0
 clear hr0 hc0
 unfold impl_IsAscending.f at h
 have H := h
 clear h
 have H' := am H
 clear H
 go_enter Try.func56, Try.ntmps56
 go_wp2
 repeat (go_quiet (fail); try go_wp2)
 go_loopg [3] k (fun kq v3 w' => ∃ (x3_1 : Int), v3 = .int .i64 x3_1 ∧ Aside0 (impl_IsAscending.l0 kq l0 x3_1 = some r) ∧ Aside0 (kq ≤ k) ∧ Drawn0 w w')
 case atStart => exact ⟨(1), rr, H', ⟨Nat.le_refl _⟩, dw⟩
 case round =>
  clear H'
  obtain ⟨x3_1, rfl, HA, HK1, ⟨m1, rfl⟩⟩ := hrel
  cases gk with
  | zero => exact absurd HA.out (by simp [impl_IsAscending.l0])
  | succ k1 =>
   have H := HA.out
   clear HA
   simp only [impl_IsAscending.l0] at H
   replace H := gi H; obtain ⟨c2b0, H⟩ | ⟨c2b0, H⟩ := H
   ·replace H := gd H; obtain ⟨c3b0, H⟩ := H
    obtain ⟨ji4, hji4⟩ : ∃ j_ : Int, (wrap64 (x3_1 - 1)) = j_ := ⟨_, rfl⟩
    replace H : (if 0 ≤ (ji4) then (if (ji4) < (l0.length : Int) then (if (rd l0 x3_1) ≤ (rd l0 (ji4)) then (some false) else (impl_IsAscending.l0 k1 l0 (wrap64 (x3_1 + 1)))) else (none)) else (none)) = some r := by first | (rw [hji4] at H; exact H) | (simp only [hji4] at H ⊢; exact H)
    have hji4w : (IntKind.i64.wrap (x3_1 - 1)) = ji4 := (i64_w _).trans hji4
    replace H := gd H; obtain ⟨c5b0, H⟩ := H
    replace H := gd H; obtain ⟨c6b0, H⟩ := H
    replace H := gi H; obtain ⟨c7b0, H⟩ | ⟨c7b0, H⟩ := H
    ·obtain rfl := Option.some.inj H
     obtain ⟨⟨ad103, e103, hx103_0⟩, p103, q103⟩ := pq (Kd.at_int HR0.out x3_1)
     cases e103
     obtain ⟨⟨ad104, e104, hx104_0⟩, p104, q104⟩ := pq (Kd.at_int HR0.out (ji4))
     obtain rfl : ad103 = ad104 := (by injection e104)
     go_wp2
     repeat (go_quiet (fail); try go_wp2)
     go_ret
     exact ⟨by first | rfl | (simp; done) | (simp only [← hji4] <;> (first | rfl | simp)) | (simp [*]; done), dw⟩
    have H' := am H
    clear H
    obtain ⟨⟨ad103, e103, hx103_0⟩, p103, q103⟩ := pq (Kd.at_int HR0.out x3_1)
    cases e103
    obtain ⟨⟨ad104, e104, hx104_0⟩, p104, q104⟩ := pq (Kd.at_int HR0.out (ji4))
    obtain rfl : ad103 = ad104 := (by injection e104)
    go_wp2
    repeat (go_quiet (fail); try go_wp2)
    go_roundg k1
    case measure => have := HK1.out; omega
    case rel => exact ⟨(wrap64 (x3_1 + 1)), rr, H', ⟨by have := HK1.out; omega⟩, dw⟩
   obtain rfl := Option.some.inj H
   go_wp2
   repeat (go_quiet (fail); try go_wp2)
   go_ret
   exact ⟨rr, dw⟩


/-! ### impl_GcdOf: function 77 -/
def impl_GcdOf.l0 : Nat → Int → Int → Option (Int)
 | 0, _, _ => none
 | k + 1, x0, x1 => if x0 = 0 then (some x1) else (impl_GcdOf.l0 k (Int.tmod x1 x0) x0)
def impl_GcdOf.f (k : Nat) (a0 : Int) (a1 : Int) : Option (Int) := (impl_allWithin.f k (([a0, a1] : List Int)) (-1000000) 1000000).bind fun t108 => (if t108 = true then (impl_GcdOf.l0 k (mx a0 (wrap64 (-a0))) (mx a1 (wrap64 (-a1)))) else (some 0))
theorem impl_GcdOf.calls (k : Nat) (a0 : Int) (a1 : Int) (r : Int) (w : World) (h : impl_GcdOf.f k a0 a1 = some r) :
  Calls Try.prog 77 #[.int .i64 a0, .int .i64 a1] w fun e w' => e = .returned (.int .i64 r) ∧ Below w.heap.size w w' := by
 have HB := am (Below.refl w.heap.size w)
 unfold impl_GcdOf.f at h
 have H := h
 clear h
 obtain ⟨y105, hy105⟩ : ∃ y_ : List Int, y_ = (([a0, a1] : List Int)) := ⟨_, rfl⟩
 replace H : ((impl_allWithin.f k y105 (-1000000) 1000000).bind fun t108 => (if t108 = true then (impl_GcdOf.l0 k (mx a0 (wrap64 (-a0))) (mx a1 (wrap64 (-a1)))) else (some 0))) = some r := by first | (rw [hy105]; with_reducible first | exact H | exact bs H) | (with_reducible first | exact bs H | exact H) | (rw [hy105]; exact H) | exact H
 have Ny105 := am hy105
 clear hy105
 replace H := ga H; obtain ⟨t108, A3, H⟩ := H
 replace H := gb H; obtain ⟨rfl, H⟩ | ⟨rfl, H⟩ := H
 ·obtain ⟨ji5, hji5⟩ : ∃ j_ : Int, (mx a0 (wrap64 (-a0))) = j_ := ⟨_, rfl⟩
  replace H : (impl_GcdOf.l0 k ji5 (mx a1 (wrap64 (-a1)))) = some r := by first | (rw [hji5] at H; exact H) | (simp only [hji5] at H ⊢; exact H)
  (try rw [hji5] at A3)
  have hji5_ : (if a0 < (wrap64 (-a0)) then (wrap64 (-a0)) else a0) = ji5 := hji5
  obtain ⟨ji6, hji6⟩ : ∃ j_ : Int, (mx a1 (wrap64 (-a1))) = j_ := ⟨_, rfl⟩
  replace H : (impl_GcdOf.l0 k ji5 ji6) = some r := by first | (rw [hji6] at H; exact H) | (simp only [hji6] at H ⊢; exact H)
  (try rw [hji6] at A3)
  have hji6_ : (if a1 < (wrap64 (-a1)) then (wrap64 (-a1)) else a1) = ji6 := hji6
  have H' := am H
  clear H
  go_enter Try.func77, Try.ntmps77
  go_wp2_with (first | ((with_reducible refine gate_dst (N := 7) rfl ?_); refine Kd.R_lit (Kd.int .i64) _ 3 ?hg (N := 7) ?hd (xs := ([a0, a1] : List Int)) (inner := [.int .i64 a0, .int .i64 a1]) (ok := fun _ => True) (okp := fun _ => True) ?hr ?hp (fun _ hk => hk) trivial (Below.refl _ _) (Nat.le_refl _) (by simp) ?_; (case hd => rfl); (case hg => rfl); (case hr => first | (go_simp; done) | (go_simp; rfl)); (case hp => exact (Reps.one (show Kd.M (Kd.int .i64) _ _ _ a0 [.int .i64 a0] from rfl) (Reps.one (show Kd.M (Kd.int .i64) _ _ _ a1 [.int .i64 a1] from rfl) (Reps.none _ _)))); intro v106 w7 ho8 hb hg_ hnew_; clear hg_ hnew_; (first | rw [← Ny105.out] at ho8 | (simp only [Int.reduceToNat] at ho8; rw [← Ny105.out] at ho8)); have HO107 := am (Kd.R_lower ho8 (below_size bw)); replace HB := am (below_step bw hb); clear hb ho8; obtain ⟨Ao9, co9, eo9⟩ := Kd.R_slice HO107.out; subst eo9) | ((with_reducible refine gate_callee (f := 55) rfl ?_); refine gl (some 8) Try.func55 #[.slice Ao9 y105.length co9, .int .i64 (-1000000), .int .i64 1000000] ?_; (with_reducible refine (impl_allWithin.calls k _ _ y105 (-1000000) 1000000 true _ ?side1 ?side2 A3.out).mono ?_); (case side1 => exact co (Kd.R_reads' HO107.out).2.2); (case side2 => exact (Kd.R_reads' HO107.out).2.1); rintro e w' ⟨rfl, ⟨nd, rfl⟩⟩; refine ⟨_, rfl, ?_⟩))
  go_loopg [0, 1] k (fun kq v0 v1 w' => ∃ (x0_1 : Int) (x1_1 : Int), v0 = .int .i64 x0_1 ∧ v1 = .int .i64 x1_1 ∧ Aside0 (impl_GcdOf.l0 kq x0_1 x1_1 = some r) ∧ Aside0 (kq ≤ k) ∧ Aside0 (Below w.heap.size w w'))
  case atStart => exact ⟨(ji5), (ji6), (by first | rfl | (simp; done) | (simp only [← hji5] <;> (first | rfl | simp)) | (simp [*]; done)), (by first | rfl | (simp; done) | (simp only [← hji6] <;> (first | rfl | simp)) | (simp [*]; done)), H', ⟨Nat.le_refl _⟩, ⟨bw⟩⟩
  case round =>
   clear H'
   obtain ⟨x0_1, x1_1, rfl, rfl, HA, HK1, HB⟩ := hrel
   cases gk with
   | zero => exact absurd HA.out (by simp [impl_GcdOf.l0])
   | succ k1 =>
    have H := HA.out
    clear HA
    simp only [impl_GcdOf.l0] at H
    by_cases c10 : x0_1 = 0
    ·rw [if_pos c10] at H
     have c10b0 : (x0_1 == 0) = true := beq_iff_eq.mpr c10
     have c10b1 : (x0_1 != 0) = false := bne_eq_false_iff_eq.mpr c10
     clear c10
     obtain rfl := Option.some.inj H
     go_wp2
     go_ret
     exact ⟨by first | rfl | (simp [errW_none, errW_some] <;> rfl) | (simp only [← hji5, ← hji6]; first | rfl | (simp [errW_none, errW_some] <;> rfl)) | (simp [*, errW_none, errW_some] <;> rfl), bw⟩
    rw [if_neg c10] at H
    have c10b0 : (x0_1 == 0) = false := beq_eq_false_iff_ne.mpr c10
    have c10b1 : (x0_1 != 0) = true := bne_iff_ne.mpr c10
    have H' := am H
    clear H
    go_wp2
    go_roundg k1
    case measure => have := HK1.out; omega
    case rel => exact ⟨(Int.tmod x1_1 x0_1), (x0_1), rr, rr, H', ⟨by have := HK1.out; omega⟩, ⟨bw⟩⟩
 obtain rfl := Option.some.inj H
 go_enter Try.func77, Try.ntmps77
 go_wp2_with (first | ((with_reducible refine gate_dst (N := 7) rfl ?_); refine Kd.R_lit (Kd.int .i64) _ 3 ?hg (N := 7) ?hd (xs := ([a0, a1] : List Int)) (inner := [.int .i64 a0, .int .i64 a1]) (ok := fun _ => True) (okp := fun _ => True) ?hr ?hp (fun _ hk => hk) trivial (Below.refl _ _) (Nat.le_refl _) (by simp) ?_; (case hd => rfl); (case hg => rfl); (case hr => first | (go_simp; done) | (go_simp; rfl)); (case hp => exact (Reps.one (show Kd.M (Kd.int .i64) _ _ _ a0 [.int .i64 a0] from rfl) (Reps.one (show Kd.M (Kd.int .i64) _ _ _ a1 [.int .i64 a1] from rfl) (Reps.none _ _)))); intro v106 w11 ho12 hb hg_ hnew_; clear hg_ hnew_; (first | rw [← Ny105.out] at ho12 | (simp only [Int.reduceToNat] at ho12; rw [← Ny105.out] at ho12)); have HO107 := am (Kd.R_lower ho12 (below_size bw)); replace HB := am (below_step bw hb); clear hb ho12; obtain ⟨Ao13, co13, eo13⟩ := Kd.R_slice HO107.out; subst eo13) | ((with_reducible refine gate_callee (f := 55) rfl ?_); refine gl (some 8) Try.func55 #[.slice Ao13 y105.length co13, .int .i64 (-1000000), .int .i64 1000000] ?_; (with_reducible refine (impl_allWithin.calls k _ _ y105 (-1000000) 1000000 false _ ?side1 ?side2 A3.out).mono ?_); (case side1 => exact co (Kd.R_reads' HO107.out).2.2); (case side2 => exact (Kd.R_reads' HO107.out).2.1); rintro e w' ⟨rfl, ⟨nd, rfl⟩⟩; refine ⟨_, rfl, ?_⟩))
 go_ret
 exact ⟨re, bw⟩


/-! ### impl_GcdOfList: function 57 -/
def impl_GcdOfList.l0 : Nat → Int → List Int → Int → Int → Option (Int)
 | 0, _, _, _, _ => none
 | k + 1, x3, x6, x7, x8 => if x8 < x7 then (if 0 ≤ x8 then (if x8 < (x6.length : Int) then ((impl_GcdOf.f k x3 (rd x6 x8)).bind fun t110 => (impl_GcdOfList.l0 k t110 x6 x7 (wrap64 (x8 + 1)))) else (none)) else (none)) else (some x3)
def impl_GcdOfList.f (k : Nat) (l0 : List Int) : Option (Int) := impl_GcdOfList.l0 k 0 l0 (l0.length : Int) 0
theorem impl_GcdOfList.calls (k : Nat) (A0 : Option Addr) (c0 : Nat) (l0 : List Int) (r : Int) (w : World) (hr0 : Kd.C (Kd.int .i64) w A0 l0.length l0) (hc0 : l0.length ≤ c0) (h : impl_GcdOfList.f k l0 = some r) :
  Calls Try.prog 57 #[.slice A0 l0.length c0] w fun e w' => e = .returned (.int .i64 r) ∧ Below w.heap.size w w' := by
 have HR0 := am hr0
 have HC0 := am hc0
 clear hr0 hc0
 have HB := am (Below.refl w.heap.size w)
 unfold impl_GcdOfList.f at h
 have H := h
 clear h
 have H' := am H
 clear H
 go_enter Try.func57, Try.ntmps57
 go_wp2
 go_loopg [3, 8] k (fun kq v3 v8 w' => ∃ (x3_1 : Int) (x8_1 : Int), v3 = .int .i64 x3_1 ∧ v8 = .int .i64 x8_1 ∧ Aside0 (impl_GcdOfList.l0 kq x3_1 l0 (l0.length : Int) x8_1 = some r) ∧ Aside0 (kq ≤ k) ∧ Aside0 (Below w.heap.size w w'))
 case atStart => exact ⟨(0), (0), rr, rr, H', ⟨Nat.le_refl _⟩, ⟨bw⟩⟩
 case round =>
  clear H'
  obtain ⟨x3_1, x8_1, rfl, rfl, HA, HK1, HB⟩ := hrel
  cases gk with
  | zero => exact absurd HA.out (by simp [impl_GcdOfList.l0])
  | succ k1 =>
   have H := HA.out
   clear HA
   simp only [impl_GcdOfList.l0] at H
   replace H := gi H; obtain ⟨c2b0, H⟩ | ⟨c2b0, H⟩ := H
   ·replace H := gd H; obtain ⟨c3b0, H⟩ := H
    replace H := gd H; obtain ⟨c4b0, H⟩ := H
    replace H := ga H; obtain ⟨t110, A5, H⟩ := H
    have H' := am H
    clear H
    obtain ⟨⟨ad109, e109, hx109_0⟩, p109, q109⟩ := pq (Kd.at_int HR0.out x8_1)
    cases e109
    replace hx109_0 := hw HB hx109_0
    go_wp2_with (first | ((with_reducible refine gate_callee (f := 77) rfl ?_); refine gl (some 14) Try.func77 #[.int .i64 x3_1, .int .i64 (rd l0 x8_1)] ?_; (with_reducible refine (impl_GcdOf.calls k1 x3_1 (rd l0 x8_1) t110 _ A5.out).mono ?_); rintro e w6 ⟨rfl, hb⟩; refine ⟨_, rfl, ?_⟩; replace HB := am (below_step bw hb); clear hb))
    go_roundg k1
    case measure => have := HK1.out; omega
    case rel => exact ⟨(t110), (wrap64 (x8_1 + 1)), rr, rr, H', ⟨by have := HK1.out; omega⟩, ⟨bw⟩⟩
   obtain rfl := Option.some.inj H
   go_wp2
   go_ret
   exact ⟨re, bw⟩


/-! ### impl_leasts: function 59 -/
mutual
def impl_leasts.l0 : Nat → List Int → Int → List Int → Int → Int → Option (List Int)
 | 0, _, _, _, _, _ => none
 | k + 1, x0, x1, x5, x16, x17 => if x17 < x16 then (if 0 ≤ x17 then (if x17 < (x5.length : Int) then (impl_leasts.l0 k x0 x1 (x5.set (x17 : Int).toNat (-1)) x16 (wrap64 (x17 + 1))) else (none)) else (none)) else (if 0 < (x5.length : Int) then (impl_leasts.l1 k x0 x1 (x5.set (0 : Int).toNat 0) true) else (none))
def impl_leasts.l1 : Nat → List Int → Int → List Int → Bool → Option (List Int)
 | 0, _, _, _, _ => none
 | k + 1, x0, x1, x5, x7 => if x7 = true then (impl_leasts.l2 k x0 x1 x5 false (x5.length : Int) 0) else (some x5)
def impl_leasts.l2 : Nat → List Int → Int → List Int → Bool → Int → Int → Option (List Int)
 | 0, _, _, _, _, _, _ => none
 | k + 1, x0, x1, x5, x7, x28, x29 => if x29 < x28 then (if 0 ≤ x29 then (if x29 < (x5.length : Int) then (if (rd x5 x29) < 0 then (impl_leasts.l2 k x0 x1 x5 x7 x28 (wrap64 (x29 + 1))) else (impl_leasts.l3 k x0 x1 x5 x7 x29 (rd x5 x29) x28 x29 x0 (x0.length : Int) 0)) else (none)) else (none)) else (impl_leasts.l1 k x0 x1 x5 x7)
def impl_leasts.l3 : Nat → List Int → Int → List Int → Bool → Int → Int → Int → Int → List Int → Int → Int → Option (List Int)
 | 0, _, _, _, _, _, _, _, _, _, _, _ => none
 | k + 1, x0, x1, x5, x7, x8, x9, x28, x29, x36, x37, x38 => if x38 < x37 then (if 0 ≤ x38 then (if x38 < (x36.length : Int) then (if x1 = 0 then (none) else (if 0 ≤ (Int.tmod (wrap64 (x8 + (rd x36 x38))) x1) then (if (Int.tmod (wrap64 (x8 + (rd x36 x38))) x1) < (x5.length : Int) then (if (rd x5 (Int.tmod (wrap64 (x8 + (rd x36 x38))) x1)) < 0 then (impl_leasts.l3 k x0 x1 (x5.set ((Int.tmod (wrap64 (x8 + (rd x36 x38))) x1) : Int).toNat (wrap64 (x9 + (rd x36 x38)))) true x8 x9 x28 x29 x36 x37 (wrap64 (x38 + 1))) else (if (wrap64 (x9 + (rd x36 x38))) < (rd x5 (Int.tmod (wrap64 (x8 + (rd x36 x38))) x1)) then (impl_leasts.l3 k x0 x1 (x5.set ((Int.tmod (wrap64 (x8 + (rd x36 x38))) x1) : Int).toNat (wrap64 (x9 + (rd x36 x38)))) true x8 x9 x28 x29 x36 x37 (wrap64 (x38 + 1))) else (impl_leasts.l3 k x0 x1 x5 x7 x8 x9 x28 x29 x36 x37 (wrap64 (x38 + 1))))) else (none)) else (none))) else (none)) else (none)) else (impl_leasts.l2 k x0 x1 x5 x7 x28 (wrap64 (x29 + 1)))
end
def impl_leasts.f (k : Nat) (l0 : List Int) (a1 : Int) : Option (List Int) := if 0 ≤ a1 then (if (a1 : Int).toNat ≤ 35184372088832 then ((some (List.replicate (a1 : Int).toNat 0 : List Int)).bind fun y111 => (impl_leasts.l0 k l0 a1 y111 (y111.length : Int) 0)) else (none)) else (none)
theorem impl_leasts.calls (k : Nat) (A0 : Option Addr) (c0 : Nat) (l0 : List Int) (a1 : Int) (r : List Int) (w : World) (hr0 : Kd.C (Kd.int .i64) w A0 l0.length l0) (hc0 : l0.length ≤ c0) (h : impl_leasts.f k l0 a1 = some r) :
  Calls Try.prog 59 #[.slice A0 l0.length c0, .int .i64 a1] w fun e w' => ∃ v0_ : Value, e = .returned (v0_) ∧ Kd.R (Kd.int .i64) 3 w' w.heap.size (fun _ => True) v0_ r ∧ Below w.heap.size w w' := by
 have HR0 := am hr0
 have HC0 := am hc0
 clear hr0 hc0
 have HB := am (Below.refl w.heap.size w)
 unfold impl_leasts.f at h
 have H := h
 clear h
 replace H := gp H; obtain ⟨c3, H⟩ := H
 have c3b0 := eq_true c3
 have c3b1 : decide (0 ≤ a1) = true := decide_eq_true c3
 clear c3
 replace H := gp H; obtain ⟨c4, H⟩ := H
 have c4b0 := eq_true c4
 have c4b1 : decide ((a1 : Int).toNat ≤ 35184372088832) = true := decide_eq_true c4
 clear c4
 obtain ⟨y111, hy111, H⟩ := gy H
 have Ny111 := am hy111
 clear hy111
 have H' := am H
 clear H
 go_enter Try.func59, Try.ntmps59
 go_wp2_with (first | ((with_reducible refine gate_dst (N := 14) rfl ?_); refine Kd.R_make (Kd.int .i64) _ 3 rfl (N := 14) rfl 22 _ _ rfl a1 rfl rfl Try.underlying22 (.int .i64 0) 8 info3 rfl (by decide) (by omega) 0 (ok := fun _ => True) (okp := fun _ => True) rfl (fun _ hk => hk) trivial (od) (Nat.le_trans (Nat.mul_le_mul_right _ (od : a1.toNat ≤ 35184372088832)) (by omega)) (Below.refl _ _) (Nat.le_refl _) ?_; intro v112 w5 ho6 hb hg_ hnew_; clear hg_ hnew_; (first | rw [← Ny111.out] at ho6 | (simp only [Int.reduceToNat] at ho6; rw [← Ny111.out] at ho6)); have HO113 := am (Kd.R_lower ho6 (below_size bw)); replace HB := am (below_step bw hb); clear hb ho6; obtain ⟨Ao7, co7, eo7⟩ := Kd.R_slice HO113.out; subst eo7))
 go_loopg [17] k (fun kq v17 w' => ∃ (x5_1 : List Int) (x17_1 : Int), v17 = .int .i64 x17_1 ∧ Aside0 (impl_leasts.l0 kq l0 a1 x5_1 (y111.length : Int) x17_1 = some r) ∧ Aside0 (kq ≤ k) ∧ Aside0 (Kd.R (Kd.int .i64) 3 w' w.heap.size (fun _ => True) (.slice Ao7 y111.length co7) x5_1) ∧ Aside0 (Below w.heap.size w w'))
 case atStart => exact ⟨(y111), (0), rr, H', ⟨Nat.le_refl _⟩, ⟨ro HO113.out⟩, ⟨bw⟩⟩
 case round =>
  clear H'
  try clear c3; try clear c3b0; try clear c3b1; try clear c4; try clear c4b0; try clear c4b1
  obtain ⟨x5_1, x17_1, rfl, HA, HK1, HO_5, HB⟩ := hrel
  have hl5_1 := (Kd.R_reads' HO_5.out).1
  rw [hl5_1] at HO_5
  (try simp only [hl5_1])
  cases gk with
  | zero => exact absurd HA.out (by simp [impl_leasts.l0])
  | succ k1 =>
   have H := HA.out
   clear HA
   simp only [impl_leasts.l0] at H
   by_cases c8 : x17_1 < (y111.length : Int)
   ·rw [if_pos c8] at H
    have c8b0 : decide (x17_1 < (y111.length : Int)) = true := decide_eq_true c8
    (try simp only [hl5_1] at c8b0)
    clear c8
    replace H := gd H; obtain ⟨c9b0, H⟩ := H
    by_cases c10 : x17_1 < (x5_1.length : Int)
    rotate_left
    ·rw [if_neg c10] at H
     exact absurd H (by simp)
    rw [if_pos c10] at H
    have c10b0 : decide (x17_1 < (x5_1.length : Int)) = true := decide_eq_true c10
    (try simp only [hl5_1] at c10b0)
    clear c10
    obtain ⟨y114, hy114⟩ : ∃ y_ : List Int, y_ = (x5_1.set (x17_1 : Int).toNat (-1)) := ⟨_, rfl⟩
    replace H : (impl_leasts.l0 k1 l0 a1 y114 (y111.length : Int) (wrap64 (x17_1 + 1))) = some r := by first | (rw [hy114]; with_reducible first | exact H | exact bs H) | (with_reducible first | exact bs H | exact H) | (rw [hy114]; exact H) | exact H
    have Ny114 := am hy114
    clear hy114
    have H' := am H
    clear H
    have p11 : 0 ≤ (x17_1 : Int) := od
    have q11 : (x17_1 : Int) < ((x5_1.length : Int) : Int) := od
    obtain ⟨go11, co11, eo11, gb11, gl11, cl11, HG11⟩ := Kd.R_form HO_5.out (by omega)
    (first | cases eo11 | (injection eo11 with ea_ en_ ec_; (first | subst ea_ | (injection ea_ with ea_; subst ea_)); subst ec_; clear en_))
    have GB11 := am gb11
    have GG11 := am HG11
    clear gb11 gl11 HG11
    obtain ⟨hx11_0, hf11_0⟩ := Kd.R_celln 0 HO_5.out (x17_1 : Int) p11 q11
    replace p11 := eq_true p11
    replace q11 := eq_true q11
    have HP12 := Kd.R_putg HO_5.out (x17_1 : Int) (-1)
    go_wp2_with (first | ((with_reducible refine gate_store (t := 3) (p := 22) rfl ?_); refine store_event (t := 3) (p := 22) (v := ?vo_w13) (w1 := (wr.setCell ⟨go11, (x17_1 : Int).toNat, none⟩ (.int .i64 (-1)))) ?hg ?ho ?hn ?hr ?_; (case ho => rfl); (case hg => rfl); (case hn => rfl); (case hr => first | (go_simp; done) | (go_simp; rfl)); intro w13 hw; have hg : wr.grownBy w13 (some go11) := (by rw [hw]; exact HP12.2); have hp_ : Kd.R (Kd.int .i64) 3 w13 w.heap.size (fun _ => True) (.slice (some ⟨go11, 0, none⟩) x5_1.length co7) y114 := (by rw [hw, Ny114.out]; exact HP12.1); clear HP12; replace HO_5 := am (hp_); replace HB := am ((by rw [hw]; exact below_set (HB.out) GB11.out : Below w.heap.size w w13)); clear hg hw hp_))
    (try simp only [← hl5_1])
    go_roundg k1
    case measure => have := HK1.out; omega
    case rel => exact ⟨(y114), (wrap64 (x17_1 + 1)), rr, H', ⟨by have := HK1.out; omega⟩, ⟨by (try simp only [hl5_1]); (with_reducible repeat (first | apply Kd.R_alloc | apply Kd.R_drewN | apply Kd.R_drew)); exact HO_5.out⟩, ⟨bw⟩⟩
   rw [if_neg c8] at H
   have c8b0 : decide (x17_1 < (y111.length : Int)) = false := decide_eq_false c8
   (try simp only [hl5_1] at c8b0)
   clear c8
   by_cases c14 : 0 < (x5_1.length : Int)
   rotate_left
   ·rw [if_neg c14] at H
    exact absurd H (by simp)
   rw [if_pos c14] at H
   have c14b0 : decide (0 < (x5_1.length : Int)) = true := decide_eq_true c14
   (try simp only [hl5_1] at c14b0)
   have c14b1 : decide (0 < x5_1.length) = true := decide_eq_true (by omega)
   (try simp only [hl5_1] at c14b1)
   clear c14
   obtain ⟨y115, hy115⟩ : ∃ y_ : List Int, y_ = (x5_1.set (0 : Int).toNat 0) := ⟨_, rfl⟩
   replace H : (impl_leasts.l1 k1 l0 a1 y115 true) = some r := by first | (rw [hy115]; with_reducible first | exact H | exact bs H) | (with_reducible first | exact bs H | exact H) | (rw [hy115]; exact H) | exact H
   have Ny115 := am hy115
   clear hy115
   have H' := am H
   clear H
   have p15 : 0 ≤ (0 : Int) := (by omega)
   have q15 : (0 : Int) < ((x5_1.length : Int) : Int) := od
   have qi15 : (0 < x5_1.length) = True := eq_true (by omega)
   obtain ⟨go15, co15, eo15, gb15, gl15, cl15, HG15⟩ := Kd.R_form HO_5.out (by omega)
   (first | cases eo15 | (injection eo15 with ea_ en_ ec_; (first | subst ea_ | (injection ea_ with ea_; subst ea_)); subst ec_; clear en_))
   have GB15 := am gb15
   have GG15 := am HG15
   clear gb15 gl15 HG15
   obtain ⟨hx15_0, hf15_0⟩ := Kd.R_celln 0 HO_5.out (0 : Int) p15 q15
   (try rw [show ((0 : Int)).toNat = 0 from rfl] at hx15_0)
   (try simp only [Nat.reduceMul, Nat.zero_mul, Nat.zero_add, Nat.reduceAdd] at hx15_0)
   (try rw [show ((0 : Int)).toNat = 0 from rfl] at hf15_0)
   (try simp only [Nat.reduceMul, Nat.zero_mul, Nat.zero_add, Nat.reduceAdd] at hf15_0)
   replace p15 := eq_true p15
   replace q15 := eq_true q15
   have HP16 := Kd.R_putg HO_5.out (0 : Int) 0
   go_wp2_with (first | ((with_reducible refine gate_store (t := 3) (p := 25) rfl ?_); refine store_event (t := 3) (p := 25) (v := ?vo_w17) (w1 := (wr.setCell ⟨go15, (0 : Int).toNat, none⟩ (.int .i64 0))) ?hg ?ho ?hn ?hr ?_; (case ho => rfl); (case hg => rfl); (case hn => rfl); (case hr => first | (go_simp; done) | (go_simp; rfl)); intro w17 hw; have hg : wr.grownBy w17 (some go15) := (by rw [hw]; exact HP16.2); have hp_ : Kd.R (Kd.int .i64) 3 w17 w.heap.size (fun _ => True) (.slice (some ⟨go15, 0, none⟩) x5_1.length co7) y115 := (by rw [hw, Ny115.out]; exact HP16.1); clear HP16; replace HO_5 := am (hp_); replace HB := am ((by rw [hw]; exact below_set (HB.out) GB15.out : Below w.heap.size w w17)); clear hg hw hp_))
   go_loopg [7] k1 (fun kq v7 w' => ∃ (x5_2 : List Int) (x7_2 : Bool), v7 = .bool x7_2 ∧ Aside0 (impl_leasts.l1 kq l0 a1 x5_2 x7_2 = some r) ∧ Aside0 (kq ≤ k1) ∧ Aside0 (Kd.R (Kd.int .i64) 3 w' w.heap.size (fun _ => True) (.slice (some ⟨go15, 0, none⟩) x5_1.length co7) x5_2) ∧ Aside0 (Below w.heap.size w w'))
   case atStart => exact ⟨(y115), (true), rr, H', ⟨Nat.le_refl _⟩, ⟨by (try simp only [hl5_1]); (with_reducible repeat (first | apply Kd.R_alloc | apply Kd.R_drewN | apply Kd.R_drew)); exact HO_5.out⟩, ⟨bw⟩⟩
   case round =>
    clear H'
    try clear c3; try clear c3b0; try clear c3b1; try clear c4; try clear c4b0; try clear c4b1; try clear c8; try clear c8b0; try clear c9b0; try clear c10; try clear c10b0; try clear p11; try clear q11; try clear c14; try clear c14b0; try clear c14b1; try clear p15; try clear q15; try clear qi15; try clear hx11_0; try clear hx15_0
    obtain ⟨x5_2, x7_2, rfl, HA, HK2, HO_5, HB⟩ := hrel
    have hl5_2 := (Kd.R_reads' HO_5.out).1
    rw [hl5_2] at HO_5
    (try simp only [hl5_2])
    cases gk with
    | zero => exact absurd HA.out (by simp [impl_leasts.l1])
    | succ k2 =>
     have H := HA.out
     clear HA
     simp only [impl_leasts.l1] at H
     replace H := gb H; obtain ⟨rfl, H⟩ | ⟨rfl, H⟩ := H
     ·have H' := am H
      clear H
      go_wp2
      go_loopg [7, 29] k2 (fun kq v7 v29 w' => ∃ (x5_3 : List Int) (x7_3 : Bool) (x29_3 : Int), v7 = .bool x7_3 ∧ v29 = .int .i64 x29_3 ∧ Aside0 (impl_leasts.l2 kq l0 a1 x5_3 x7_3 (x5_2.length : Int) x29_3 = some r) ∧ Aside0 (kq ≤ k2) ∧ Aside0 (Kd.R (Kd.int .i64) 3 w' w.heap.size (fun _ => True) (.slice (some ⟨go15, 0, none⟩) x5_2.length co7) x5_3) ∧ Aside0 (Below w.heap.size w w'))
      case atStart => exact ⟨(x5_2), (false), (0), rr, rr, H', ⟨Nat.le_refl _⟩, ⟨by (try simp only [hl5_1]); (try simp only [hl5_2]); (with_reducible repeat (first | apply Kd.R_alloc | apply Kd.R_drewN | apply Kd.R_drew)); exact HO_5.out⟩, ⟨bw⟩⟩
      case round =>
       clear H'
       try clear c3; try clear c3b0; try clear c3b1; try clear c4; try clear c4b0; try clear c4b1; try clear c8; try clear c8b0; try clear c9b0; try clear c10; try clear c10b0; try clear p11; try clear q11; try clear c14; try clear c14b0; try clear c14b1; try clear p15; try clear q15; try clear qi15; try clear hx11_0; try clear hx15_0
       obtain ⟨x5_3, x7_3, x29_3, rfl, rfl, HA, HK3, HO_5, HB⟩ := hrel
       have hl5_3 := (Kd.R_reads' HO_5.out).1
       rw [hl5_3] at HO_5
       (try simp only [hl5_3])
       cases gk with
       | zero => exact absurd HA.out (by simp [impl_leasts.l2])
       | succ k3 =>
        have H := HA.out
        clear HA
        simp only [impl_leasts.l2] at H
        by_cases c19 : x29_3 < (x5_2.length : Int)
        ·rw [if_pos c19] at H
         have c19b0 : decide (x29_3 < (x5_2.length : Int)) = true := decide_eq_true c19
         (try simp only [hl5_1, hl5_2, hl5_3] at c19b0)
         clear c19
         replace H := gd H; obtain ⟨c20b0, H⟩ := H
         by_cases c21 : x29_3 < (x5_3.length : Int)
         rotate_left
         ·rw [if_neg c21] at H
          exact absurd H (by simp)
         rw [if_pos c21] at H
         have c21b0 : decide (x29_3 < (x5_3.length : Int)) = true := decide_eq_true c21
         (try simp only [hl5_1, hl5_2, hl5_3] at c21b0)
         clear c21
         replace H := gi H; obtain ⟨c22b0, H⟩ | ⟨c22b0, H⟩ := H
         ·have H' := am H
          clear H
          obtain ⟨⟨ad116, e116, hx116_0⟩, p116, q116⟩ := pq (Kd.at_int (Kd.R_reads' HO_5.out).2.2 x29_3)
          obtain rfl : (⟨go15, 0, none⟩ : Addr) = ad116 := (by injection e116)
          (first | simp only [add_plain] at hx116_0 | simp only [add_at] at hx116_0 | simp only [Addr.add, Nat.zero_add] at hx116_0 | skip)
          go_wp2
          (try simp only [← hl5_3])
          go_roundg k3
          case measure => have := HK1.out; have := HK2.out; have := HK3.out; omega
          case rel => exact ⟨(x5_3), (x7_3), (wrap64 (x29_3 + 1)), rr, rr, H', ⟨by have := HK1.out; have := HK2.out; have := HK3.out; omega⟩, ⟨by (try simp only [hl5_1]); (try simp only [hl5_2]); (try simp only [hl5_3]); (with_reducible repeat (first | apply Kd.R_alloc | apply Kd.R_drewN | apply Kd.R_drew)); exact HO_5.out⟩, ⟨bw⟩⟩
         have H' := am H
         clear H
         obtain ⟨⟨ad116, e116, hx116_0⟩, p116, q116⟩ := pq (Kd.at_int (Kd.R_reads' HO_5.out).2.2 x29_3)
         obtain rfl : (⟨go15, 0, none⟩ : Addr) = ad116 := (by injection e116)
         (first | simp only [add_plain] at hx116_0 | simp only [add_at] at hx116_0 | simp only [Addr.add, Nat.zero_add] at hx116_0 | skip)
         go_wp2
         go_loopg [7, 38] k3 (fun kq v7 v38 w' => ∃ (x5_4 : List Int) (x7_4 : Bool) (x38_4 : Int), v7 = .bool x7_4 ∧ v38 = .int .i64 x38_4 ∧ Aside0 (impl_leasts.l3 kq l0 a1 x5_4 x7_4 x29_3 (rd x5_3 x29_3) (x5_2.length : Int) x29_3 l0 (l0.length : Int) x38_4 = some r) ∧ Aside0 (kq ≤ k3) ∧ Aside0 (Kd.R (Kd.int .i64) 3 w' w.heap.size (fun _ => True) (.slice (some ⟨go15, 0, none⟩) x5_3.length co7) x5_4) ∧ Aside0 (Below w.heap.size w w'))
         case atStart => exact ⟨(x5_3), (x7_3), (0), rr, rr, H', ⟨Nat.le_refl _⟩, ⟨by (try simp only [hl5_1]); (try simp only [hl5_2]); (try simp only [hl5_3]); (with_reducible repeat (first | apply Kd.R_alloc | apply Kd.R_drewN | apply Kd.R_drew)); exact HO_5.out⟩, ⟨bw⟩⟩
         case round =>
          clear H'
          try clear c3; try clear c3b0; try clear c3b1; try clear c4; try clear c4b0; try clear c4b1; try clear c8; try clear c8b0; try clear c9b0; try clear c10; try clear c10b0; try clear p11; try clear q11; try clear c14; try clear c14b0; try clear c14b1; try clear p15; try clear q15; try clear qi15; try clear c19; try clear c19b0; try clear c20b0; try clear c21; try clear c21b0; try clear c22b0; try clear hx116_0; try clear hx11_0; try clear hx15_0; try clear p116; try clear q116
          obtain ⟨x5_4, x7_4, x38_4, rfl, rfl, HA, HK4, HO_5, HB⟩ := hrel
          have hl5_4 := (Kd.R_reads' HO_5.out).1
          rw [hl5_4] at HO_5
          (try simp only [hl5_4])
          cases gk with
          | zero => exact absurd HA.out (by simp [impl_leasts.l3])
          | succ k4 =>
           have H := HA.out
           clear HA
           simp only [impl_leasts.l3] at H
           replace H := gi H; obtain ⟨c23b0, H⟩ | ⟨c23b0, H⟩ := H
           ·replace H := gd H; obtain ⟨c24b0, H⟩ := H
            replace H := gd H; obtain ⟨c25b0, H⟩ := H
            by_cases c26 : a1 = 0
            ·rw [if_pos c26] at H
             exact absurd H (by simp)
            rw [if_neg c26] at H
            have c26b0 : (a1 == 0) = false := beq_eq_false_iff_ne.mpr c26
            have c26b1 : (a1 != 0) = true := bne_iff_ne.mpr c26
            obtain ⟨ji27, hji27⟩ : ∃ j_ : Int, (Int.tmod (wrap64 (x29_3 + (rd l0 x38_4))) a1) = j_ := ⟨_, rfl⟩
            replace H : (if 0 ≤ (ji27) then (if (ji27) < (x5_4.length : Int) then (if (rd x5_4 (ji27)) < 0 then (impl_leasts.l3 k4 l0 a1 (x5_4.set ((ji27) : Int).toNat (wrap64 ((rd x5_3 x29_3) + (rd l0 x38_4)))) true x29_3 (rd x5_3 x29_3) (x5_2.length : Int) x29_3 l0 (l0.length : Int) (wrap64 (x38_4 + 1))) else (if (wrap64 ((rd x5_3 x29_3) + (rd l0 x38_4))) < (rd x5_4 (ji27)) then (impl_leasts.l3 k4 l0 a1 (x5_4.set ((ji27) : Int).toNat (wrap64 ((rd x5_3 x29_3) + (rd l0 x38_4)))) true x29_3 (rd x5_3 x29_3) (x5_2.length : Int) x29_3 l0 (l0.length : Int) (wrap64 (x38_4 + 1))) else (impl_leasts.l3 k4 l0 a1 x5_4 x7_4 x29_3 (rd x5_3 x29_3) (x5_2.length : Int) x29_3 l0 (l0.length : Int) (wrap64 (x38_4 + 1))))) else (none)) else (none)) = some r := by first | (rw [hji27] at H; exact H) | (simp only [hji27] at H ⊢; exact H)
            replace H := gd H; obtain ⟨c28b0, H⟩ := H
            by_cases c29 : (ji27) < (x5_4.length : Int)
            rotate_left
            ·rw [if_neg c29] at H
             exact absurd H (by simp)
            rw [if_pos c29] at H
            have c29b0 : decide ((ji27) < (x5_4.length : Int)) = true := decide_eq_true c29
            (try simp only [hl5_1, hl5_2, hl5_3, hl5_4] at c29b0)
            clear c29
            replace H := gi H; obtain ⟨c30b0, H⟩ | ⟨c30b0, H⟩ := H
            ·obtain ⟨y119, hy119⟩ : ∃ y_ : List Int, y_ = (x5_4.set ((ji27) : Int).toNat (wrap64 ((rd x5_3 x29_3) + (rd l0 x38_4)))) := ⟨_, rfl⟩
             replace H : (impl_leasts.l3 k4 l0 a1 y119 true x29_3 (rd x5_3 x29_3) (x5_2.length : Int) x29_3 l0 (l0.length : Int) (wrap64 (x38_4 + 1))) = some r := by first | (rw [hy119]; with_reducible first | exact H | exact bs H) | (with_reducible first | exact bs H | exact H) | (rw [hy119]; exact H) | exact H
             have Ny119 := am hy119
             clear hy119
             have H' := am H
             clear H
             obtain ⟨⟨ad117, e117, hx117_0⟩, p117, q117⟩ := pq (Kd.at_int HR0.out x38_4)
             cases e117
             replace hx117_0 := hw HB hx117_0
             obtain ⟨⟨ad118, e118, hx118_0⟩, p118, q118⟩ := pq (Kd.at_int (Kd.R_reads' HO_5.out).2.2 (ji27))
             obtain rfl : (⟨go15, 0, none⟩ : Addr) = ad118 := (by injection e118)
             (first | simp only [add_plain] at hx118_0 | simp only [add_at] at hx118_0 | simp only [Addr.add, Nat.zero_add] at hx118_0 | skip)
             have p31 : 0 ≤ ((ji27) : Int) := od
             have q31 : ((ji27) : Int) < ((x5_4.length : Int) : Int) := od
             obtain ⟨hx31_0, hf31_0⟩ := Kd.R_celln 0 HO_5.out ((ji27) : Int) p31 q31
             replace p31 := eq_true p31
             replace q31 := eq_true q31
             have HP32 := Kd.R_putg HO_5.out ((ji27) : Int) (wrap64 ((rd x5_3 x29_3) + (rd l0 x38_4)))
             go_wp2_with (first | ((with_reducible refine gate_store (t := 3) (p := 67) rfl ?_); refine store_event (t := 3) (p := 67) (v := ?vo_w33) (w1 := (wr.setCell ⟨go15, ((ji27) : Int).toNat, none⟩ (.int .i64 (wrap64 ((rd x5_3 x29_3) + (rd l0 x38_4)))))) ?hg ?ho ?hn ?hr ?_; (case ho => rfl); (case hg => rfl); (case hn => rfl); (case hr => first | (go_simp; done) | (go_simp; rfl)); intro w33 hw; have hg : wr.grownBy w33 (some go15) := (by rw [hw]; exact HP32.2); have hp_ : Kd.R (Kd.int .i64) 3 w33 w.heap.size (fun _ => True) (.slice (some ⟨go15, 0, none⟩) x5_4.length co7) y119 := (by rw [hw, Ny119.out]; exact HP32.1); clear HP32; replace HO_5 := am (hp_); replace HB := am ((by rw [hw]; exact below_set (HB.out) GB15.out : Below w.heap.size w w33)); clear hg hw hp_))
             (try simp only [← hl5_4])
             go_roundg k4
             case measure => have := HK1.out; have := HK2.out; have := HK3.out; have := HK4.out; omega
             case rel => exact ⟨(y119), (true), (wrap64 (x38_4 + 1)), rr, rr, H', ⟨by have := HK1.out; have := HK2.out; have := HK3.out; have := HK4.out; omega⟩, ⟨by (try simp only [hl5_1]); (try simp only [hl5_2]); (try simp only [hl5_3]); (try simp only [hl5_4]); (with_reducible repeat (first | apply Kd.R_alloc | apply Kd.R_drewN | apply Kd.R_drew)); exact HO_5.out⟩, ⟨bw⟩⟩
            replace H := gi H; obtain ⟨c34b0, H⟩ | ⟨c34b0, H⟩ := H
            ·obtain ⟨y121, hy121⟩ : ∃ y_ : List Int, y_ = (x5_4.set ((ji27) : Int).toNat (wrap64 ((rd x5_3 x29_3) + (rd l0 x38_4)))) := ⟨_, rfl⟩
             replace H : (impl_leasts.l3 k4 l0 a1 y121 true x29_3 (rd x5_3 x29_3) (x5_2.length : Int) x29_3 l0 (l0.length : Int) (wrap64 (x38_4 + 1))) = some r := by first | (rw [hy121]; with_reducible first | exact H | exact bs H) | (with_reducible first | exact bs H | exact H) | (rw [hy121]; exact H) | exact H
             have Ny121 := am hy121
             clear hy121
             have H' := am H
             clear H
             obtain ⟨⟨ad117, e117, hx117_0⟩, p117, q117⟩ := pq (Kd.at_int HR0.out x38_4)
             cases e117
             replace hx117_0 := hw HB hx117_0
             obtain ⟨⟨ad118, e118, hx118_0⟩, p118, q118⟩ := pq (Kd.at_int (Kd.R_reads' HO_5.out).2.2 (ji27))
             obtain rfl : (⟨go15, 0, none⟩ : Addr) = ad118 := (by injection e118)
             (first | simp only [add_plain] at hx118_0 | simp only [add_at] at hx118_0 | simp only [Addr.add, Nat.zero_add] at hx118_0 | skip)
             obtain ⟨⟨ad120, e120, hx120_0⟩, p120, q120⟩ := pq (Kd.at_int (Kd.R_reads' HO_5.out).2.2 (ji27))
             obtain rfl : (⟨go15, 0, none⟩ : Addr) = ad120 := (by injection e120)
             (first | simp only [add_plain] at hx120_0 | simp only [add_at] at hx120_0 | simp only [Addr.add, Nat.zero_add] at hx120_0 | skip)
             have p35 : 0 ≤ ((ji27) : Int) := od
             have q35 : ((ji27) : Int) < ((x5_4.length : Int) : Int) := od
             obtain ⟨hx35_0, hf35_0⟩ := Kd.R_celln 0 HO_5.out ((ji27) : Int) p35 q35
             replace p35 := eq_true p35
             replace q35 := eq_true q35
             have HP36 := Kd.R_putg HO_5.out ((ji27) : Int) (wrap64 ((rd x5_3 x29_3) + (rd l0 x38_4)))
             go_wp2_with (first | ((with_reducible refine gate_store (t := 3) (p := 67) rfl ?_); refine store_event (t := 3) (p := 67) (v := ?vo_w37) (w1 := (wr.setCell ⟨go15, ((ji27) : Int).toNat, none⟩ (.int .i64 (wrap64 ((rd x5_3 x29_3) + (rd l0 x38_4)))))) ?hg ?ho ?hn ?hr ?_; (case ho => rfl); (case hg => rfl); (case hn => rfl); (case hr => first | (go_simp; done) | (go_simp; rfl)); intro w37 hw; have hg : wr.grownBy w37 (some go15) := (by rw [hw]; exact HP36.2); have hp_ : Kd.R (Kd.int .i64) 3 w37 w.heap.size (fun _ => True) (.slice (some ⟨go15, 0, none⟩) x5_4.length co7) y121 := (by rw [hw, Ny121.out]; exact HP36.1); clear HP36; replace HO_5 := am (hp_); replace HB := am ((by rw [hw]; exact below_set (HB.out) GB15.out : Below w.heap.size w w37)); clear hg hw hp_))
             (try simp only [← hl5_4])
             go_roundg k4
             case measure => have := HK1.out; have := HK2.out; have := HK3.out; have := HK4.out; omega
             case rel => exact ⟨(y121), (true), (wrap64 (x38_4 + 1)), rr, rr, H', ⟨by have := HK1.out; have := HK2.out; have := HK3.out; have := HK4.out; omega⟩, ⟨by (try simp only [hl5_1]); (try simp only [hl5_2]); (try simp only [hl5_3]); (try simp only [hl5_4]); (with_reducible repeat (first | apply Kd.R_alloc | apply Kd.R_drewN | apply Kd.R_drew)); exact HO_5.out⟩, ⟨bw⟩⟩
            have H' := am H
            clear H
            obtain ⟨⟨ad117, e117, hx117_0⟩, p117, q117⟩ := pq (Kd.at_int HR0.out x38_4)
            cases e117
            replace hx117_0 := hw HB hx117_0
            obtain ⟨⟨ad118, e118, hx118_0⟩, p118, q118⟩ := pq (Kd.at_int (Kd.R_reads' HO_5.out).2.2 (ji27))
            obtain rfl : (⟨go15, 0, none⟩ : Addr) = ad118 := (by injection e118)
            (first | simp only [add_plain] at hx118_0 | simp only [add_at] at hx118_0 | simp only [Addr.add, Nat.zero_add] at hx118_0 | skip)
            obtain ⟨⟨ad120, e120, hx120_0⟩, p120, q120⟩ := pq (Kd.at_int (Kd.R_reads' HO_5.out).2.2 (ji27))
            obtain rfl : (⟨go15, 0, none⟩ : Addr) = ad120 := (by injection e120)
            (first | simp only [add_plain] at hx120_0 | simp only [add_at] at hx120_0 | simp only [Addr.add, Nat.zero_add] at hx120_0 | skip)
            go_wp2
            (try simp only [← hl5_4])
            go_roundg k4
            case measure => have := HK1.out; have := HK2.out; have := HK3.out; have := HK4.out; omega
            case rel => exact ⟨(x5_4), (x7_4), (wrap64 (x38_4 + 1)), rr, rr, H', ⟨by have := HK1.out; have := HK2.out; have := HK3.out; have := HK4.out; omega⟩, ⟨by (try simp only [hl5_1]); (try simp only [hl5_2]); (try simp only [hl5_3]); (try simp only [hl5_4]); (with_reducible repeat (first | apply Kd.R_alloc | apply Kd.R_drewN | apply Kd.R_drew)); exact HO_5.out⟩, ⟨bw⟩⟩
           have H' := am H
           clear H
           go_wp2
           (try simp only [← hl5_3, ← hl5_4])
           go_roundg k4
           case measure => have := HK1.out; have := HK2.out; have := HK3.out; have := HK4.out; omega
           case rel => exact ⟨(x5_4), (x7_4), (wrap64 (x29_3 + 1)), rr, rr, H', ⟨by have := HK1.out; have := HK2.out; have := HK3.out; have := HK4.out; omega⟩, ⟨by (try simp only [hl5_1]); (try simp only [hl5_2]); (try simp only [hl5_3]); (try simp only [hl5_4]); (with_reducible repeat (first | apply Kd.R_alloc | apply Kd.R_drewN | apply Kd.R_drew)); exact HO_5.out⟩, ⟨bw⟩⟩
        rw [if_neg c19] at H
        have c19b0 : decide (x29_3 < (x5_2.length : Int)) = false := decide_eq_false c19
        (try simp only [hl5_1, hl5_2, hl5_3] at c19b0)
        clear c19
        have H' := am H
        clear H
        go_wp2
        (try simp only [← hl5_2, ← hl5_3])
        go_roundg k3
        case measure => have := HK1.out; have := HK2.out; have := HK3.out; omega
        case rel => exact ⟨(x5_3), (x7_3), rr, H', ⟨by have := HK1.out; have := HK2.out; have := HK3.out; omega⟩, ⟨by (try simp only [hl5_1]); (try simp only [hl5_2]); (try simp only [hl5_3]); (with_reducible repeat (first | apply Kd.R_alloc | apply Kd.R_drewN | apply Kd.R_drew)); exact HO_5.out⟩, ⟨bw⟩⟩
     obtain rfl := Option.some.inj H
     go_wp2
     go_ret
     exact ⟨_, re, ro HO_5.out, bw⟩


/-! ### impl_usable: function 78 -/
def impl_usable.f (k : Nat) (l0 : List Int) : Option (Bool) := (impl_within.f (l0.length : Int) 1 20).bind fun t122 => (if t122 = true then ((impl_allWithin.f k l0 1 60).bind fun t123 => (some t123)) else (some false))
theorem impl_usable.calls (k : Nat) (A0 : Option Addr) (c0 : Nat) (l0 : List Int) (r : Bool) (w : World) (hr0 : Kd.C (Kd.int .i64) w A0 l0.length l0) (hc0 : l0.length ≤ c0) (h : impl_usable.f k l0 = some r) :
  Calls Try.prog 78 #[.slice A0 l0.length c0] w fun e w' => e = .returned (.bool r) ∧ Drawn0 w w' := by
 have HR0 := am hr0
 have HC0 := am hc0
 clear hr0 hc0
 unfold impl_usable.f at h
 have H := h
 clear h
 replace H := ga H; obtain ⟨t122, A2, H⟩ := H
 replace H := gb H; obtain ⟨rfl, H⟩ | ⟨rfl, H⟩ := H
 ·replace H := ga H; obtain ⟨t123, A4, H⟩ := H
  obtain rfl := Option.some.inj H
  go_enter Try.func78, Try.ntmps78
  go_wp2_with (first | ((with_reducible refine gate_callee (f := 54) rfl ?_); refine gl (some 5) Try.func54 #[.int .i64 (l0.length : Int), .int .i64 1, .int .i64 20] ?_; (with_reducible refine (impl_within.calls (l0.length : Int) 1 20 true _ A2.out).mono ?_); rintro e w' ⟨rfl, ⟨nd, rfl⟩⟩; refine ⟨_, rfl, ?_⟩) | (go_at_call 55; (with_reducible refine (impl_allWithin.calls k _ _ l0 1 60 t123 _ ?side1 ?side2 A4.out).mono ?_); (case side1 => exact co HR0.out); (case side2 => exact HC0.out); rintro e w' ⟨rfl, ⟨nd, rfl⟩⟩))
  go_ret
  exact ⟨rr, dw⟩
 obtain rfl := Option.some.inj H
 go_enter Try.func78, Try.ntmps78
 go_wp2_with (first | ((with_reducible refine gate_callee (f := 54) rfl ?_); refine gl (some 5) Try.func54 #[.int .i64 (l0.length : Int), .int .i64 1, .int .i64 20] ?_; (with_reducible refine (impl_within.calls (l0.length : Int) 1 20 false _ A2.out).mono ?_); rintro e w' ⟨rfl, ⟨nd, rfl⟩⟩; refine ⟨_, rfl, ?_⟩))
 go_ret
 exact ⟨rr, dw⟩


/-! ### impl_Generates: function 58 -/
def impl_Generates.f (k : Nat) (l0 : List Int) (a1 : Int) : Option (Bool) := (impl_usable.f k l0).bind fun t124 => (if t124 = true then ((impl_within.f a1 0 1000000).bind fun t125 => (if t125 = true then (if 0 < (l0.length : Int) then ((impl_leasts.f k l0 (rd l0 0)).bind fun t127 => (if (rd l0 0) = 0 then (none) else (if 0 ≤ (Int.tmod a1 (rd l0 0)) then (if (Int.tmod a1 (rd l0 0)) < (t127.length : Int) then (if (rd t127 (Int.tmod a1 (rd l0 0))) ≥ 0 then (some (decide ((rd t127 (Int.tmod a1 (rd l0 0))) ≤ a1))) else (some false)) else (none)) else (none)))) else (none)) else (some false))) else (some false))
def impl_Generates.T3 : Bool × List (List Nat × List Nat) := (true, [([], []), ([], []), ([1], [1]), ([2], [2]), ([0, 3], [0, 3]), ([], []), ([], []), ([6], [6]), ([7], [7]), ([5, 8], [5, 8]), ([4, 9], [4, 9]), ([10], [10]), ([11, 4, 0, 1, 2, 3, 4, 5, 6, 7, 8, 9, 10, 11], [11])])
def impl_Generates.B3 : List Nat := [0, 0, 2, 6, 15, 0, 0, 64, 192, 480, 1023, 2047, 4095]
theorem impl_Generates.tab3 : rtab .any (opsOf Try.f58 3) = impl_Generates.T3 := by kernel_rfl
theorem impl_Generates.bits3 : waitsOk impl_Generates.T3.2 impl_Generates.B3 = true := by kernel_rfl
theorem impl_Generates.calls (k : Nat) (A0 : Option Addr) (c0 : Nat) (l0 : List Int) (a1 : Int) (r : Bool) (w : World) (hr0 : Kd.C (Kd.int .i64) w A0 l0.length l0) (hc0 : l0.length ≤ c0) (h : impl_Generates.f k l0 a1 = some r) :
  Calls Try.prog 58 #[.slice A0 l0.length c0, .int .i64 a1] w fun e w' => e = .returned (.bool r) ∧ Below w.heap.size w w' := by
 have HR0 := am hr0
 have HC0 := am hc0
 clear hr0 hc0
 have HB := am (Below.refl w.heap.size w)
 unfold impl_Generates.f at h
 have H := h
 clear h
 replace H := ga H; obtain ⟨t124, A3, H⟩ := H
 replace H := gb H; obtain ⟨rfl, H⟩ | ⟨rfl, H⟩ := H
 ·replace H := ga H; obtain ⟨t125, A5, H⟩ := H
  replace H := gb H; obtain ⟨rfl, H⟩ | ⟨rfl, H⟩ := H
  ·replace H := gp H; obtain ⟨c7, H⟩ := H
   have c7b0 : decide (0 < (l0.length : Int)) = true := decide_eq_true c7
   have c7b1 : decide (0 < l0.length) = true := decide_eq_true (by omega)
   clear c7
   replace H := ga H; obtain ⟨t127, A8, H⟩ := H
   by_cases c9 : (rd l0 0) = 0
   ·rw [if_pos c9] at H
    exact absurd H (by simp)
   rw [if_neg c9] at H
   have c9b0 : ((rd l0 0) == 0) = false := beq_eq_false_iff_ne.mpr c9
   have c9b1 : ((rd l0 0) != 0) = true := bne_iff_ne.mpr c9
   obtain ⟨ji10, hji10⟩ : ∃ j_ : Int, (Int.tmod a1 (rd l0 0)) = j_ := ⟨_, rfl⟩
   replace H : (if 0 ≤ (ji10) then (if (ji10) < (t127.length : Int) then (if (rd t127 (ji10)) ≥ 0 then (some (decide ((rd t127 (ji10)) ≤ a1))) else (some false)) else (none)) else (none)) = some r := by first | (rw [hji10] at H; exact H) | (simp only [hji10] at H ⊢; exact H)
   (try rw [hji10] at A3)
   (try rw [hji10] at A5)
   (try rw [hji10] at A8)
   replace H := gd H; obtain ⟨c11b0, H⟩ := H
   replace H := gd H; obtain ⟨c12b0, H⟩ := H
   replace H := gj H; obtain ⟨c13, H⟩ | ⟨c13, H⟩ := H
   ·have c13b0 : decide (0 ≤ (rd t127 (ji10))) = true := decide_eq_true c13
    clear c13
    obtain rfl := Option.some.inj H
    go_enter Try.func58, Try.ntmps58
    try go_wp2_with (first | ((with_reducible refine gate_callee (f := 78) rfl ?_); refine gl (some 7) Try.func78 #[.slice A0 l0.length c0] ?_; (with_reducible refine (impl_usable.calls k _ _ l0 true _ ?side1 ?side2 A3.out).mono ?_); (case side1 => exact co HR0.out); (case side2 => exact HC0.out); rintro e w' ⟨rfl, ⟨nda, rfl⟩⟩; refine ⟨_, rfl, ?_⟩) | (go_at_call 54; (with_reducible refine (impl_within.calls a1 0 1000000 true _ A5.out).mono ?_); rintro e w' ⟨rfl, ⟨ndb, rfl⟩⟩))
    replace HB := am (below_drew1 (pw_below_drewN HB.out (nda + ndb)))
    have p126 : 0 ≤ (0 : Int) := (by omega)
    have q126 : 0 < (l0.length : Int) := od
    obtain ⟨ad126, e126, hx126_0⟩ := Kd.at_int HR0.out 0 p126 q126
    have hw126_0 := hx126_0
    (try rw [show ((0 : Int)).toNat = 0 from rfl] at hw126_0)
    (try rw [show 0 * 1 = 0 from rfl] at hw126_0)
    (try rw [Addr.add_zero'] at hw126_0)
    cases e126
    have qi126 : (0 < l0.length) = True := eq_true (by omega)
    (try rw [show ((0 : Int)).toNat = 0 from rfl] at hx126_0)
    (try rw [Addr.add_zero'] at hx126_0)
    replace hx126_0 := hw HB hx126_0
    replace p126 := eq_true p126
    replace q126 := eq_true q126
    have p130 : 0 ≤ (0 : Int) := (by omega)
    have q130 : 0 < (l0.length : Int) := od
    obtain ⟨ad130, e130, hx130_0⟩ := Kd.at_int HR0.out 0 p130 q130
    have hw130_0 := hx130_0
    (try rw [show ((0 : Int)).toNat = 0 from rfl] at hw130_0)
    (try rw [show 0 * 1 = 0 from rfl] at hw130_0)
    (try rw [Addr.add_zero'] at hw130_0)
    obtain rfl : ad126 = ad130 := (by injection e130)
    have qi130 : (0 < l0.length) = True := eq_true (by omega)
    (try rw [show ((0 : Int)).toNat = 0 from rfl] at hx130_0)
    (try rw [Addr.add_zero'] at hx130_0)
    replace hx130_0 := hw HB hx130_0
    replace p130 := eq_true p130
    replace q130 := eq_true q130
    refine start_ (n := 13) (S := fun w' => w'.cell? ad126 = some (.int .i64 (rd l0 0)) ∧ w'.cell? ad126 = some (.int .i64 (rd l0 0))) (ds := []) (yz 13 0) (by kernel_rfl) rfl rfl ⟨((HB.out.cell (World.block_lt_of_cell? w _ hw126_0)).trans hw126_0), ((HB.out.cell (World.block_lt_of_cell? w _ hw130_0)).trans hw130_0)⟩ (fun hHeld => ?_); refine with_tabW impl_Generates.tab3 impl_Generates.bits3 (fun HT_ HW_ => ?_)
    generalize (w.drewN (nda + ndb)).drew = w14 at HB hx126_0 hx130_0 hHeld ⊢
    refine pa 0 (some 14) (yz 13 1) HT_ ?_
    refine pa 1 (some 15) (yz 13 3) HT_ ?_
    refine pa 2 (some 16) (yz 13 7) HT_ ?_
    refine pa 5 (some 19) (yz 13 39) HT_ ?_
    refine pa 6 (some 20) (yz 13 103) HT_ ?_
    refine pa 7 (some 21) (yz 13 231) HT_ ?_
    refine tk 3 (some 17) (yz 13 239) HT_ HW_ hHeld ?_
    refine tk 8 (some 22) (yz 13 495) HT_ HW_ hHeld ?_
    refine pa 9 (some 23) (yz 13 1007) HT_ ?_
    refine oa 4 (some 18) (yz 13 1023) HT_ (fun K hK => ?_)
    refine gm Try.func59 #[.slice (some ad126) l0.length c0, .int .i64 (rd l0 0)] ?_
    with_reducible refine (impl_leasts.calls k _ _ l0 (rd l0 0) t127 _ ?side1 ?side2 A8.out).mono ?_
    (case side1 => exact co (Kd.C_below HR0.out HB.out))
    (case side2 => exact HC0.out)
    rintro e w15 ⟨v128, rfl, ho0, hb⟩
    refine ⟨_, rfl, ?_⟩
    have HO129 := am (Kd.R_lower ho0 (below_size bw))
    replace HB := am (below_step bw hb)
    clear hb ho0
    obtain ⟨Ao16, co16, eo16⟩ := Kd.R_slice HO129.out
    (first | subst eo16 | (injection eo16 with f1_ f2_ f3_; have f4_ := f1_.symm; have f5_ := f3_.symm; clear f1_ f2_ f3_; subst f4_; subst f5_))
    obtain ⟨⟨ad131, e131, hx131_0⟩, p131, q131⟩ := pq (Kd.at_int (Kd.R_reads' HO129.out).2.2 (ji10))
    cases e131
    refine hK.out _ _ ⟨((HB.out.cell (World.block_lt_of_cell? w _ hw126_0)).trans hw126_0), ((HB.out.cell (World.block_lt_of_cell? w _ hw130_0)).trans hw130_0)⟩ (fun hHeld => ?_)
    clear hK K
    refine nm (some 18) ?_
    refine pa 10 (some 24) (yz 13 2047) HT_ ?_
    refine oa 11 (some 25) (yz 13 4095) HT_ (fun K hK => ?_)
    refine value_ (w1 := ?_) (v := ?_) (by rfl) rfl ?_ ?_
    rotate_left 2
    ·go_simp
     constructor
     ·rfl
     rfl
    refine hK.out _ _ hHeld (fun hHeld => ?_)
    clear hK K
    refine nm (some 25) ?_
    refine pa 12 (some 5) (yz 13 8191) HT_ ?_
    refine done_ (done_of HT_.out (by kernel_rfl)) ?_
    try go_wp2
    go_ret
    exact ⟨by first | rfl | (simp [errW_none, errW_some] <;> rfl) | (simp only [← hji10]; first | rfl | (simp [errW_none, errW_some] <;> rfl)) | (simp [*, errW_none, errW_some] <;> rfl), bw⟩
   have c13b0 : decide (0 ≤ (rd t127 (ji10))) = false := decide_eq_false c13
   clear c13
   obtain rfl := Option.some.inj H
   go_enter Try.func58, Try.ntmps58
   try go_wp2_with (first | ((with_reducible refine gate_callee (f := 78) rfl ?_); refine gl (some 7) Try.func78 #[.slice A0 l0.length c0] ?_; (with_reducible refine (impl_usable.calls k _ _ l0 true _ ?side1 ?side2 A3.out).mono ?_); (case side1 => exact co HR0.out); (case side2 => exact HC0.out); rintro e w' ⟨rfl, ⟨nda, rfl⟩⟩; refine ⟨_, rfl, ?_⟩) | (go_at_call 54; (with_reducible refine (impl_within.calls a1 0 1000000 true _ A5.out).mono ?_); rintro e w' ⟨rfl, ⟨ndb, rfl⟩⟩))
   replace HB := am (below_drew1 (pw_below_drewN HB.out (nda + ndb)))
   have p126 : 0 ≤ (0 : Int) := (by omega)
   have q126 : 0 < (l0.length : Int) := od
   obtain ⟨ad126, e126, hx126_0⟩ := Kd.at_int HR0.out 0 p126 q126
   have hw126_0 := hx126_0
   (try rw [show ((0 : Int)).toNat = 0 from rfl] at hw126_0)
   (try rw [show 0 * 1 = 0 from rfl] at hw126_0)
   (try rw [Addr.add_zero'] at hw126_0)
   cases e126
   have qi126 : (0 < l0.length) = True := eq_true (by omega)
   (try rw [show ((0 : Int)).toNat = 0 from rfl] at hx126_0)
   (try rw [Addr.add_zero'] at hx126_0)
   replace hx126_0 := hw HB hx126_0
   replace p126 := eq_true p126
   replace q126 := eq_true q126
   have p130 : 0 ≤ (0 : Int) := (by omega)
   have q130 : 0 < (l0.length : Int) := od
   obtain ⟨ad130, e130, hx130_0⟩ := Kd.at_int HR0.out 0 p130 q130
   have hw130_0 := hx130_0
   (try rw [show ((0 : Int)).toNat = 0 from rfl] at hw130_0)
   (try rw [show 0 * 1 = 0 from rfl] at hw130_0)
   (try rw [Addr.add_zero'] at hw130_0)
   obtain rfl : ad126 = ad130 := (by injection e130)
   have qi130 : (0 < l0.length) = True := eq_true (by omega)
   (try rw [show ((0 : Int)).toNat = 0 from rfl] at hx130_0)
   (try rw [Addr.add_zero'] at hx130_0)
   replace hx130_0 := hw HB hx130_0
   replace p130 := eq_true p130
   replace q130 := eq_true q130
   refine start_ (n := 13) (S := fun w' => w'.cell? ad126 = some (.int .i64 (rd l0 0)) ∧ w'.cell? ad126 = some (.int .i64 (rd l0 0))) (ds := []) (yz 13 0) (by kernel_rfl) rfl rfl ⟨((HB.out.cell (World.block_lt_of_cell? w _ hw126_0)).trans hw126_0), ((HB.out.cell (World.block_lt_of_cell? w _ hw130_0)).trans hw130_0)⟩ (fun hHeld => ?_); refine with_tabW impl_Generates.tab3 impl_Generates.bits3 (fun HT_ HW_ => ?_)
   generalize (w.drewN (nda + ndb)).drew = w17 at HB hx126_0 hx130_0 hHeld ⊢
   refine pa 0 (some 14) (yz 13 1) HT_ ?_
   refine pa 1 (some 15) (yz 13 3) HT_ ?_
   refine pa 2 (some 16) (yz 13 7) HT_ ?_
   refine pa 5 (some 19) (yz 13 39) HT_ ?_
   refine pa 6 (some 20) (yz 13 103) HT_ ?_
   refine pa 7 (some 21) (yz 13 231) HT_ ?_
   refine tk 3 (some 17) (yz 13 239) HT_ HW_ hHeld ?_
   refine tk 8 (some 22) (yz 13 495) HT_ HW_ hHeld ?_
   refine pa 9 (some 23) (yz 13 1007) HT_ ?_
   refine oa 4 (some 18) (yz 13 1023) HT_ (fun K hK => ?_)
   refine gm Try.func59 #[.slice (some ad126) l0.length c0, .int .i64 (rd l0 0)] ?_
   with_reducible refine (impl_leasts.calls k _ _ l0 (rd l0 0) t127 _ ?side1 ?side2 A8.out).mono ?_
   (case side1 => exact co (Kd.C_below HR0.out HB.out))
   (case side2 => exact HC0.out)
   rintro e w18 ⟨v128, rfl, ho0, hb⟩
   refine ⟨_, rfl, ?_⟩
   have HO129 := am (Kd.R_lower ho0 (below_size bw))
   replace HB := am (below_step bw hb)
   clear hb ho0
   obtain ⟨Ao19, co19, eo19⟩ := Kd.R_slice HO129.out
   (first | subst eo19 | (injection eo19 with f1_ f2_ f3_; have f4_ := f1_.symm; have f5_ := f3_.symm; clear f1_ f2_ f3_; subst f4_; subst f5_))
   obtain ⟨⟨ad131, e131, hx131_0⟩, p131, q131⟩ := pq (Kd.at_int (Kd.R_reads' HO129.out).2.2 (ji10))
   cases e131
   refine hK.out _ _ ⟨((HB.out.cell (World.block_lt_of_cell? w _ hw126_0)).trans hw126_0), ((HB.out.cell (World.block_lt_of_cell? w _ hw130_0)).trans hw130_0)⟩ (fun hHeld => ?_)
   clear hK K
   refine nm (some 18) ?_
   refine pa 10 (some 24) (yz 13 2047) HT_ ?_
   refine oa 11 (some 25) (yz 13 4095) HT_ (fun K hK => ?_)
   refine value_ (w1 := ?_) (v := ?_) (by rfl) rfl ?_ ?_
   rotate_left 2
   ·go_simp
    constructor
    ·rfl
    rfl
   refine hK.out _ _ hHeld (fun hHeld => ?_)
   clear hK K
   refine nm (some 25) ?_
   refine pa 12 (some 5) (yz 13 8191) HT_ ?_
   refine done_ (done_of HT_.out (by kernel_rfl)) ?_
   try go_wp2
   go_ret
   exact ⟨by first | rfl | (simp [errW_none, errW_some] <;> rfl) | (simp only [← hji10]; first | rfl | (simp [errW_none, errW_some] <;> rfl)) | (simp [*, errW_none, errW_some] <;> rfl), bw⟩
  obtain rfl := Option.some.inj H
  go_enter Try.func58, Try.ntmps58
  go_wp2_with (first | ((with_reducible refine gate_callee (f := 78) rfl ?_); refine gl (some 7) Try.func78 #[.slice A0 l0.length c0] ?_; (with_reducible refine (impl_usable.calls k _ _ l0 true _ ?side1 ?side2 A3.out).mono ?_); (case side1 => exact co HR0.out); (case side2 => exact HC0.out); rintro e w' ⟨rfl, ⟨nd, rfl⟩⟩; refine ⟨_, rfl, ?_⟩) | (go_at_call 54; (with_reducible refine (impl_within.calls a1 0 1000000 false _ A5.out).mono ?_); rintro e w' ⟨rfl, ⟨nd, rfl⟩⟩))
  go_ret
  exact ⟨re, bw⟩
 obtain rfl := Option.some.inj H
 go_enter Try.func58, Try.ntmps58
 go_wp2_with (first | ((with_reducible refine gate_callee (f := 78) rfl ?_); refine gl (some 7) Try.func78 #[.slice A0 l0.length c0] ?_; (with_reducible refine (impl_usable.calls k _ _ l0 false _ ?side1 ?side2 A3.out).mono ?_); (case side1 => exact co HR0.out); (case side2 => exact HC0.out); rintro e w' ⟨rfl, ⟨nd, rfl⟩⟩; refine ⟨_, rfl, ?_⟩))
 go_ret
 exact ⟨re, bw⟩


/-! ### impl_IsSemigroup: function 27 -/
mutual
def impl_IsSemigroup.j0 : Nat → List Int → Bool → Option (Bool)
 | 0, _, _ => none
 | k + 1, x3, x27 => if x27 = true then (some false) else (impl_IsSemigroup.l0 k x3 1)
def impl_IsSemigroup.l0 : Nat → List Int → Int → Option (Bool)
 | 0, _, _ => none
 | k + 1, x3, x4 => if x4 < (x3.length : Int) then (if 0 ≤ x4 then (if x4 ≤ (x3.length : Int) then ((impl_Generates.f k (x3.take (x4 : Int).toNat) (rd x3 x4)).bind fun t139 => (if t139 = true then (some false) else (impl_IsSemigroup.l0 k x3 (wrap64 (x4 + 1))))) else (none)) else (none)) else (if 0 < (x3.length : Int) then ((impl_leasts.f k x3 (rd x3 0)).bind fun t141 => (impl_IsSemigroup.l1 k x3 t141 (t141.length : Int) 0)) else (none))
def impl_IsSemigroup.l1 : Nat → List Int → List Int → Int → Int → Option (Bool)
 | 0, _, _, _, _ => none
 | k + 1, x3, x46, x47, x48 => if x48 < x47 then (if 0 ≤ x48 then (if x48 < (x46.length : Int) then (if 0 < (x3.length : Int) then (if (wrap64 ((rd x46 x48) - (rd x3 0))) ≥ 200 then (some false) else (impl_IsSemigroup.l1 k x3 x46 x47 (wrap64 (x48 + 1)))) else (none)) else (none)) else (none)) else (some true)
end
def impl_IsSemigroup.f (k : Nat) (l0_0 : List Int) : Option (Bool) := (impl_within.f (l0_0.length : Int) 1 12).bind fun t133 => (if t133 = true then ((impl_allWithin.f k l0_0 1 60).bind fun t134 => (if t134 = true then ((impl_IsAscending.f k l0_0).bind fun t135 => (if t135 = true then ((impl_GcdOfList.f k l0_0).bind fun t136 => (impl_IsSemigroup.j0 k l0_0 (t136 != 1))) else (impl_IsSemigroup.j0 k l0_0 true))) else (impl_IsSemigroup.j0 k l0_0 true))) else (impl_IsSemigroup.j0 k l0_0 true))
def impl_IsSemigroup.T7 : Bool × List (List Nat × List Nat) := (true, [([], []), ([], []), ([0, 1], [0, 1]), ([], []), ([], []), ([3, 4], [3, 4]), ([5], [5]), ([2, 6], [2, 6])])
def impl_IsSemigroup.B7 : List Nat := [0, 0, 3, 0, 0, 24, 56, 127]
theorem impl_IsSemigroup.tab7 : rtab .any (opsOf Try.f27 7) = impl_IsSemigroup.T7 := by kernel_rfl
theorem impl_IsSemigroup.bits7 : waitsOk impl_IsSemigroup.T7.2 impl_IsSemigroup.B7 = true := by kernel_rfl
theorem impl_IsSemigroup.calls (k : Nat) (A0_0 : Option Addr) (c0_0 : Nat) (l0_0 : List Int) (r : Bool) (w : World) (hr0_0 : Kd.C (Kd.int .i64) w A0_0 l0_0.length l0_0) (hc0_0 : l0_0.length ≤ c0_0) (h : impl_IsSemigroup.f k l0_0 = some r) :
  Calls Try.prog 27 #[.agg #[.slice A0_0 l0_0.length c0_0]] w fun e w' => e = .returned (.bool r) ∧ Below w.heap.size w w' := by
 have hu26 := Try.underlying26
 have HR0_0 := am hr0_0
 have HC0_0 := am hc0_0
 clear hr0_0 hc0_0
 have HB := am (Below.refl w.heap.size w)
 unfold impl_IsSemigroup.f at h
 have H := h
 clear h
 have HC2 := am H
 clear H
 go_enter Try.func27, Try.ntmps27
 go_upto_region 2 with (first | ((with_reducible refine gate_dst (N := 1) rfl ?_); refine bx 1 #[.slice A0_0 l0_0.length c0_0] 26 ?_; intro gb132 hg w3 hbox hb; have BK132 := am (hbox); have GW132 := am (gs hg : w.heap.size ≤ gb132); have GE132 := GW132; replace HB := am (below_step bw hb); clear hb hbox hg; have hcz4_0 := bc BK132 0 (.slice A0_0 l0_0.length c0_0); have hfz4_0 := blk_frozen BK132.out 0))
 (try simp only [Act.put, List.setIfInBounds_toArray, List.set_cons_zero, List.set_cons_succ])
 go_cut [27] (fun v27 wc => ∃ (kq : Nat) (x27_1 : Bool), v27 = .bool x27_1 ∧ Aside0 (impl_IsSemigroup.j0 kq l0_0 x27_1 = some r) ∧ Aside0 (kq ≤ k) ∧ Aside0 (wc.heap[gb132]? = some (.cells #[(.slice A0_0 l0_0.length c0_0)] 26 (0, 0))) ∧ Aside0 (Below w.heap.size w wc))
 case first =>
  have H := HC2.out
  clear HC2
  replace H := ga H; obtain ⟨t133, A5, H⟩ := H
  replace H := gb H; obtain ⟨rfl, H⟩ | ⟨rfl, H⟩ := H
  ·replace H := ga H; obtain ⟨t134, A7, H⟩ := H
   replace H := gb H; obtain ⟨rfl, H⟩ | ⟨rfl, H⟩ := H
   ·replace H := ga H; obtain ⟨t135, A9, H⟩ := H
    replace H := gb H; obtain ⟨rfl, H⟩ | ⟨rfl, H⟩ := H
    ·replace H := ga H; obtain ⟨t136, A11, H⟩ := H
     have H' := am H
     clear H
     go_wp2_with (first | ((with_reducible refine gate_callee (f := 54) rfl ?_); refine gl (some 11) Try.func54 #[.int .i64 (l0_0.length : Int), .int .i64 1, .int .i64 12] ?_; (with_reducible refine (impl_within.calls (l0_0.length : Int) 1 12 true _ A5.out).mono ?_); rintro e w' ⟨rfl, ⟨nd, rfl⟩⟩; refine ⟨_, rfl, ?_⟩) | (go_at_call 55; (with_reducible refine (impl_allWithin.calls k _ _ l0_0 1 60 true _ ?side1 ?side2 A7.out).mono ?_); (case side1 => exact co (Kd.C_below HR0_0.out bw)); (case side2 => exact HC0_0.out); rintro e w' ⟨rfl, ⟨nd, rfl⟩⟩) | (go_at_call 56; (with_reducible refine (impl_IsAscending.calls k _ _ l0_0 true _ ?side1 ?side2 A9.out).mono ?_); (case side1 => exact co (Kd.C_below HR0_0.out bw)); (case side2 => exact HC0_0.out); rintro e w' ⟨rfl, ⟨nd, rfl⟩⟩) | (go_at_call 57; (with_reducible refine (impl_GcdOfList.calls k _ _ l0_0 t136 _ ?side1 ?side2 A11.out).mono ?_); (case side1 => exact co (Kd.C_below HR0_0.out bw)); (case side2 => exact HC0_0.out); rintro e w12 ⟨rfl, hb⟩; replace BK132 := kb BK132 hb; replace HB := am (below_step bw hb); clear hb))
     go_meet
     case rel => exact ⟨_, ((t136 != 1)), rr, H', ⟨om⟩, ⟨bo BK132.out⟩, ⟨bw⟩⟩
    have H' := am H
    clear H
    go_wp2_with (first | ((with_reducible refine gate_callee (f := 54) rfl ?_); refine gl (some 11) Try.func54 #[.int .i64 (l0_0.length : Int), .int .i64 1, .int .i64 12] ?_; (with_reducible refine (impl_within.calls (l0_0.length : Int) 1 12 true _ A5.out).mono ?_); rintro e w' ⟨rfl, ⟨nd, rfl⟩⟩; refine ⟨_, rfl, ?_⟩) | (go_at_call 55; (with_reducible refine (impl_allWithin.calls k _ _ l0_0 1 60 true _ ?side1 ?side2 A7.out).mono ?_); (case side1 => exact co (Kd.C_below HR0_0.out bw)); (case side2 => exact HC0_0.out); rintro e w' ⟨rfl, ⟨nd, rfl⟩⟩) | (go_at_call 56; (with_reducible refine (impl_IsAscending.calls k _ _ l0_0 false _ ?side1 ?side2 A9.out).mono ?_); (case side1 => exact co (Kd.C_below HR0_0.out bw)); (case side2 => exact HC0_0.out); rintro e w' ⟨rfl, ⟨nd, rfl⟩⟩))
    go_meet
    case rel => exact ⟨_, (true), rr, H', ⟨om⟩, ⟨bo BK132.out⟩, ⟨bw⟩⟩
   have H' := am H
   clear H
   go_wp2_with (first | ((with_reducible refine gate_callee (f := 54) rfl ?_); refine gl (some 11) Try.func54 #[.int .i64 (l0_0.length : Int), .int .i64 1, .int .i64 12] ?_; (with_reducible refine (impl_within.calls (l0_0.length : Int) 1 12 true _ A5.out).mono ?_); rintro e w' ⟨rfl, ⟨nd, rfl⟩⟩; refine ⟨_, rfl, ?_⟩) | (go_at_call 55; (with_reducible refine (impl_allWithin.calls k _ _ l0_0 1 60 false _ ?side1 ?side2 A7.out).mono ?_); (case side1 => exact co (Kd.C_below HR0_0.out bw)); (case side2 => exact HC0_0.out); rintro e w' ⟨rfl, ⟨nd, rfl⟩⟩))
   go_meet
   case rel => exact ⟨_, (true), rr, H', ⟨om⟩, ⟨bo BK132.out⟩, ⟨bw⟩⟩
  have H' := am H
  clear H
  go_wp2_with (first | ((with_reducible refine gate_callee (f := 54) rfl ?_); refine gl (some 11) Try.func54 #[.int .i64 (l0_0.length : Int), .int .i64 1, .int .i64 12] ?_; (with_reducible refine (impl_within.calls (l0_0.length : Int) 1 12 false _ A5.out).mono ?_); rintro e w' ⟨rfl, ⟨nd, rfl⟩⟩; refine ⟨_, rfl, ?_⟩))
  go_meet
  case rel => exact ⟨_, (true), rr, H', ⟨om⟩, ⟨bo BK132.out⟩, ⟨bw⟩⟩
 case rest =>
  clear HC2
  try clear hcz4_0; try clear hfz4_0
  obtain ⟨kq, x27_1, rfl, HA, HJ1, BK132, HB⟩ := hcut
  cases kq with
  | zero => exact absurd HA.out (by simp [impl_IsSemigroup.j0])
  | succ kj1 =>
   have H := HA.out
   clear HA
   simp only [impl_IsSemigroup.j0] at H
   replace H := gb H; obtain ⟨rfl, H⟩ | ⟨rfl, H⟩ := H
   ·obtain rfl := Option.some.inj H
    go_wp2
    go_ret
    exact ⟨re, bw⟩
   have H' := am H
   clear H
   go_wp2
   go_loopg [4] kj1 (fun kq v4 w' => ∃ (x4_2 : Int), v4 = .int .i64 x4_2 ∧ Aside0 (impl_IsSemigroup.l0 kq l0_0 x4_2 = some r) ∧ Aside0 (kq ≤ kj1) ∧ Aside0 (w'.heap[gb132]? = some (.cells #[(.slice A0_0 l0_0.length c0_0)] 26 (0, 0))) ∧ Aside0 (Below w.heap.size w w'))
   case atStart => exact ⟨(1), rr, H', ⟨Nat.le_refl _⟩, ⟨bo BK132.out⟩, ⟨bw⟩⟩
   case round =>
    clear H'
    try clear hcz4_0; try clear hfz4_0
    obtain ⟨x4_2, rfl, HA, HK2, BK132, HB⟩ := hrel
    cases gk with
    | zero => exact absurd HA.out (by simp [impl_IsSemigroup.l0])
    | succ k2 =>
     have H := HA.out
     clear HA
     simp only [impl_IsSemigroup.l0] at H
     replace H := gi H; obtain ⟨c14b0, H⟩ | ⟨c14b0, H⟩ := H
     ·replace H := gp H; obtain ⟨c15, H⟩ := H
      have c15b0 := eq_true c15
      have c15b1 : decide (0 ≤ x4_2) = true := decide_eq_true c15
      clear c15
      replace H := gp H; obtain ⟨c16, H⟩ := H
      have c16b0 := eq_true c16
      have c16b1 : decide (x4_2 ≤ (l0_0.length : Int)) = true := decide_eq_true c16
      clear c16
      replace H := ga H; obtain ⟨t139, A17, H⟩ := H
      replace H := gb H; obtain ⟨rfl, H⟩ | ⟨rfl, H⟩ := H
      ·obtain rfl := Option.some.inj H
       try go_wp2
       replace BK132 := bd BK132
       replace HB := am (below_drew1 HB.out)
       obtain ⟨i020, hi020, _, hsz20, _⟩ := info_parts info3
       obtain ⟨hcut20, hA20, hC20⟩ := print_take_of (P := Try.prog) (Value.int .i64) 0 22 3 .i64 Try.underlying22 hi020 hsz20 A0_0 c0_0 l0_0 x4_2 (od) (od) HC0_0.out
       have HR137 := am (Kd.C_of_reads (h1 := fun _ => rfl) (hA20 _ (Kd.reads_of_C HR0_0.out)))
       have HC137 := am hC20
       clear hA20 hC20 hi020 hsz20
       obtain ⟨⟨ad138, e138, hx138_0⟩, p138, q138⟩ := pq (Kd.at_int HR0_0.out x4_2)
       have hw138_0 := hx138_0
       cases e138
       replace hx138_0 := hw HB hx138_0
       refine start_ (n := 8) (S := fun w' => w'.cell? (ad138.add (x4_2).toNat) = some (.int .i64 (rd l0_0 x4_2))) (ds := []) (yz 8 0) (by kernel_rfl) rfl rfl (((HB.out.cell (World.block_lt_of_cell? w _ hw138_0)).trans hw138_0)) (fun hHeld => ?_); refine with_tabW impl_IsSemigroup.tab7 impl_IsSemigroup.bits7 (fun HT_ HW_ => ?_)
       generalize wr.drew = w19 at BK132 HB HR137 hx138_0 hHeld ⊢
       refine pa 0 (some 34) (yz 8 1) HT_ ?_
       refine pa 1 (some 35) (yz 8 3) HT_ ?_
       refine pa 2 (some 36) (yz 8 7) HT_ ?_
       refine pa 3 (some 37) (yz 8 15) HT_ ?_
       refine pa 4 (some 38) (yz 8 31) HT_ ?_
       refine pa 5 (some 39) (yz 8 63) HT_ ?_
       refine tK 6 (some 40) (yz 8 127) HT_ HW_ hHeld ?_
       refine oa 7 (some 41) (yz 8 255) HT_ (fun K hK => ?_)
       refine goes_ Try.func58 (by kernel_rfl) rfl #[.slice (some ad138) (l0_0.take (x4_2 : Int).toNat).length c0_0, .int .i64 (rd l0_0 x4_2)] (by rfl) rfl rfl (by (try simp only [List.map_toArray, List.map_cons, List.map_nil]); first | done | (rw [show (l0_0.take (x4_2 : Int).toNat).length = x4_2.toNat from (by rw [List.length_take]; have h_ : (x4_2 : Int) ≤ (l0_0.length : Int) := od; omega)] <;> rfl) | rfl | (simp only [List.length_drop, List.length_take]; rfl)) ?_
       with_reducible refine (impl_Generates.calls k2 _ _ (l0_0.take (x4_2 : Int).toNat) (rd l0_0 x4_2) true _ ?side1 ?side2 A17.out).mono ?_
       (case side1 => exact co (Kd.C_below HR137.out HB.out))
       (case side2 => exact HC137.out)
       rintro e w21 ⟨rfl, hb⟩
       refine ⟨_, rfl, ?_⟩
       replace BK132 := kb BK132 hb
       replace HB := am (below_step bw hb)
       clear hb
       refine hK.out _ _ (((HB.out.cell (World.block_lt_of_cell? w _ hw138_0)).trans hw138_0)) (fun hHeld => ?_)
       clear hK K
       refine nm (some 41) ?_
       refine done_ (done_of HT_.out (by kernel_rfl)) ?_
       try go_wp2
       go_ret
       exact ⟨re, bw⟩
      have H' := am H
      clear H
      try go_wp2
      replace BK132 := bd BK132
      replace HB := am (below_drew1 HB.out)
      obtain ⟨i023, hi023, _, hsz23, _⟩ := info_parts info3
      obtain ⟨hcut23, hA23, hC23⟩ := print_take_of (P := Try.prog) (Value.int .i64) 0 22 3 .i64 Try.underlying22 hi023 hsz23 A0_0 c0_0 l0_0 x4_2 (od) (od) HC0_0.out
      have HR137 := am (Kd.C_of_reads (h1 := fun _ => rfl) (hA23 _ (Kd.reads_of_C HR0_0.out)))
      have HC137 := am hC23
      clear hA23 hC23 hi023 hsz23
      obtain ⟨⟨ad138, e138, hx138_0⟩, p138, q138⟩ := pq (Kd.at_int HR0_0.out x4_2)
      have hw138_0 := hx138_0
      cases e138
      replace hx138_0 := hw HB hx138_0
      refine start_ (n := 8) (S := fun w' => w'.cell? (ad138.add (x4_2).toNat) = some (.int .i64 (rd l0_0 x4_2))) (ds := []) (yz 8 0) (by kernel_rfl) rfl rfl (((HB.out.cell (World.block_lt_of_cell? w _ hw138_0)).trans hw138_0)) (fun hHeld => ?_); refine with_tabW impl_IsSemigroup.tab7 impl_IsSemigroup.bits7 (fun HT_ HW_ => ?_)
      generalize wr.drew = w22 at BK132 HB HR137 hx138_0 hHeld ⊢
      refine pa 0 (some 34) (yz 8 1) HT_ ?_
      refine pa 1 (some 35) (yz 8 3) HT_ ?_
      refine pa 2 (some 36) (yz 8 7) HT_ ?_
      refine pa 3 (some 37) (yz 8 15) HT_ ?_
      refine pa 4 (some 38) (yz 8 31) HT_ ?_
      refine pa 5 (some 39) (yz 8 63) HT_ ?_
      refine tK 6 (some 40) (yz 8 127) HT_ HW_ hHeld ?_
      refine oa 7 (some 41) (yz 8 255) HT_ (fun K hK => ?_)
      refine goes_ Try.func58 (by kernel_rfl) rfl #[.slice (some ad138) (l0_0.take (x4_2 : Int).toNat).length c0_0, .int .i64 (rd l0_0 x4_2)] (by rfl) rfl rfl (by (try simp only [List.map_toArray, List.map_cons, List.map_nil]); first | done | (rw [show (l0_0.take (x4_2 : Int).toNat).length = x4_2.toNat from (by rw [List.length_take]; have h_ : (x4_2 : Int) ≤ (l0_0.length : Int) := od; omega)] <;> rfl) | rfl | (simp only [List.length_drop, List.length_take]; rfl)) ?_
      with_reducible refine (impl_Generates.calls k2 _ _ (l0_0.take (x4_2 : Int).toNat) (rd l0_0 x4_2) false _ ?side1 ?side2 A17.out).mono ?_
      (case side1 => exact co (Kd.C_below HR137.out HB.out))
      (case side2 => exact HC137.out)
      rintro e w24 ⟨rfl, hb⟩
      refine ⟨_, rfl, ?_⟩
      replace BK132 := kb BK132 hb
      replace HB := am (below_step bw hb)
      clear hb
      refine hK.out _ _ (((HB.out.cell (World.block_lt_of_cell? w _ hw138_0)).trans hw138_0)) (fun hHeld => ?_)
      clear hK K
      refine nm (some 41) ?_
      refine done_ (done_of HT_.out (by kernel_rfl)) ?_
      try go_wp2
      go_roundg k2
      case measure => have := HJ1.out; have := HK2.out; omega
      case rel => exact ⟨(wrap64 (x4_2 + 1)), rr, H', ⟨by have := HJ1.out; have := HK2.out; omega⟩, ⟨bo BK132.out⟩, ⟨bw⟩⟩
     replace H := gp H; obtain ⟨c25, H⟩ := H
     have c25b0 : decide (0 < (l0_0.length : Int)) = true := decide_eq_true c25
     have c25b1 : decide (0 < l0_0.length) = true := decide_eq_true (by omega)
     clear c25
     replace H := ga H; obtain ⟨t141, A26, H⟩ := H
     have H' := am H
     clear H
     have p140 : 0 ≤ (0 : Int) := (by omega)
     have q140 : 0 < (l0_0.length : Int) := od
     obtain ⟨ad140, e140, hx140_0⟩ := Kd.at_int HR0_0.out 0 p140 q140
     cases e140
     have qi140 : (0 < l0_0.length) = True := eq_true (by omega)
     (try rw [show ((0 : Int)).toNat = 0 from rfl] at hx140_0)
     (try rw [Addr.add_zero'] at hx140_0)
     replace hx140_0 := hw HB hx140_0
     replace p140 := eq_true p140
     replace q140 := eq_true q140
     go_wp2_with (first | ((with_reducible refine gate_callee (f := 59) rfl ?_); refine gl (some 46) Try.func59 #[.slice (some ad140) l0_0.length c0_0, .int .i64 (rd l0_0 0)] ?_; (with_reducible refine (impl_leasts.calls k2 _ _ l0_0 (rd l0_0 0) t141 _ ?side1 ?side2 A26.out).mono ?_); (case side1 => exact co (Kd.C_below HR0_0.out HB.out)); (case side2 => exact HC0_0.out); rintro e w27 ⟨v142, rfl, ho0, hb⟩; refine ⟨_, rfl, ?_⟩; have HO143 := am (Kd.R_lower ho0 (below_size bw)); replace BK132 := kb BK132 hb; replace HB := am (below_step bw hb); clear hb ho0; obtain ⟨Ao28, co28, eo28⟩ := Kd.R_slice HO143.out; subst eo28))
     go_loopg [48] k2 (fun kq v48 w' => ∃ (x48_3 : Int), v48 = .int .i64 x48_3 ∧ Aside0 (impl_IsSemigroup.l1 kq l0_0 t141 (t141.length : Int) x48_3 = some r) ∧ Aside0 (kq ≤ k2) ∧ Aside0 (Kd.R (Kd.int .i64) 3 w' w.heap.size (fun _ => True) (.slice Ao28 t141.length co28) t141) ∧ Aside0 (w'.heap[gb132]? = some (.cells #[(.slice (some ad140) l0_0.length c0_0)] 26 (0, 0))) ∧ Aside0 (Below w.heap.size w w'))
     case atStart => exact ⟨(0), rr, H', ⟨Nat.le_refl _⟩, ⟨ro HO143.out⟩, ⟨bo BK132.out⟩, ⟨bw⟩⟩
     case round =>
      clear H'
      try clear c14b0; try clear c15; try clear c15b0; try clear c15b1; try clear c16; try clear c16b0; try clear c16b1; try clear c25; try clear c25b0; try clear c25b1; try clear hcz4_0; try clear hfz4_0; try clear hx138_0; try clear hx140_0; try clear p138; try clear p140; try clear q138; try clear q140
      obtain ⟨x48_3, rfl, HA, HK3, HO_46, BK132, HB⟩ := hrel
      cases gk with
      | zero => exact absurd HA.out (by simp [impl_IsSemigroup.l1])
      | succ k3 =>
       have H := HA.out
       clear HA
       simp only [impl_IsSemigroup.l1] at H
       replace H := gi H; obtain ⟨c29b0, H⟩ | ⟨c29b0, H⟩ := H
       ·replace H := gd H; obtain ⟨c30b0, H⟩ := H
        replace H := gd H; obtain ⟨c31b0, H⟩ := H
        replace H := gp H; obtain ⟨c32, H⟩ := H
        have c32b0 : decide (0 < (l0_0.length : Int)) = true := decide_eq_true c32
        have c32b1 : decide (0 < l0_0.length) = true := decide_eq_true (by omega)
        clear c32
        replace H := gj H; obtain ⟨c33, H⟩ | ⟨c33, H⟩ := H
        ·have c33b0 : decide (200 ≤ (wrap64 ((rd t141 x48_3) - (rd l0_0 0)))) = true := decide_eq_true c33
         clear c33
         obtain rfl := Option.some.inj H
         obtain ⟨⟨ad144, e144, hx144_0⟩, p144, q144⟩ := pq (Kd.at_int (Kd.R_reads' HO_46.out).2.2 x48_3)
         cases e144
         have p145 : 0 ≤ (0 : Int) := (by omega)
         have q145 : 0 < (l0_0.length : Int) := od
         obtain ⟨ad145, e145, hx145_0⟩ := Kd.at_int HR0_0.out 0 p145 q145
         obtain rfl : ad140 = ad145 := (by injection e145)
         have qi145 : (0 < l0_0.length) = True := eq_true (by omega)
         (try rw [show ((0 : Int)).toNat = 0 from rfl] at hx145_0)
         (try rw [Addr.add_zero'] at hx145_0)
         replace hx145_0 := hw HB hx145_0
         replace p145 := eq_true p145
         replace q145 := eq_true q145
         go_wp2
         go_ret
         exact ⟨re, bw⟩
        have c33b0 : decide (200 ≤ (wrap64 ((rd t141 x48_3) - (rd l0_0 0)))) = false := decide_eq_false c33
        clear c33
        have H' := am H
        clear H
        obtain ⟨⟨ad144, e144, hx144_0⟩, p144, q144⟩ := pq (Kd.at_int (Kd.R_reads' HO_46.out).2.2 x48_3)
        cases e144
        have p145 : 0 ≤ (0 : Int) := (by omega)
        have q145 : 0 < (l0_0.length : Int) := od
        obtain ⟨ad145, e145, hx145_0⟩ := Kd.at_int HR0_0.out 0 p145 q145
        obtain rfl : ad140 = ad145 := (by injection e145)
        have qi145 : (0 < l0_0.length) = True := eq_true (by omega)
        (try rw [show ((0 : Int)).toNat = 0 from rfl] at hx145_0)
        (try rw [Addr.add_zero'] at hx145_0)
        replace hx145_0 := hw HB hx145_0
        replace p145 := eq_true p145
        replace q145 := eq_true q145
        go_wp2
        go_roundg k3
        case measure => have := HJ1.out; have := HK2.out; have := HK3.out; omega
        case rel => exact ⟨(wrap64 (x48_3 + 1)), rr, H', ⟨by have := HJ1.out; have := HK2.out; have := HK3.out; omega⟩, ⟨ro HO_46.out⟩, ⟨bo BK132.out⟩, ⟨bw⟩⟩
       obtain rfl := Option.some.inj H
       go_wp2
       go_ret
       exact ⟨re, bw⟩

end Go.Proofs.Ytlhcpbpcdicleaa.C
