/- Contracts of functions of the program: slices_Clone_int_int, slices_IndexFunc_int_int, slices_ContainsFunc_int_int, impl_ReachedBy, laws_eqIntSS, laws_eqRelation, laws_eqRelationS, laws_markRelationS. -/
import Derived.Test.YtfpjjjdiieplkaaC0
import Derived.Test.YtfpjjjdiieplkaaC1
import Derived.Test.YtfpjjjdiieplkaaC2
namespace Go.Proofs.Ytfpjjjdiieplkaa.C
open Go.RowKit Go.Proofs.YtfpjjjdiieplkaaW.PrintWords Go.Proofs.YtfpjjjdiieplkaaW.PrintLast Go.Proofs.YtfpjjjdiieplkaaW.PrintMore
attribute [local go_sem] max2_int min2_int max_two min_two max_three min_three max_four min_four
set_option linter.unusedVariables false
set_option linter.unusedSimpArgs false

/-! ### slices_Clone_int_int: function 45 -/
def slices_Clone_int_int.f (l0 : List Int) : Option (List Int) := if l0.length < 17592186044416 then some l0 else none
theorem slices_Clone_int_int.calls (A0 : Option Addr) (c0 : Nat) (l0 : List Int) (r : List Int) (w : World) (hr0 : Kd.C (Kd.int .i64) w A0 l0.length l0) (hc0 : l0.length ≤ c0) (h : slices_Clone_int_int.f l0 = some r) :
  Calls Try.prog 45 #[.slice A0 l0.length c0] w fun e w' => ∃ v0_ : Value, e = .returned (v0_) ∧ Kd.R (Kd.int .i64) 3 w' w.heap.size (fun _ => True) v0_ r ∧ Below w.heap.size w w' := by
 unfold slices_Clone_int_int.f at h
 by_cases c : l0.length < 17592186044416
 rotate_left
 ·rw [if_neg c] at h
  cases h
 rw [if_pos c] at h
 obtain rfl := Option.some.inj h
 rcases Nat.eq_zero_or_pos l0.length with e0 | hp
 ·have e1 : l0 = [] := List.eq_nil_of_length_eq_zero e0
  subst e1
  cases A0 with
  | none =>
   refine (Try.slices_Clone_int_nil 0 c0 w).mono ?_
   rintro e w' ⟨rfl, rfl⟩
   exact ⟨_, rfl, Kd.R_nil .., Below.refl _ _⟩
  | some a =>
   refine (Try.slices_Clone_int_zero a c0 w).mono ?_
   rintro e w' ⟨v', rfl, ho, _, hb⟩
   exact ⟨_, rfl, Kd.R_of_own ho (fun _ _ => trivial), hb⟩
 ·obtain ⟨ad, rfl, hc⟩ := hr0.2.2 hp
  obtain ⟨b, off, sp⟩ := ad
  have hcell : ∀ j (hj : j < l0.length), w.cell? (Addr.add ⟨b, off, sp⟩ j) = some (.int .i64 l0[j]) := fun j hj => by
   obtain ⟨c, _, e2, h2⟩ := hc j l0[j] (List.getElem?_eq_getElem hj)
   have := h2 0 (.int .i64 l0[j]) (by rw [show c = [.int .i64 l0[j]] from e2]; rfl)
   rwa [show (Kd.int .i64).sz = 1 from rfl, Nat.mul_one, Nat.add_zero] at this
  have hsp : sp = none := by
   have h1 := hcell 0 hp
   rw [Addr.add, if_pos rfl] at h1
   cases sp with
   | none => rfl
   | some x =>
    unfold World.cell? at h1
    simp only [Option.isSome_some, if_true] at h1
    split at h1 <;> cases h1
  subst hsp
  refine (Try.slices_Clone_int b off l0.length c0 l0 w (Nat.le_refl _) (by omega) (fun j hj => ?_)).mono ?_
  ·have := hcell j hj
   rw [Addr.add] at this
   rw [List.getD_eq_getElem?_getD, List.getElem?_eq_getElem hj, Option.getD_some]
   split at this
   ·rename_i hz
    subst hz
    exact this
   ·exact this
  ·rintro e w' ⟨v', rfl, ho, _, hb⟩
   rw [List.take_length] at ho
   exact ⟨_, rfl, Kd.R_of_own ho (fun _ _ => trivial), hb⟩


/-! ### slices_IndexFunc_int_int: function 50 -/
def eqR.l0 : Nat → List Int → List Int → Int → Int → Option (Bool)
 | 0, _, _, _, _ => none
 | k + 1, x0, x1, x12, x13 => if x13 < x12 then (if 0 ≤ x13 then (if x13 < (x0.length : Int) then (if x13 < (x1.length : Int) then (if (rd x0 x13) = (rd x1 x13) then (eqR.l0 k x0 x1 x12 (wrap64 (x13 + 1))) else (some false)) else (none)) else (none)) else (none)) else (some true)
def eqR.f (k : Nat) (l0 : List Int) (l1 : List Int) : Option (Bool) := if (l0.length : Int) = (l1.length : Int) then (eqR.l0 k l0 l1 (l0.length : Int) 0) else (some false)
set_option maxHeartbeats 8000000 in
set_option maxRecDepth 100000 in
theorem eqR.calls (k : Nat) (A0 : Option Addr) (c0 : Nat) (l0 : List Int) (A1 : Option Addr) (c1 : Nat) (l1 : List Int) (r : Bool) (w : World) (hr0 : Kd.C (Kd.int .i64) w A0 l0.length l0) (hc0 : l0.length ≤ c0) (hr1 : Kd.C (Kd.int .i64) w A1 l1.length l1) (hc1 : l1.length ≤ c1) (h : eqR.f k l0 l1 = some r) :
  Calls Try.prog 48 #[.slice A0 l0.length c0, .slice A1 l1.length c1] w fun e w' => e = .returned (.bool r) ∧ Drawn0 w w' := by
 have HR0 := am hr0
 have HC0 := am hc0
 clear hr0 hc0
 have HR1 := am hr1
 have HC1 := am hc1
 clear hr1 hc1
 have H : (if (l0.length : Int) = (l1.length : Int) then (eqR.l0 k l0 l1 (l0.length : Int) 0) else (some false)) = some r := h
 clear h
 by_cases c3 : (l0.length : Int) = (l1.length : Int)
 ·rw [if_pos c3] at H
  have c3b0 : ((l0.length : Int) == (l1.length : Int)) = true := beq_iff_eq.mpr c3
  have c3b1 : ((l0.length : Int) != (l1.length : Int)) = false := bne_eq_false_iff_eq.mpr c3
  have c3b2 : (l0.length == l1.length) = true := by first | simpa using c3 | (simp at c3 ⊢; omega)
  clear c3
  have H' := am H
  clear H
  go_enter Try.func48, Try.ntmps48
  go_wp2
  repeat (go_quiet (fail); try go_wp2)
  go_loopg [13] k (fun kq v13 w' => ∃ (x13_1 : Int), v13 = .int .i64 x13_1 ∧ Aside0 (eqR.l0 kq l0 l1 (l0.length : Int) x13_1 = some r) ∧ Aside0 (kq ≤ k) ∧ Drawn0 w w')
  case atStart => exact ⟨(0), rr, H', ⟨Nat.le_refl _⟩, dw⟩
  case round =>
   clear H'
   try clear c1; try clear c3; try clear c3b0; try clear c3b1; try clear c3b2
   obtain ⟨x13_1, rfl, HA, HK1, ⟨m1, rfl⟩⟩ := hrel
   cases gk with
   | zero => exact absurd HA.out (by simp [eqR.l0])
   | succ k1 =>
    have H := HA.out
    clear HA
    simp only [eqR.l0] at H
    replace H := gi H; obtain ⟨c4b0, H⟩ | ⟨c4b0, H⟩ := H
    ·replace H := gd H; obtain ⟨c5b0, H⟩ := H
     replace H := gd H; obtain ⟨c6b0, H⟩ := H
     replace H := gd H; obtain ⟨c7b0, H⟩ := H
     by_cases c8 : (rd l0 x13_1) = (rd l1 x13_1)
     ·rw [if_pos c8] at H
      have c8b0 : ((rd l0 x13_1) == (rd l1 x13_1)) = true := beq_iff_eq.mpr c8
      have c8b1 : ((rd l0 x13_1) != (rd l1 x13_1)) = false := bne_eq_false_iff_eq.mpr c8
      clear c8
      have H' := am H
      clear H
      obtain ⟨⟨ad418, e418, hx418_0⟩, p418, q418⟩ := pq (Kd.at_int HR0.out x13_1)
      cases e418
      obtain ⟨⟨ad419, e419, hx419_0⟩, p419, q419⟩ := pq (Kd.at_int HR1.out x13_1)
      cases e419
      go_wp2
      repeat (go_quiet (fail); try go_wp2)
      go_roundg k1
      case measure => have := HK1.out; omega
      case rel => exact ⟨(wrap64 (x13_1 + 1)), rr, H', ⟨by have := HK1.out; omega⟩, dw⟩
     rw [if_neg c8] at H
     have c8b0 : ((rd l0 x13_1) == (rd l1 x13_1)) = false := beq_eq_false_iff_ne.mpr c8
     have c8b1 : ((rd l0 x13_1) != (rd l1 x13_1)) = true := bne_iff_ne.mpr c8
     obtain rfl := Option.some.inj H
     obtain ⟨⟨ad418, e418, hx418_0⟩, p418, q418⟩ := pq (Kd.at_int HR0.out x13_1)
     cases e418
     obtain ⟨⟨ad419, e419, hx419_0⟩, p419, q419⟩ := pq (Kd.at_int HR1.out x13_1)
     cases e419
     go_wp2
     repeat (go_quiet (fail); try go_wp2)
     go_ret
     exact ⟨rr, dw⟩
    obtain rfl := Option.some.inj H
    go_wp2
    repeat (go_quiet (fail); try go_wp2)
    go_ret
    exact ⟨rr, dw⟩
 rw [if_neg c3] at H
 have c3b0 : ((l0.length : Int) == (l1.length : Int)) = false := beq_eq_false_iff_ne.mpr c3
 have c3b1 : ((l0.length : Int) != (l1.length : Int)) = true := bne_iff_ne.mpr c3
 have c3b2 : (l0.length == l1.length) = false := by first | simpa using c3 | (simp at c3 ⊢; omega)
 obtain rfl := Option.some.inj H
 go_enter Try.func48, Try.ntmps48
 go_wp2
 repeat (go_quiet (fail); try go_wp2)
 go_ret
 exact ⟨rr, dw⟩
def FnRow (P : Program) (w : World) (v : Value) (p : List Int → Option Bool) : Prop :=
 ∃ g lb, v = .func (.func g) #[] lb ∧ (∀ args w, (callFunc g args).run P w = .ok (.enter g args) w) ∧ ∀ W, Below w.heap.size w W → ∀ (A : Option Addr) (c : Nat) (y : List Int) (b : Bool), Kd.C (Kd.int .i64) W A y.length y → y.length ≤ c → p y = some b → Calls P g (#[.slice A y.length c] ++ lb) W fun e w' => e = .returned (.bool b) ∧ Drawn0 W w'
def rdLL (xs : List (List Int)) (i : Int) : (List Int) := xs.getD i.toNat ([] : List Int)
theorem atLL {w : World} {A : Option Addr} {n : Nat} {xs : List (List Int)} (h : Kd.C (Kd.slice 3 (Kd.int .i64)) w A n xs) (i : Int) (h0 : 0 ≤ i) (h1 : i < n) : ∃ ad A0 c0, A = some ad ∧ w.cell? (ad.add i.toNat) = some (.slice A0 (rdLL xs i).length c0) ∧ (rdLL xs i).length ≤ c0 ∧ (Kd.int .i64).C w A0 (rdLL xs i).length (rdLL xs i) := by
 obtain ⟨ad, c, e, _, hK, hc0⟩ := Kd.C_get h ([] : List Int) i h0 h1
 have hc : ∀ j u, c[j]? = some u → w.cell? (ad.add (i.toNat * 1 + j)) = some u := hc0
 obtain ⟨A0, c0, rfl, l0, g0⟩ := hK
 exact ⟨ad, A0, c0, e, by have hq := hc 0 _ rfl; rwa [Nat.mul_one, Nat.add_zero] at hq, l0, g0⟩
def slices_IndexFunc_int_int.l0 (p : List Int → Option Bool) : Nat → List (List Int) → Int → Option Int
 | 0, _, _ => none
 | k + 1, x0, i => if i < (x0.length : Int) then (if 0 ≤ i then ((p (rdLL x0 i)).bind fun t => (if t = true then (some i) else (slices_IndexFunc_int_int.l0 p k x0 (wrap64 (i + 1))))) else none) else some (-1)
set_option maxHeartbeats 8000000 in
set_option maxRecDepth 100000 in
theorem slices_IndexFunc_int_int.callsF (p : List Int → Option Bool) (k : Nat) (A0 : Option Addr) (c0 : Nat) (l0 : List (List Int)) (F : Value) (r : Int) (w : World) (hr0 : Kd.C (Kd.slice 3 (Kd.int .i64)) w A0 l0.length l0) (hc0 : l0.length ≤ c0) (hF : FnRow Try.prog w F p) (h : slices_IndexFunc_int_int.l0 p k l0 0 = some r) :
  Calls Try.prog 50 #[.slice A0 l0.length c0, F] w fun e w' => e = .returned (.int .i64 r) ∧ Drawn0 w w' := by
 have HR0 := am hr0
 have HC0 := am hc0
 clear hr0 hc0
 obtain ⟨gF, lF, rfl, eF, hF⟩ := hF
 have HB := am (Below.refl w.heap.size w)
 have H' := am h
 clear h
 go_enter Try.func50, Try.ntmps50
 go_wp2
 go_loopg [8] k (fun kq v8 w' => ∃ (i : Int), v8 = .int .i64 i ∧ Aside0 (slices_IndexFunc_int_int.l0 p kq l0 i = some r) ∧ Aside0 (kq ≤ k) ∧ Drawn0 w w')
 case atStart => exact ⟨(0), rr, H', ⟨Nat.le_refl _⟩, dw⟩
 case round =>
  clear H'
  obtain ⟨i, rfl, HA, HK1, ⟨m1, rfl⟩⟩ := hrel
  cases gk with
  | zero => exact absurd HA.out (by simp [slices_IndexFunc_int_int.l0])
  | succ k1 =>
   have H := HA.out
   clear HA
   simp only [slices_IndexFunc_int_int.l0] at H
   replace H := gi H; obtain ⟨c3b0, H⟩ | ⟨c3b0, H⟩ := H
   ·replace H := gd H; obtain ⟨c4b0, H⟩ := H
    replace H := ga H; obtain ⟨t, A5, H⟩ := H
    obtain ⟨⟨ad9, A9, c9, e9, hx9, hl9, hi9⟩, p9, q9⟩ := pq (atLL HR0.out i)
    cases e9
    have HR9 := am hi9
    have HC9 := am hl9
    clear hi9 hl9
    replace H := gb H; obtain ⟨rfl, H⟩ | ⟨rfl, H⟩ := H
    ·obtain rfl := Option.some.inj H
     go_wp2_with (first | (go_at_fn gF; (with_reducible refine (hF _ bw _ _ _ true (co (Kd.C_below HR9.out bw)) HC9.out A5.out).mono ?_); rintro e w' ⟨rfl, ⟨nd, rfl⟩⟩))
     go_ret
     exact ⟨rr, dw⟩
    have H' := am H
    clear H
    go_wp2_with (first | (go_at_fn gF; (with_reducible refine (hF _ bw _ _ _ false (co (Kd.C_below HR9.out bw)) HC9.out A5.out).mono ?_); rintro e w' ⟨rfl, ⟨nd, rfl⟩⟩))
    go_roundg k1
    case measure => have := HK1.out; omega
    case rel => exact ⟨(wrap64 (i + 1)), rr, H', ⟨by have := HK1.out; omega⟩, dw⟩
   obtain rfl := Option.some.inj H
   go_wp2
   go_ret
   exact ⟨rr, dw⟩


/-! ### slices_ContainsFunc_int_int: function 46 -/
def slices_ContainsFunc_int_int.f (k : Nat) (l0 : List (List Int)) (x : List Int) : Option Bool := (slices_IndexFunc_int_int.l0 (fun y => eqR.f k x y) k l0 0).bind fun i => some (decide (i ≥ 0))
set_option maxHeartbeats 8000000 in
set_option maxRecDepth 100000 in
theorem slices_ContainsFunc_int_int.fn (k : Nat) (w : World) (g : Nat) (A : Option Addr) (c : Nat) (l : List Int) (hbox : w.heap[g]? = some (.cells #[.slice A l.length c] 22 (0, 0))) (hC : Kd.C (Kd.int .i64) w A l.length l) (hc : l.length ≤ c) :
  FnRow Try.prog w (.func (.func 47) #[] #[.pointer (some ⟨g, 0, none⟩)]) (fun y => eqR.f k l y) :=
 ⟨47, _, rfl, (fun args w => enters_ Try.func47 (by kernel_rfl) rfl args w), fun W hb A1 c1 y b hy hc1 h => by
  show Calls Try.prog 47 #[.slice A1 y.length c1, .pointer (some ⟨g, 0, none⟩)] W _
  have hbox' := blk_below hbox hb
  have HR := am (Kd.C_below hC hb)
  have HC := am hc
  have HY := am hy
  have HD := am hc1
  have A5 := am (show eqR.f k l y = some b from h)
  have hcz : W.cell? ⟨g, 0, none⟩ = some (.slice A l.length c) := (blk_cell hbox' 0).trans rfl
  have hfz := blk_frozen hbox' 0
  clear hbox hC hbox' hb hc hy hc1 h
  go_enter Try.func47, Try.ntmps47
  go_wp2_with (first | (go_at_call 48; (with_reducible refine (eqR.calls k _ _ l _ _ y b _ (co HR.out) HC.out (co HY.out) HD.out A5.out).mono ?_); rintro e w' ⟨rfl, ⟨nd, rfl⟩⟩))
  go_ret
  exact ⟨rr, dw⟩⟩
set_option maxHeartbeats 8000000 in
set_option maxRecDepth 100000 in
theorem slices_ContainsFunc_int_int.calls (k : Nat) (A0 : Option Addr) (c0 : Nat) (l0 : List (List Int)) (g : Nat) (A1 : Option Addr) (c1 : Nat) (l1 : List Int) (r : Bool) (w : World) (hr0 : Kd.C (Kd.slice 3 (Kd.int .i64)) w A0 l0.length l0) (hc0 : l0.length ≤ c0) (hbox : w.heap[g]? = some (.cells #[.slice A1 l1.length c1] 22 (0, 0))) (hr1 : Kd.C (Kd.int .i64) w A1 l1.length l1) (hc1 : l1.length ≤ c1) (h : slices_ContainsFunc_int_int.f k l0 l1 = some r) :
  Calls Try.prog 46 #[.slice A0 l0.length c0, .func (.func 47) #[] #[.pointer (some ⟨g, 0, none⟩)]] w fun e w' => e = .returned (.bool r) ∧ Drawn0 w w' := by
 have hF := am (slices_ContainsFunc_int_int.fn k w g A1 c1 l1 hbox hr1 hc1)
 have HR0 := am hr0
 have HC0 := am hc0
 clear hr0 hc0 hbox hr1 hc1
 unfold slices_ContainsFunc_int_int.f at h
 replace h := ga h; obtain ⟨i, A3, h⟩ := h
 obtain rfl := Option.some.inj h
 clear h
 go_enter Try.func46, Try.ntmps46
 go_wp2_with (first | (go_at_call 50; (with_reducible refine (slices_IndexFunc_int_int.callsF _ k _ _ l0 _ i _ (co HR0.out) HC0.out hF.out A3.out).mono ?_); rintro e w' ⟨rfl, ⟨nd, rfl⟩⟩))
 go_ret
 exact ⟨rr, dw⟩


/-! ### impl_ReachedBy: function 30 -/
mutual
def impl_ReachedBy.l0 : Nat → List S36 → Int → List (List Int) → Int → Option (List (List Int))
 | 0, _, _, _, _ => none
 | k + 1, x0, x2, x7, x8 => if x8 < (x7.length : Int) then (impl_ReachedBy.l1 k x0 x2 x7 x8 0) else (some x7)
def impl_ReachedBy.l1 : Nat → List S36 → Int → List (List Int) → Int → Int → Option (List (List Int))
 | 0, _, _, _, _, _ => none
 | k + 1, x0, x2, x7, x8, x30 => if x30 < (x0.length : Int) then (if 0 ≤ x30 then (impl_ReachedBy.l2 k x0 x2 x7 x8 x30 [(⟨(rd_T36 x0 x30).f0, (rd_T36 x0 x30).f1⟩ : S36), (⟨(rd_T36 x0 x30).f1, (rd_T36 x0 x30).f0⟩ : S36)] 0) else (none)) else (impl_ReachedBy.l0 k x0 x2 x7 (wrap64 (x8 + 1)))
def impl_ReachedBy.l2 : Nat → List S36 → Int → List (List Int) → Int → Int → List S36 → Int → Option (List (List Int))
 | 0, _, _, _, _, _, _, _ => none
 | k + 1, x0, x2, x7, x8, x30, y, x42 => if x42 < 2 then (if 0 ≤ x42 then (if 0 ≤ x8 then (if x8 < (x7.length : Int) then ((impl_ApplyRelation.f k (rd_T36 y x42).f0 (rd_T36 y x42).f1 (rd_L2 x7 x8)).bind fun p => ((slices_ContainsFunc_int_int.f k x7 p.1).bind fun o => (if p.2 = true then (if o = true then (impl_ReachedBy.l2 k x0 x2 x7 x8 x30 y (wrap64 (x42 + 1))) else (if (x7.length : Int) < x2 then (if x7.length < 5864062014805 then (impl_ReachedBy.l2 k x0 x2 (x7 ++ [p.1]) x8 x30 y (wrap64 (x42 + 1))) else (none)) else (impl_ReachedBy.l2 k x0 x2 x7 x8 x30 y (wrap64 (x42 + 1))))) else (impl_ReachedBy.l2 k x0 x2 x7 x8 x30 y (wrap64 (x42 + 1)))))) else (none)) else (none)) else (none)) else (impl_ReachedBy.l1 k x0 x2 x7 x8 (wrap64 (x30 + 1)))
end
def impl_ReachedBy.f (k : Nat) (l0 : List S36) (l1 : List Int) (a2 : Int) : Option (List (List Int)) := (impl_within.f a2 1 1000).bind fun t => (if t = true then ((slices_Clone_int_int.f l1).bind fun c => (impl_ReachedBy.l0 k l0 a2 [c] 0)) else (some []))
def impl_ReachedBy.T13 : Bool × List (List Nat × List Nat) := (true, [([], []), ([], []), ([], []), ([1, 2], [1, 2]), ([3], [3]), ([0, 4], [0, 4]), ([5], [5]), ([6], [6]), ([6], [6]), ([], []), ([9, 7, 5, 0, 1, 2, 3, 4, 5, 6, 7, 9], [7, 9]), ([8, 10, 0, 1, 2, 3, 4, 5, 6, 7, 8, 9, 10], [8])])
def impl_ReachedBy.B13 : List Nat := [0, 0, 0, 6, 14, 31, 63, 127, 127, 0, 767, 2047]
theorem impl_ReachedBy.tab13 : rtab .any (opsOf Try.f30 13) = impl_ReachedBy.T13 := by kernel_rfl
theorem impl_ReachedBy.bits13 : waitsOk impl_ReachedBy.T13.2 impl_ReachedBy.B13 = true := by kernel_rfl
theorem impl_ReachedBy.info : (Try.prog.info? 22).map (fun i => (i.zero, i.size, i.bytes)) = some (some (.slice none 0 0), 1, 24) := by kernel_rfl
section
variable {P : Program} {rest : List Oper} {o : Oper} {a : Act} {Q : Exit → Act → World → Prop} {ops : Array Oper} {W : World}
theorem impl_ReachedBy.lit (N : Tmp) (cells : Array Value) (n : Nat) (t : TypeId) (h : ∀ g ad, g = W.heap.size → ad = (⟨g, 0, none⟩ : Addr) → ∀ w1, w1.heap[g]? = some (.cells cells t (0, 0)) → Below W.heap.size W w1 → wpList P ops Q rest (a.put o.dst (.slice (some ad) n n)) w1)
  (hd : o.dst = some N := by rfl) (hg : o.guard = none := by rfl) (hr : (execOp a.eval o).run P W = .ok (.value (.slice (some ⟨W.heap.size, 0, none⟩) n n)) (W.alloc (.cells cells t (0, 0))) := by first | (go_simp; done) | (go_simp; rfl)) : wpList P ops Q (o :: rest) a W :=
 Kd.event_run hg hr (h _ _ rfl rfl _ (blk_new W _) (below_alloc (Below.refl _ _) _))
end
theorem impl_ReachedBy.two {w wr : World} {g : Nat} {ad : Addr} {Aa Ab : Option Addr} {ca cb : Nat} {fa fb : List Int} (had : ad = (⟨g, 0, none⟩ : Addr)) (hb : wr.heap[g]? = some (.cells #[.slice Aa fa.length ca, .slice Ab fb.length cb, .slice Ab fb.length cb, .slice Aa fa.length ca] 36 (0, 0)))
  (la : fa.length ≤ ca) (ga : Kd.C (Kd.int .i64) w Aa fa.length fa) (lb : fb.length ≤ cb) (gb : Kd.C (Kd.int .i64) w Ab fb.length fb) (x : Int) (h0 : 0 ≤ x) (h1 : x < 2) :
  ∃ X0 d0 X1 d1, wr.cell? (ad.add (x.toNat * 2)) = some (.slice X0 (rd_T36 [(⟨fa, fb⟩ : S36), (⟨fb, fa⟩ : S36)] x).f0.length d0) ∧ wr.cell? ⟨(ad.add (x.toNat * 2)).block, (ad.add (x.toNat * 2)).off + 1, none⟩ = some (.slice X1 (rd_T36 [(⟨fa, fb⟩ : S36), (⟨fb, fa⟩ : S36)] x).f1.length d1) ∧
   (rd_T36 [(⟨fa, fb⟩ : S36), (⟨fb, fa⟩ : S36)] x).f0.length ≤ d0 ∧ Kd.C (Kd.int .i64) w X0 (rd_T36 [(⟨fa, fb⟩ : S36), (⟨fb, fa⟩ : S36)] x).f0.length (rd_T36 [(⟨fa, fb⟩ : S36), (⟨fb, fa⟩ : S36)] x).f0 ∧
   (rd_T36 [(⟨fa, fb⟩ : S36), (⟨fb, fa⟩ : S36)] x).f1.length ≤ d1 ∧ Kd.C (Kd.int .i64) w X1 (rd_T36 [(⟨fa, fb⟩ : S36), (⟨fb, fa⟩ : S36)] x).f1.length (rd_T36 [(⟨fa, fb⟩ : S36), (⟨fb, fa⟩ : S36)] x).f1 := by
 subst had
 obtain rfl | rfl : x = 0 ∨ x = 1 := by omega
 ·exact ⟨Aa, ca, Ab, cb, (blk_cell hb 0).trans rfl, (blk_cell hb 1).trans rfl, la, ga, lb, gb⟩
 ·exact ⟨Ab, cb, Aa, ca, (blk_cell hb 2).trans rfl, (blk_cell hb 3).trans rfl, lb, gb, la, ga⟩
set_option maxHeartbeats 8000000 in
set_option maxRecDepth 100000 in
theorem impl_ReachedBy.calls (k : Nat) (A0 : Option Addr) (c0 : Nat) (l0 : List S36) (A1 : Option Addr) (c1 : Nat) (l1 : List Int) (a2 : Int) (r : List (List Int)) (w : World) (hr0 : Kd.C k36 w A0 l0.length l0) (hc0 : l0.length ≤ c0) (hr1 : Kd.C (Kd.int .i64) w A1 l1.length l1) (hc1 : l1.length ≤ c1) (h : impl_ReachedBy.f k l0 l1 a2 = some r) :
  Calls Try.prog 30 #[.slice A0 l0.length c0, .slice A1 l1.length c1, .int .i64 a2] w fun e w' => ∃ v0_ : Value, e = .returned (v0_) ∧ Kd.S (Kd.slice 3 (Kd.int .i64)) 22 w' w.heap.size (fun _ => True) v0_ r ∧ Below w.heap.size w w' := by
 have hu60 := Try.underlying36
 have HR0 := am hr0
 have HC0 := am hc0
 have HR1 := am hr1
 have HC1 := am hc1
 clear hr0 hc0 hr1 hc1
 have HB := am (Below.refl w.heap.size w)
 have H : ((impl_within.f a2 1 1000).bind fun t => (if t = true then ((slices_Clone_int_int.f l1).bind fun c => (impl_ReachedBy.l0 k l0 a2 [c] 0)) else (some []))) = some r := h
 clear h
 replace H := ga H; obtain ⟨t1, A1', H⟩ := H
 replace H := gb H; obtain ⟨rfl, H⟩ | ⟨rfl, H⟩ := H
 rotate_left
 ·obtain rfl := Option.some.inj H
  go_enter Try.func30, Try.ntmps30
  go_wp2_with (first | (go_at_call 37; (with_reducible refine (impl_within.calls a2 1 1000 false _ A1'.out).mono ?_); rintro e w' ⟨rfl, ⟨nd, rfl⟩⟩))
  go_ret
  exact ⟨_, re, Kd.S_nil _ _ _ _ _, bw⟩
 replace H := ga H; obtain ⟨c, Ac, H⟩ := H
 have H' := am H
 clear H
 go_enter Try.func30, Try.ntmps30
 go_wp2_with (first | (go_at_call 37; (with_reducible refine (impl_within.calls a2 1 1000 true _ A1'.out).mono ?_); rintro e w' ⟨rfl, ⟨nd, rfl⟩⟩) | ((with_reducible refine gate_callee (f := 45) rfl ?_); refine gl (some 20) Try.func45 #[.slice A1 l1.length c1] ?_; (with_reducible refine (slices_Clone_int_int.calls _ _ l1 c _ ?side1 ?side2 Ac.out).mono ?_); (case side1 => exact co HR1.out); (case side2 => exact HC1.out); rintro e w7 ⟨v1, rfl, ho0, hb⟩; refine ⟨_, rfl, ?_⟩; have HO8 := am (Kd.R_lower ho0 (below_size bw)); replace HB := am (below_step bw hb); clear hb ho0; obtain ⟨Ao8, co8, eo8⟩ := Kd.R_slice HO8.out; subst eo8) | ((with_reducible refine gate_dst (N := 21) rfl ?_); refine Kd.S_lits (Kd.slice 3 (Kd.int .i64)) (w0 := w) w.heap.size 22 ?hg (N := 21) ?hd (xs := ([c] : List (List Int))) (inner := [.slice Ao8 c.length co8]) (ok := fun _ => True) (fun j_ _ => j_ = 0) ?hr rfl (litrep (HO8.out)) (fun _ _ _ h1_ h2_ => h1_.trans h2_.symm) (fun _ _ _ => trivial) trivial (show Below w.heap.size w _ from bw) (below_size bw) (by simp) ?_; (case hd => rfl); (case hg => rfl); (case hr => first | (go_simp; done) | (go_simp; rfl)); intro v2 w9 ho hb hg_ hnew_; clear hg_ hnew_; have HO7 := am ho; replace HB := am hb; clear ho hb HO8))
 go_loopg [7, 8] k (fun kq v7 v8 w' => ∃ (x7 : List (List Int)) (x8 : Int), v8 = .int .i64 x8 ∧ Aside0 (impl_ReachedBy.l0 kq l0 a2 x7 x8 = some r) ∧ Aside0 (kq ≤ k) ∧ Aside0 (Kd.S (Kd.slice 3 (Kd.int .i64)) 22 w' w.heap.size (fun _ => True) v7 x7) ∧ Aside0 (Below w.heap.size w w'))
 case atStart => exact ⟨[c], 0, rr, H', ⟨Nat.le_refl _⟩, ⟨so HO7.out⟩, ⟨bw⟩⟩
 case round =>
  clear H'
  obtain ⟨x7, x8, rfl, HA, HK1, HO7, HB⟩ := hrel
  cases gk with
  | zero => exact absurd HA.out (by simp [impl_ReachedBy.l0])
  | succ k1 =>
   have H := HA.out
   clear HA
   simp only [impl_ReachedBy.l0] at H
   obtain ⟨Ao7, co7, eo7⟩ := Kd.S_slice HO7.out
   subst eo7
   replace H := gi H; obtain ⟨c11, H⟩ | ⟨c11, H⟩ := H
   rotate_left
   ·obtain rfl := Option.some.inj H
    go_wp2
    go_ret
    exact ⟨_, re, so HO7.out, bw⟩
   have H' := am H
   clear H
   go_wp2
   go_loopg [7, 30] k1 (fun kq v7 v30 w' => ∃ (x7 : List (List Int)) (x30 : Int), v30 = .int .i64 x30 ∧ Aside0 (impl_ReachedBy.l1 kq l0 a2 x7 x8 x30 = some r) ∧ Aside0 (kq ≤ k1) ∧ Aside0 (Kd.S (Kd.slice 3 (Kd.int .i64)) 22 w' w.heap.size (fun _ => True) v7 x7) ∧ Aside0 (Below w.heap.size w w'))
   case atStart => exact ⟨x7, 0, rr, H', ⟨Nat.le_refl _⟩, ⟨so HO7.out⟩, ⟨bw⟩⟩
   case round =>
    clear H' c11 HO7
    obtain ⟨x7, x30, rfl, HA, HK2, HO7, HB⟩ := hrel
    cases gk with
    | zero => exact absurd HA.out (by simp [impl_ReachedBy.l1])
    | succ k2 =>
     have H := HA.out
     clear HA
     simp only [impl_ReachedBy.l1] at H
     obtain ⟨Ao7, co7, eo7⟩ := Kd.S_slice HO7.out
     subst eo7
     replace H := gi H; obtain ⟨c13, H⟩ | ⟨c13, H⟩ := H
     rotate_left
     ·have H' := am H
      clear H
      go_wp2
      go_roundg k2
      case measure => have := HK1.out; have := HK2.out; omega
      case rel => exact ⟨x7, (wrap64 (x8 + 1)), rr, H', ⟨by have := HK1.out; have := HK2.out; omega⟩, ⟨so HO7.out⟩, ⟨bw⟩⟩
     replace H := gd H; obtain ⟨c14, H⟩ := H
     have H' := am H
     clear H
     obtain ⟨⟨ad, Aa, ca, Ab, cb, e0, hxa, hxb, hla, hia, hlb, hib⟩, p15, q15⟩ := pq (at_T36 HR0.out x30)
     subst e0
     generalize hfa : (rd_T36 l0 x30).f0 = fa at *
     generalize hfb : (rd_T36 l0 x30).f1 = fb at *
     have HRa := am hia
     have HCa := am hla
     have HRb := am hib
     have HCb := am hlb
     replace hxa := hw HB hxa
     replace hxb := hw HB hxb
     clear hia hla hib hlb hfa hfb
     go_wp2_with (first | ((with_reducible refine gate_dst (N := 10) rfl ?_); refine bx 10 #[.slice none 0 0, .slice none 0 0] 36 ?_; intro gb1 hg w16 hbox hb; replace HO7 := am (Kd.S_below (Kd.S_elderB (so HO7.out) gb1 (Nat.le_of_eq hg.symm)) hb); have BK1 := am hbox; have GE1 := am (gs hg : w.heap.size ≤ gb1); replace HB := am (below_step bw hb); clear hb hbox hg; have hcz_0 := bc BK1 0 (.slice none 0 0); have hcz_1 := bc BK1 1 (.slice none 0 0); have hfz_0 := blk_frozen BK1.out 0; have hfz_1 := blk_frozen BK1.out 1) | ((with_reducible refine gate_store (t := 36) (p := 10) rfl ?_); refine store_event (t := 36) (p := 10) (v := ?vo) (w1 := ((w16.setCell ⟨gb1, 0, none⟩ (.slice Aa fa.length ca)).setCell ⟨gb1, 1, none⟩ (.slice Ab fb.length cb))) ?hg ?ho ?hn ?hr ?_; (case ho => rfl); (case hg => rfl); (case hn => rfl); (case hr => first | (go_simp; done) | (go_simp; rfl)); intro w18 hw_; have n0_ : Aside0 (Kd.S (Kd.slice 3 (Kd.int .i64)) 22 w18 w.heap.size (fun _ => True) (.slice Ao7 x7.length co7) x7) := ⟨by rw [hw_]; exact Kd.S_mono (Kd.S_far (p := ⟨gb1, 1, none⟩) (Kd.S_far (p := ⟨gb1, 0, none⟩) HO7.out (fun _ hk => hk.2) _) (fun _ hk => hk.2) _) (fun _ _ => trivial)⟩; have n1_ : Aside0 (w18.heap[gb1]? = some (.cells #[.slice Aa fa.length ca, .slice Ab fb.length cb] 36 (0, 0))) := ⟨by rw [hw_]; refine blk_put (cs := #[.slice Aa fa.length ca, .slice none 0 0]) ?_ 1 _ rfl; refine blk_put (cs := #[.slice none 0 0, .slice none 0 0]) ?_ 0 _ rfl; exact BK1.out⟩; have n2_ : Aside0 (Below w.heap.size w w18) := ⟨by rw [hw_]; exact bw⟩; clear hw_ HO7 BK1 HB hcz_0 hcz_1 hfz_0 hfz_1; have HO7 := n0_; have BK1 := n1_; have HB := n2_; clear n0_ n1_ n2_; have hcz_0 := bc BK1 0 (.slice Aa fa.length ca); have hcz_1 := bc BK1 1 (.slice Ab fb.length cb); have hfz_0 := blk_frozen BK1.out 0; have hfz_1 := blk_frozen BK1.out 1) | ((with_reducible refine gate_dst (N := 40) rfl ?_); refine impl_ReachedBy.lit 40 #[.slice Aa fa.length ca, .slice Ab fb.length cb, .slice Ab fb.length cb, .slice Aa fa.length ca] 2 36 ?_; intro gL adL hg had w20 hbox hb; replace HO7 := sK HO7 hb; have BKL := am hbox; have HAL := am had; have GEL := am (gs hg : w.heap.size ≤ gL); replace HB := am (below_step bw hb); clear hb hbox hg had hcz_0 hcz_1 hfz_0 hfz_1 BK1))
     go_loopg [7, 42] k2 (fun kq v7 v42 w' => ∃ (x7 : List (List Int)) (x42 : Int), v42 = .int .i64 x42 ∧ Aside0 (impl_ReachedBy.l2 kq l0 a2 x7 x8 x30 [(⟨fa, fb⟩ : S36), (⟨fb, fa⟩ : S36)] x42 = some r) ∧ Aside0 (kq ≤ k2) ∧ Aside0 (Kd.S (Kd.slice 3 (Kd.int .i64)) 22 w' w.heap.size (fun _ => True) v7 x7) ∧ Aside0 (w'.heap[gL]? = some (.cells #[.slice Aa fa.length ca, .slice Ab fb.length cb, .slice Ab fb.length cb, .slice Aa fa.length ca] 36 (0, 0))) ∧ Aside0 (Below w.heap.size w w'))
     case atStart => exact ⟨x7, 0, rr, H', ⟨Nat.le_refl _⟩, ⟨so HO7.out⟩, ⟨bo BKL.out⟩, ⟨bw⟩⟩
     case round =>
      clear H' HO7 hxa hxb c13 c14 p15 q15
      obtain ⟨x7, x42, rfl, HA, HK3, HO7, BKL, HB⟩ := hrel
      cases gk with
      | zero => exact absurd HA.out (by simp [impl_ReachedBy.l2])
      | succ k3 =>
       have H := HA.out
       clear HA
       simp only [impl_ReachedBy.l2] at H
       obtain ⟨Ao7, co7, eo7⟩ := Kd.S_slice HO7.out
       subst eo7
       replace H := gi H; obtain ⟨c23, H⟩ | ⟨c23, H⟩ := H
       rotate_left
       ·have H' := am H
        clear H
        go_wp2
        go_roundg k3
        case measure => have := HK1.out; have := HK2.out; have := HK3.out; omega
        case rel => exact ⟨x7, (wrap64 (x30 + 1)), rr, H', ⟨by have := HK1.out; have := HK2.out; have := HK3.out; omega⟩, ⟨so HO7.out⟩, ⟨bw⟩⟩
       replace H := gd H; obtain ⟨c24, H⟩ := H
       replace H := gd H; obtain ⟨c25, H⟩ := H
       replace H := gd H; obtain ⟨c26, H⟩ := H
       replace H := ga H; obtain ⟨⟨t, ok⟩, A28, H⟩ := H
       dsimp only at H
       replace H := ga H; obtain ⟨o, A29, H⟩ := H
       have HH := am H
       clear H
       obtain ⟨X0, d0, X1, d1, hx0, hx1, hl0, hi0, hl1, hi1⟩ := impl_ReachedBy.two HAL.out BKL.out HCa.out HRa.out HCb.out HRb.out x42 (of_decide_eq_true c24) (of_decide_eq_true c23)
       have hp42 := eq_true (of_decide_eq_true c24 : 0 ≤ x42)
       have hq42 := eq_true (of_decide_eq_true c23 : x42 < 2)
       generalize hga : (rd_T36 [(⟨fa, fb⟩ : S36), (⟨fb, fa⟩ : S36)] x42).f0 = la_ at *
       generalize hgb : (rd_T36 [(⟨fa, fb⟩ : S36), (⟨fb, fa⟩ : S36)] x42).f1 = lb_ at *
       have HX0 := am hi0
       have HD0 := am hl0
       have HX1 := am hi1
       have HD1 := am hl1
       clear hi0 hl0 hi1 hl1 hga hgb
       try go_wp2_with (first | ((with_reducible refine gate_dst (N := 12) rfl ?_); refine bx 12 #[.slice none 0 0, .slice none 0 0] 36 ?_; intro gb2 hg w32 hbox hb; replace HO7 := am (Kd.S_below (Kd.S_elderB (so HO7.out) gb2 (Nat.le_of_eq hg.symm)) hb); have BK2 := am hbox; have GE2 := am (gs hg : w.heap.size ≤ gb2); replace HB := am (below_step bw hb); have NBL := nl hg BKL; replace BKL := kb BKL hb; clear hb hbox hg; have hcz_0 := bc BK2 0 (.slice none 0 0); have hcz_1 := bc BK2 1 (.slice none 0 0); have hfz_0 := blk_frozen BK2.out 0; have hfz_1 := blk_frozen BK2.out 1))
       have n0_ : Aside0 (Kd.S (Kd.slice 3 (Kd.int .i64)) 22 ((w32.setCell ⟨gb2, 0, none⟩ (.slice X0 la_.length d0)).setCell ⟨gb2, 1, none⟩ (.slice X1 lb_.length d1)) w.heap.size (fun _ => True) (.slice Ao7 x7.length co7) x7) := ⟨Kd.S_mono (Kd.S_far (p := ⟨gb2, 1, none⟩) (Kd.S_far (p := ⟨gb2, 0, none⟩) HO7.out (fun _ hk => hk.2) _) (fun _ hk => hk.2) _) (fun _ _ => trivial)⟩
       have n1_ : Aside0 (((w32.setCell ⟨gb2, 0, none⟩ (.slice X0 la_.length d0)).setCell ⟨gb2, 1, none⟩ (.slice X1 lb_.length d1)).heap[gb2]? = some (.cells #[.slice X0 la_.length d0, .slice X1 lb_.length d1] 36 (0, 0))) := ⟨by refine blk_put (cs := #[.slice X0 la_.length d0, .slice none 0 0]) ?_ 1 _ rfl; refine blk_put (cs := #[.slice none 0 0, .slice none 0 0]) ?_ 0 _ rfl; exact BK2.out⟩
       have n2_ : Aside0 (Below w.heap.size w ((w32.setCell ⟨gb2, 0, none⟩ (.slice X0 la_.length d0)).setCell ⟨gb2, 1, none⟩ (.slice X1 lb_.length d1))) := ⟨bw⟩
       have n3_ : Aside0 (((w32.setCell ⟨gb2, 0, none⟩ (.slice X0 la_.length d0)).setCell ⟨gb2, 1, none⟩ (.slice X1 lb_.length d1)).heap[gL]? = some (.cells #[.slice Aa fa.length ca, .slice Ab fb.length cb, .slice Ab fb.length cb, .slice Aa fa.length ca] 36 (0, 0))) := ⟨bf BKL.out⟩
       clear HO7 BK2 HB BKL hcz_0 hcz_1 hfz_0 hfz_1
       generalize ((w32.setCell ⟨gb2, 0, none⟩ (.slice X0 la_.length d0)).setCell ⟨gb2, 1, none⟩ (.slice X1 lb_.length d1)) = w35 at n0_ n1_ n2_ n3_ ⊢
       have HO7 := n0_
       have BK2 := n1_
       have HB := n2_
       have BKL := n3_
       clear n0_ n1_ n2_ n3_
       replace HO7 := am (Kd.S_drew HO7.out)
       replace BKL := bd BKL
       replace BK2 := bd BK2
       replace HB := am (below_drew1 HB.out)
       obtain ⟨⟨ad7, A7, c7, e7, hx7, hl7, hi7⟩, p7, q7⟩ := pq (at_L2 (Kd.S_reads' HO7.out).2.2 x8)
       subst e7
       have HR7 := am hi7
       have HC7 := am hl7
       clear hi7 hl7 hx0 hx1
       refine start_ (n := 12) (S := fun w' => w'.cell? ⟨gb2, 0, none⟩ = some (.slice X0 la_.length d0) ∧ w'.cell? ⟨gb2, 1, none⟩ = some (.slice X1 lb_.length d1) ∧ w'.cell? (ad7.add (x8).toNat) = some (.slice A7 (rd_L2 x7 x8).length c7)) (ds := [10]) (yz 12 0) (by kernel_rfl) rfl rfl ⟨bc BK2 0 _, bc BK2 1 _, hx7⟩ (fun hHeld => ?_); refine with_tabW impl_ReachedBy.tab13 impl_ReachedBy.bits13 (fun HT_ HW_ => ?_)
       generalize w35.drew = w36 at HO7 BKL BK2 HB HR7 hx7 hHeld ⊢
       refine pa 1 (some 48) (yz 12 2) HT_ ?_
       refine pa 2 (some 49) (yz 12 6) HT_ ?_
       refine pa 3 (some 50) (yz 12 14) HT_ ?_
       refine tk 0 (some 47) (yz 12 15) HT_ HW_ hHeld ?_
       refine tk 4 (some 51) (yz 12 31) HT_ HW_ hHeld ?_
       refine join_ (σ := Value × Nat) 2 (yz 12 1023) (fun s_ => [(52, .tuple #[s_.1, .bool ok]), (46, .tuple #[s_.1, .bool ok]), (53, s_.1), (54, .bool ok), (13, .pointer (some ⟨s_.2, 0, none⟩))]) (fun s_ w' => Kd.S (Kd.slice 3 (Kd.int .i64)) 22 w' w.heap.size (fun k_ => k_ ≠ s_.2 ∧ some k_ ≠ s_.1.ownBlock) (.slice (some ad7) x7.length co7) x7 ∧ Kd.R (Kd.int .i64) 3 w' w.heap.size (fun k_ => k_ ≠ s_.2) s_.1 t ∧ w'.heap[s_.2]? = some (.cells #[.slice none 0 0] 22 (0, 0)) ∧ w.heap.size ≤ s_.2 ∧ s_.2 ≠ gL ∧ w'.heap[gL]? = some (.cells #[.slice Aa fa.length ca, .slice Ab fb.length cb, .slice Ab fb.length cb, .slice Aa fa.length ca] 36 (0, 0)) ∧ Below w.heap.size w w') ?_ ?_
       rotate_left
       ·intro hCont
        refine two_ (i := 5) (j := 9) (Ni := some 52) (Nj := some 13) (yz 12 63) (yz 12 543) rfl rfl rfl rfl (two_of HT_.out (by kernel_rfl)) (by decide) (by decide) (fun K hK => ?_) (fun K hK => ?_)
        ·refine gm Try.func24 #[.agg #[.slice X0 la_.length d0, .slice X1 lb_.length d1], .slice A7 (rd_L2 x7 x8).length c7] ?_
         with_reducible refine (impl_ApplyRelation.calls k3 _ _ la_ _ _ lb_ _ _ (rd_L2 x7 x8) t ok _ ?side1 ?side2 ?side3 ?side4 ?side5 ?side6 A28.out).mono ?_
         (case side1 => exact co (Kd.C_below HX0.out HB.out))
         (case side2 => exact HD0.out)
         (case side3 => exact co (Kd.C_below HX1.out HB.out))
         (case side4 => exact HD1.out)
         (case side5 => exact co HR7.out)
         (case side6 => exact HC7.out)
         rintro e w38 ⟨v1, rfl, ho0, hb⟩
         have HS2_ := (hb.cell (World.block_lt_of_cell? _ _ (hHeld.2.2))).trans (hHeld.2.2)
         refine ⟨_, rfl, ?_⟩
         replace HO7 := am (Kd.S_elder' (so HO7.out) (Kd.R_base ho0) hb)
         have HO1 := am (Kd.R_lower ho0 (below_size bw))
         replace BKL := kb BKL hb
         replace BK2 := kb BK2 hb
         replace HB := am (below_step bw hb)
         clear hb ho0
         refine hK.out _ _ ⟨bc BK2 0 _, bc BK2 1 _, HS2_⟩ (fun hHeld => ?_)
         clear hK K
         refine nm (some 52) ?_
         refine pa 6 (some 46) (yz 12 127) HT_ ?_
         refine pa 7 (some 53) (yz 12 255) HT_ ?_
         refine pa 8 (some 54) (yz 12 511) HT_ ?_
         refine oa 9 (some 13) (yz 12 1023) HT_ (fun K hK => ?_)
         refine value_ (v := .pointer (some ⟨w38.heap.size, 0, none⟩)) (w1 := w38.alloc (.cells #[.slice none 0 0] 22 (0, 0))) rfl rfl (by first | (go_simp; done) | (go_simp; rfl)) ?_
         have hb : Below w38.heap.size w38 (w38.alloc (.cells #[.slice none 0 0] 22 (0, 0))) := below_alloc (Below.refl _ _) _
         have hS3 := Kd.S_below (Kd.S_elderB HO7.out w38.heap.size (Nat.le_refl _)) hb
         have hR3 := Kd.R_below (Kd.R_elderB HO1.out w38.heap.size (Nat.le_refl _)) hb
         refine hK.out _ _ ⟨pw_cell_below hb hHeld.1, pw_cell_below hb hHeld.2.1, pw_cell_below hb hHeld.2.2⟩ (fun _ => ?_)
         clear hK K
         exact norm_ (by simp only [putAll, Act.put, List.setIfInBounds_toArray, List.set_cons_zero, List.set_cons_succ]) (hCont (v1, w38.heap.size) _ ⟨Kd.S_mono hS3 (fun _ hk => ⟨hk.2, hk.1.2⟩), Kd.R_mono hR3 (fun _ hk => hk.2), blk_new w38 _, below_size bw, Nat.ne_of_gt (blk_lt BKL.out), blk_below BKL.out hb, below_step bw hb⟩)
        ·refine value_ (v := .pointer (some ⟨w36.heap.size, 0, none⟩)) (w1 := w36.alloc (.cells #[.slice none 0 0] 22 (0, 0))) rfl rfl (by first | (go_simp; done) | (go_simp; rfl)) ?_
         have hb : Below w36.heap.size w36 (w36.alloc (.cells #[.slice none 0 0] 22 (0, 0))) := below_alloc (Below.refl _ _) _
         have BK3 := am (blk_new w36 (.cells #[.slice none 0 0] 22 (0, 0)))
         have hne := Nat.ne_of_gt (blk_lt BKL.out)
         have hge : w.heap.size ≤ w36.heap.size := below_size bw
         refine hK.out _ _ ⟨pw_cell_below hb hHeld.1, pw_cell_below hb hHeld.2.1, pw_cell_below hb hHeld.2.2⟩ (fun hHeld => ?_)
         clear hK K
         replace HO7 := am (Kd.S_below (Kd.S_elderB HO7.out w36.heap.size (Nat.le_refl _)) hb)
         replace HR7 := am (Kd.C_below HR7.out hb)
         replace BKL := am (blk_below BKL.out hb)
         replace BK2 := am (blk_below BK2.out hb)
         replace HB := am (below_step HB.out hb)
         clear hb
         generalize w36.heap.size = gb3 at hHeld HO7 BK3 hne hge ⊢
         generalize w36.alloc (.cells #[.slice none 0 0] 22 (0, 0)) = w37 at hHeld HO7 HR7 BKL BK2 BK3 HB ⊢
         refine nm (some 13) ?_
         refine oa 5 (some 52) (yz 12 575) HT_ (fun K hK => ?_)
         refine gm Try.func24 #[.agg #[.slice X0 la_.length d0, .slice X1 lb_.length d1], .slice A7 (rd_L2 x7 x8).length c7] ?_
         with_reducible refine (impl_ApplyRelation.calls k3 _ _ la_ _ _ lb_ _ _ (rd_L2 x7 x8) t ok _ ?side1 ?side2 ?side3 ?side4 ?side5 ?side6 A28.out).mono ?_
         (case side1 => exact co (Kd.C_below HX0.out HB.out))
         (case side2 => exact HD0.out)
         (case side3 => exact co (Kd.C_below HX1.out HB.out))
         (case side4 => exact HD1.out)
         (case side5 => exact co HR7.out)
         (case side6 => exact HC7.out)
         rintro e w38 ⟨v1, rfl, ho0, hb⟩
         refine ⟨_, rfl, ?_⟩
         have hlt := blk_lt BK3.out
         refine hK.out _ _ ⟨pw_cell_below hb hHeld.1, pw_cell_below hb hHeld.2.1, pw_cell_below hb hHeld.2.2⟩ (fun _ => ?_)
         clear hK K
         refine nm (some 52) ?_
         refine pa 6 (some 46) (yz 12 639) HT_ ?_
         refine pa 7 (some 53) (yz 12 767) HT_ ?_
         refine pa 8 (some 54) (yz 12 1023) HT_ ?_
         have hq_ := Kd.S_elder' (so HO7.out) (Kd.R_base ho0) hb
         exact norm_ (by simp only [putAll, Act.put, List.setIfInBounds_toArray, List.set_cons_zero, List.set_cons_succ]) (hCont (v1, gb3) _ ⟨Kd.S_mono hq_ (fun _ hk => ⟨hk.1.2, hk.2⟩), Kd.R_lower (Kd.R_mono (Kd.R_bound ho0) (fun k_ hk e_ => by have := hk.2.1; omega)) (below_size bw), blk_below BK3.out hb, hge, hne, blk_below BKL.out hb, below_step bw hb⟩)
       rintro ⟨v1, gb3⟩ w39 ⟨hS3, hR3, hB3, hG3, hN3, hL3, hBB⟩
       clear HO7 BKL BK2 HB HR7 hx7 hHeld
       have HO7 := am hS3
       have HO1 := am hR3
       have BK3 := am hB3
       have GE3 := am hG3
       have NB3 := am hN3
       have BKL := am hL3
       have HB := am hBB
       clear hS3 hR3 hB3 hG3 hN3 hL3 hBB
       obtain ⟨Ao1, co1, eo1⟩ := Kd.R_slice HO1.out
       dsimp only at eo1
       subst eo1
       refine norm_ (a' := ?_) ?_ ?_
       rotate_left
       ·simp only [putAll, Act.put, List.setIfInBounds_toArray, List.set_cons_zero, List.set_cons_succ]
        rfl
       have hcy := bc BK3 0 (.slice none 0 0)
       have hfy := blk_frozen BK3.out 0
       refine last_ (i := 10) (N := none) (yz 12 2047) rfl rfl (one_of HT_.out (by kernel_rfl)) (by decide) (fun K hK => ?_)
       refine skip_ (w1 := ?_) (by rfl) rfl ?_ ?_
       rotate_left
       ·go_simp
        rfl
       refine hK.out _ _ ?_
       clear hK K hcy hfy
       refine pa 11 (some 14) (yz 12 4095) HT_ ?_
       refine done_ (done_of HT_.out (by kernel_rfl)) ?_
       have n0_ : Aside0 (Kd.S (Kd.slice 3 (Kd.int .i64)) 22 (w39.setCell ⟨gb3, 0, none⟩ (.slice Ao1 t.length co1)) w.heap.size (fun k_ => some k_ ≠ (.slice Ao1 t.length co1 : Value).ownBlock) (.slice (some ad7) x7.length co7) x7) := ⟨Kd.S_mono (Kd.S_far (p := ⟨gb3, 0, none⟩) HO7.out (fun _ hk => hk.1) _) (fun _ hk => hk.2)⟩
       have n1_ : Aside0 (Kd.R (Kd.int .i64) 3 (w39.setCell ⟨gb3, 0, none⟩ (.slice Ao1 t.length co1)) w.heap.size (fun _ => True) (.slice Ao1 t.length co1) t) := ⟨Kd.R_mono (Kd.R_far (p := ⟨gb3, 0, none⟩) HO1.out (fun _ hk => hk) _) (fun _ _ => trivial)⟩
       have n2_ : Aside0 ((w39.setCell ⟨gb3, 0, none⟩ (.slice Ao1 t.length co1)).heap[gb3]? = some (.cells #[.slice Ao1 t.length co1] 22 (0, 0))) := ⟨blk_put (cs := #[.slice none 0 0]) BK3.out 0 _ rfl⟩
       have n3_ : Aside0 ((w39.setCell ⟨gb3, 0, none⟩ (.slice Ao1 t.length co1)).heap[gL]? = some (.cells #[.slice Aa fa.length ca, .slice Ab fb.length cb, .slice Ab fb.length cb, .slice Aa fa.length ca] 36 (0, 0))) := ⟨blk_far BKL.out (Ne.symm NB3.out) _⟩
       have n4_ : Aside0 (Below w.heap.size w (w39.setCell ⟨gb3, 0, none⟩ (.slice Ao1 t.length co1))) := ⟨bw⟩
       clear HO7 HO1 BK3 BKL HB
       generalize w39.setCell ⟨gb3, 0, none⟩ (.slice Ao1 t.length co1) = w40 at n0_ n1_ n2_ n3_ n4_ ⊢
       have HO7 := n0_
       have HO1 := n1_
       have BK3 := n2_
       have BKL := n3_
       have HB := n4_
       clear n0_ n1_ n2_ n3_ n4_
       have H := HH.out
       clear HH
       replace H := gb H; obtain ⟨rfl, H⟩ | ⟨rfl, H⟩ := H
       rotate_left
       ·have H' := am H
        clear H
        go_wp2_with (first | ((with_reducible refine gate_callee (f := 46) rfl ?_); refine gl (some 57) Try.func46 #[.slice (some ad7) x7.length co7, .func (.func 47) #[] #[.pointer (some ⟨gb3, 0, none⟩)]] ?_; (refine Calls.mono (slices_ContainsFunc_int_int.calls k3 (some ad7) co7 x7 gb3 Ao1 co1 t o _ ?side1 ?side2 ?side3 ?side4 ?side5 A29.out) ?_); (case side1 => exact co (Kd.S_reads' HO7.out).2.2); (case side2 => exact (Kd.S_reads' HO7.out).2.1); (case side3 => exact bo BK3.out); (case side4 => exact co (Kd.R_reads' HO1.out).2.2); (case side5 => exact (Kd.R_reads' HO1.out).2.1); rintro e w41 ⟨rfl, hd_⟩; have hb := Drawn0.below hd_; clear hd_; refine ⟨_, rfl, ?_⟩; replace HO7 := sK HO7 hb; replace HO1 := rK HO1 hb; replace BK3 := kb BK3 hb; replace BKL := kb BKL hb; replace HB := am (below_step bw hb); clear hb; have hcz3 := bc BK3 0 (.slice Ao1 t.length co1); have hfz3 := blk_frozen BK3.out 0))
        go_roundg k3
        case measure => have := HK1.out; have := HK2.out; have := HK3.out; omega
        case rel => exact ⟨x7, (wrap64 (x42 + 1)), rr, H', ⟨by have := HK1.out; have := HK2.out; have := HK3.out; omega⟩, ⟨Kd.S_mono (so HO7.out) (fun _ _ => trivial)⟩, ⟨bo BKL.out⟩, ⟨bw⟩⟩
       replace H := gb H; obtain ⟨rfl, H⟩ | ⟨rfl, H⟩ := H
       ·have H' := am H
        clear H
        go_wp2_with (first | ((with_reducible refine gate_callee (f := 46) rfl ?_); refine gl (some 57) Try.func46 #[.slice (some ad7) x7.length co7, .func (.func 47) #[] #[.pointer (some ⟨gb3, 0, none⟩)]] ?_; (refine Calls.mono (slices_ContainsFunc_int_int.calls k3 (some ad7) co7 x7 gb3 Ao1 co1 t true _ ?side1 ?side2 ?side3 ?side4 ?side5 A29.out) ?_); (case side1 => exact co (Kd.S_reads' HO7.out).2.2); (case side2 => exact (Kd.S_reads' HO7.out).2.1); (case side3 => exact bo BK3.out); (case side4 => exact co (Kd.R_reads' HO1.out).2.2); (case side5 => exact (Kd.R_reads' HO1.out).2.1); rintro e w41 ⟨rfl, hd_⟩; have hb := Drawn0.below hd_; clear hd_; refine ⟨_, rfl, ?_⟩; replace HO7 := sK HO7 hb; replace HO1 := rK HO1 hb; replace BK3 := kb BK3 hb; replace BKL := kb BKL hb; replace HB := am (below_step bw hb); clear hb; have hcz3 := bc BK3 0 (.slice Ao1 t.length co1); have hfz3 := blk_frozen BK3.out 0))
        go_roundg k3
        case measure => have := HK1.out; have := HK2.out; have := HK3.out; omega
        case rel => exact ⟨x7, (wrap64 (x42 + 1)), rr, H', ⟨by have := HK1.out; have := HK2.out; have := HK3.out; omega⟩, ⟨Kd.S_mono (so HO7.out) (fun _ _ => trivial)⟩, ⟨bo BKL.out⟩, ⟨bw⟩⟩
       replace H := gi H; obtain ⟨c40, H⟩ | ⟨c40, H⟩ := H
       rotate_left
       ·have H' := am H
        clear H
        go_wp2_with (first | ((with_reducible refine gate_callee (f := 46) rfl ?_); refine gl (some 57) Try.func46 #[.slice (some ad7) x7.length co7, .func (.func 47) #[] #[.pointer (some ⟨gb3, 0, none⟩)]] ?_; (refine Calls.mono (slices_ContainsFunc_int_int.calls k3 (some ad7) co7 x7 gb3 Ao1 co1 t false _ ?side1 ?side2 ?side3 ?side4 ?side5 A29.out) ?_); (case side1 => exact co (Kd.S_reads' HO7.out).2.2); (case side2 => exact (Kd.S_reads' HO7.out).2.1); (case side3 => exact bo BK3.out); (case side4 => exact co (Kd.R_reads' HO1.out).2.2); (case side5 => exact (Kd.R_reads' HO1.out).2.1); rintro e w41 ⟨rfl, hd_⟩; have hb := Drawn0.below hd_; clear hd_; refine ⟨_, rfl, ?_⟩; replace HO7 := sK HO7 hb; replace HO1 := rK HO1 hb; replace BK3 := kb BK3 hb; replace BKL := kb BKL hb; replace HB := am (below_step bw hb); clear hb; have hcz3 := bc BK3 0 (.slice Ao1 t.length co1); have hfz3 := blk_frozen BK3.out 0))
        go_roundg k3
        case measure => have := HK1.out; have := HK2.out; have := HK3.out; omega
        case rel => exact ⟨x7, (wrap64 (x42 + 1)), rr, H', ⟨by have := HK1.out; have := HK2.out; have := HK3.out; omega⟩, ⟨Kd.S_mono (so HO7.out) (fun _ _ => trivial)⟩, ⟨bo BKL.out⟩, ⟨bw⟩⟩
       replace H := gp H; obtain ⟨c41, H⟩ := H
       have LM := am c41
       clear c41
       obtain ⟨y, hy⟩ : ∃ y_ : List (List Int), y_ = x7 ++ [t] := ⟨_, rfl⟩
       rw [← hy] at H
       have Ny := am hy
       clear hy
       have H' := am H
       clear H
       go_wp2_with (first | ((with_reducible refine gate_callee (f := 46) rfl ?_); refine gl (some 57) Try.func46 #[.slice (some ad7) x7.length co7, .func (.func 47) #[] #[.pointer (some ⟨gb3, 0, none⟩)]] ?_; (refine Calls.mono (slices_ContainsFunc_int_int.calls k3 (some ad7) co7 x7 gb3 Ao1 co1 t false _ ?side1 ?side2 ?side3 ?side4 ?side5 A29.out) ?_); (case side1 => exact co (Kd.S_reads' HO7.out).2.2); (case side2 => exact (Kd.S_reads' HO7.out).2.1); (case side3 => exact bo BK3.out); (case side4 => exact co (Kd.R_reads' HO1.out).2.2); (case side5 => exact (Kd.R_reads' HO1.out).2.1); rintro e w41 ⟨rfl, hd_⟩; have hb := Drawn0.below hd_; clear hd_; refine ⟨_, rfl, ?_⟩; replace HO7 := sK HO7 hb; replace HO1 := rK HO1 hb; replace BK3 := kb BK3 hb; replace BKL := kb BKL hb; replace HB := am (below_step bw hb); clear hb; have hcz3 := bc BK3 0 (.slice Ao1 t.length co1); have hfz3 := blk_frozen BK3.out 0) | ((with_reducible refine gate_builtin (b := .append) (xs := #[.tmp 69, .tmp 71]) rfl ?_); at_builtin; refine Kd.S_append (Kd.slice 3 (Kd.int .i64)) (w0 := w) w.heap.size rfl (.tmp 69) (.tmp 71) 43 22 (.slice none 0 0) 24 rfl Try.underlying43 impl_ReachedBy.info rfl (by decide) (by omega) (.slice (some ad7) x7.length co7) x7 t [.slice Ao1 t.length co1] (fun _ => True) (fun k_ => some k_ = (.slice Ao1 t.length co1 : Value).ownBlock) rfl rfl ?aP (fun k_ hk_ => ⟨trivial, ((Kd.R_apart' HO1.out (Kd.S_typed HO7.out) (by decide)).1 k_ hk_.symm).2⟩) (fun _ _ => trivial) ?aO ?aB ?aS ?aL ?_; (case aP => exact ⟨_, rfl, Kd.R_mono (Kd.R_tight rfl HO1.out) (fun _ h_ => h_)⟩); (case aB => exact bw); (case aO => exact Kd.S_mono HO7.out (fun _ hk => ⟨trivial, fun e_ => hk e_⟩)); (case aS => exact (below_size bw)); (case aL => have := LM.out; omega); intro v5 w43 ho hb hg hat; rw [← Ny.out] at ho; replace BKL := am (blk_grown (g := gL) (o := .cells #[.slice Aa fa.length ca, .slice Ab fb.length cb, .slice Ab fb.length cb, .slice Aa fa.length ca] 36 (0, 0)) (bo BKL.out) hg (Kd.S_ne HO7.out BKL.out (by decide))); replace HB := am hb; have HO5 := am ho; clear HO7 HO1 BK3 ho hb hg hat hcz3 hfz3))
       go_roundg k3
       case measure => have := HK1.out; have := HK2.out; have := HK3.out; omega
       case rel => exact ⟨y, (wrap64 (x42 + 1)), rr, H', ⟨by have := HK1.out; have := HK2.out; have := HK3.out; omega⟩, ⟨so HO5.out⟩, ⟨bo BKL.out⟩, ⟨bw⟩⟩


/-! ### laws_eqIntSS: function 31 -/
def laws_eqIntSS.l0 : Nat → List (List Int) → List (List Int) → Int → Option (Bool)
 | 0, _, _, _ => none
 | k + 1, x0, x1, x5 => if x5 < (x0.length : Int) then (if 0 ≤ x5 then (if x5 < (x1.length : Int) then ((laws_eqIntS.f k (rd_L2 x0 x5) (rd_L2 x1 x5)).bind fun t195 => (if t195 = true then (laws_eqIntSS.l0 k x0 x1 (wrap64 (x5 + 1))) else (some false))) else (none)) else (none)) else (some true)
def laws_eqIntSS.f (k : Nat) (l0 : List (List Int)) (l1 : List (List Int)) : Option (Bool) := if (l0.length : Int) = (l1.length : Int) then (laws_eqIntSS.l0 k l0 l1 0) else (some false)
set_option maxHeartbeats 8000000 in
set_option maxRecDepth 100000 in
theorem laws_eqIntSS.calls (k : Nat) (A0 : Option Addr) (c0 : Nat) (l0 : List (List Int)) (A1 : Option Addr) (c1 : Nat) (l1 : List (List Int)) (r : Bool) (w : World) (hr0 : Kd.C (Kd.slice 3 (Kd.int .i64)) w A0 l0.length l0) (hc0 : l0.length ≤ c0) (hr1 : Kd.C (Kd.slice 3 (Kd.int .i64)) w A1 l1.length l1) (hc1 : l1.length ≤ c1) (h : laws_eqIntSS.f k l0 l1 = some r) :
  Calls Try.prog 31 #[.slice A0 l0.length c0, .slice A1 l1.length c1] w fun e w' => e = .returned (.bool r) ∧ Drawn0 w w' := by
 have HR0 := am hr0
 have HC0 := am hc0
 clear hr0 hc0
 have HR1 := am hr1
 have HC1 := am hc1
 clear hr1 hc1
 have H : (if (l0.length : Int) = (l1.length : Int) then (laws_eqIntSS.l0 k l0 l1 0) else (some false)) = some r := h
 clear h
 by_cases c3 : (l0.length : Int) = (l1.length : Int)
 ·rw [if_pos c3] at H
  have c3b0 : ((l0.length : Int) == (l1.length : Int)) = true := beq_iff_eq.mpr c3
  have c3b1 : ((l0.length : Int) != (l1.length : Int)) = false := bne_eq_false_iff_eq.mpr c3
  have c3b2 : (l0.length == l1.length) = true := by first | simpa using c3 | (simp at c3 ⊢; omega)
  clear c3
  have H' := am H
  clear H
  go_enter Try.func31, Try.ntmps31
  go_wp2
  repeat (go_quiet (fail); try go_wp2)
  go_loopg [5] k (fun kq v5 w' => ∃ (x5_1 : Int), v5 = .int .i64 x5_1 ∧ Aside0 (laws_eqIntSS.l0 kq l0 l1 x5_1 = some r) ∧ Aside0 (kq ≤ k) ∧ Drawn0 w w')
  case atStart => exact ⟨(0), rr, H', ⟨Nat.le_refl _⟩, dw⟩
  case round =>
   clear H'
   try clear c1; try clear c3; try clear c3b0; try clear c3b1; try clear c3b2
   obtain ⟨x5_1, rfl, HA, HK1, ⟨m1, rfl⟩⟩ := hrel
   cases gk with
   | zero => exact absurd HA.out (by simp [laws_eqIntSS.l0])
   | succ k1 =>
    have H := HA.out
    clear HA
    simp only [laws_eqIntSS.l0] at H
    replace H := gi H; obtain ⟨c4b0, H⟩ | ⟨c4b0, H⟩ := H
    ·replace H := gd H; obtain ⟨c5b0, H⟩ := H
     replace H := gd H; obtain ⟨c6b0, H⟩ := H
     replace H := ga H; obtain ⟨t195, A7, H⟩ := H
     replace H := gb H; obtain ⟨rfl, H⟩ | ⟨rfl, H⟩ := H
     ·have H' := am H
      clear H
      obtain ⟨⟨ad193, A193_0, c193_0, e193, hx193_0, hl193_0, hi193_0⟩, p193, q193⟩ := pq (at_L2 HR0.out x5_1)
      cases e193
      have HR193_0 := am hi193_0
      have HC193_0 := am hl193_0
      clear hi193_0 hl193_0
      obtain ⟨⟨ad194, A194_0, c194_0, e194, hx194_0, hl194_0, hi194_0⟩, p194, q194⟩ := pq (at_L2 HR1.out x5_1)
      cases e194
      have HR194_0 := am hi194_0
      have HC194_0 := am hl194_0
      clear hi194_0 hl194_0
      go_wp2_with (first | (go_at_call 12; (with_reducible refine (laws_eqIntS.calls k1 _ _ (rd_L2 l0 x5_1) _ _ (rd_L2 l1 x5_1) true _ ?side1 ?side2 ?side3 ?side4 A7.out).mono ?_); (case side1 => exact co HR193_0.out); (case side2 => exact HC193_0.out); (case side3 => exact co HR194_0.out); (case side4 => exact HC194_0.out); rintro e w' ⟨rfl, ⟨nd, rfl⟩⟩; (try first | exact ⟨rfl, _, World.drewN_drewN _ _ _⟩ | exact ⟨rfl, _, Eq.trans (World.drewN_drewN _ _ _) (congrArg (World.drewN _) (Nat.add_assoc _ _ _))⟩)))
      repeat (go_quiet (first | (go_at_call 12; (with_reducible refine (laws_eqIntS.calls k1 _ _ (rd_L2 l0 x5_1) _ _ (rd_L2 l1 x5_1) true _ ?side1 ?side2 ?side3 ?side4 A7.out).mono ?_); (case side1 => exact co HR193_0.out); (case side2 => exact HC193_0.out); (case side3 => exact co HR194_0.out); (case side4 => exact HC194_0.out); rintro e w' ⟨rfl, ⟨nd, rfl⟩⟩; (try first | exact ⟨rfl, _, World.drewN_drewN _ _ _⟩ | exact ⟨rfl, _, Eq.trans (World.drewN_drewN _ _ _) (congrArg (World.drewN _) (Nat.add_assoc _ _ _))⟩))); try go_wp2_with (first | (go_at_call 12; (with_reducible refine (laws_eqIntS.calls k1 _ _ (rd_L2 l0 x5_1) _ _ (rd_L2 l1 x5_1) true _ ?side1 ?side2 ?side3 ?side4 A7.out).mono ?_); (case side1 => exact co HR193_0.out); (case side2 => exact HC193_0.out); (case side3 => exact co HR194_0.out); (case side4 => exact HC194_0.out); rintro e w' ⟨rfl, ⟨nd, rfl⟩⟩; (try first | exact ⟨rfl, _, World.drewN_drewN _ _ _⟩ | exact ⟨rfl, _, Eq.trans (World.drewN_drewN _ _ _) (congrArg (World.drewN _) (Nat.add_assoc _ _ _))⟩))))
      go_roundg k1
      case measure => have := HK1.out; omega
      case rel => exact ⟨(wrap64 (x5_1 + 1)), rr, H', ⟨by have := HK1.out; omega⟩, dw⟩
     obtain rfl := Option.some.inj H
     obtain ⟨⟨ad193, A193_0, c193_0, e193, hx193_0, hl193_0, hi193_0⟩, p193, q193⟩ := pq (at_L2 HR0.out x5_1)
     cases e193
     have HR193_0 := am hi193_0
     have HC193_0 := am hl193_0
     clear hi193_0 hl193_0
     obtain ⟨⟨ad194, A194_0, c194_0, e194, hx194_0, hl194_0, hi194_0⟩, p194, q194⟩ := pq (at_L2 HR1.out x5_1)
     cases e194
     have HR194_0 := am hi194_0
     have HC194_0 := am hl194_0
     clear hi194_0 hl194_0
     go_wp2_with (first | (go_at_call 12; (with_reducible refine (laws_eqIntS.calls k1 _ _ (rd_L2 l0 x5_1) _ _ (rd_L2 l1 x5_1) false _ ?side1 ?side2 ?side3 ?side4 A7.out).mono ?_); (case side1 => exact co HR193_0.out); (case side2 => exact HC193_0.out); (case side3 => exact co HR194_0.out); (case side4 => exact HC194_0.out); rintro e w' ⟨rfl, ⟨nd, rfl⟩⟩; (try first | exact ⟨rfl, _, World.drewN_drewN _ _ _⟩ | exact ⟨rfl, _, Eq.trans (World.drewN_drewN _ _ _) (congrArg (World.drewN _) (Nat.add_assoc _ _ _))⟩)))
     repeat (go_quiet (first | (go_at_call 12; (with_reducible refine (laws_eqIntS.calls k1 _ _ (rd_L2 l0 x5_1) _ _ (rd_L2 l1 x5_1) false _ ?side1 ?side2 ?side3 ?side4 A7.out).mono ?_); (case side1 => exact co HR193_0.out); (case side2 => exact HC193_0.out); (case side3 => exact co HR194_0.out); (case side4 => exact HC194_0.out); rintro e w' ⟨rfl, ⟨nd, rfl⟩⟩; (try first | exact ⟨rfl, _, World.drewN_drewN _ _ _⟩ | exact ⟨rfl, _, Eq.trans (World.drewN_drewN _ _ _) (congrArg (World.drewN _) (Nat.add_assoc _ _ _))⟩))); try go_wp2_with (first | (go_at_call 12; (with_reducible refine (laws_eqIntS.calls k1 _ _ (rd_L2 l0 x5_1) _ _ (rd_L2 l1 x5_1) false _ ?side1 ?side2 ?side3 ?side4 A7.out).mono ?_); (case side1 => exact co HR193_0.out); (case side2 => exact HC193_0.out); (case side3 => exact co HR194_0.out); (case side4 => exact HC194_0.out); rintro e w' ⟨rfl, ⟨nd, rfl⟩⟩; (try first | exact ⟨rfl, _, World.drewN_drewN _ _ _⟩ | exact ⟨rfl, _, Eq.trans (World.drewN_drewN _ _ _) (congrArg (World.drewN _) (Nat.add_assoc _ _ _))⟩))))
     go_ret
     exact ⟨rr, dw⟩
    obtain rfl := Option.some.inj H
    go_wp2
    repeat (go_quiet (fail); try go_wp2)
    go_ret
    exact ⟨rr, dw⟩
 rw [if_neg c3] at H
 have c3b0 : ((l0.length : Int) == (l1.length : Int)) = false := beq_eq_false_iff_ne.mpr c3
 have c3b1 : ((l0.length : Int) != (l1.length : Int)) = true := bne_iff_ne.mpr c3
 have c3b2 : (l0.length == l1.length) = false := by first | simpa using c3 | (simp at c3 ⊢; omega)
 obtain rfl := Option.some.inj H
 go_enter Try.func31, Try.ntmps31
 go_wp2
 repeat (go_quiet (fail); try go_wp2)
 go_ret
 exact ⟨rr, dw⟩


/-! ### laws_eqRelation: function 25 -/
def laws_eqRelation.f (k : Nat) (l0_0 : List Int) (l0_1 : List Int) (l1_0 : List Int) (l1_1 : List Int) : Option (Bool) := (laws_eqIntS.f k l0_0 l1_0).bind fun t198 => (if t198 = true then ((laws_eqIntS.f k l0_1 l1_1).bind fun t199 => (if t199 = true then (some true) else (some false))) else (some false))
set_option maxHeartbeats 8000000 in
set_option maxRecDepth 100000 in
theorem laws_eqRelation.calls (k : Nat) (A0_0 : Option Addr) (c0_0 : Nat) (l0_0 : List Int) (A0_1 : Option Addr) (c0_1 : Nat) (l0_1 : List Int) (A1_0 : Option Addr) (c1_0 : Nat) (l1_0 : List Int) (A1_1 : Option Addr) (c1_1 : Nat) (l1_1 : List Int) (r : Bool) (w : World) (hr0_0 : Kd.C (Kd.int .i64) w A0_0 l0_0.length l0_0) (hc0_0 : l0_0.length ≤ c0_0) (hr0_1 : Kd.C (Kd.int .i64) w A0_1 l0_1.length l0_1) (hc0_1 : l0_1.length ≤ c0_1) (hr1_0 : Kd.C (Kd.int .i64) w A1_0 l1_0.length l1_0) (hc1_0 : l1_0.length ≤ c1_0) (hr1_1 : Kd.C (Kd.int .i64) w A1_1 l1_1.length l1_1) (hc1_1 : l1_1.length ≤ c1_1) (h : laws_eqRelation.f k l0_0 l0_1 l1_0 l1_1 = some r) :
  Calls Try.prog 25 #[.agg #[.slice A0_0 l0_0.length c0_0, .slice A0_1 l0_1.length c0_1], .agg #[.slice A1_0 l1_0.length c1_0, .slice A1_1 l1_1.length c1_1]] w fun e w' => e = .returned (.bool r) ∧ Below w.heap.size w w' := by
 have hu36 := Try.underlying36
 have HR0_0 := am hr0_0
 have HC0_0 := am hc0_0
 clear hr0_0 hc0_0
 have HR0_1 := am hr0_1
 have HC0_1 := am hc0_1
 clear hr0_1 hc0_1
 have HR1_0 := am hr1_0
 have HC1_0 := am hc1_0
 clear hr1_0 hc1_0
 have HR1_1 := am hr1_1
 have HC1_1 := am hc1_1
 clear hr1_1 hc1_1
 have HB := am (Below.refl w.heap.size w)
 have H : ((laws_eqIntS.f k l0_0 l1_0).bind fun t198 => (if t198 = true then ((laws_eqIntS.f k l0_1 l1_1).bind fun t199 => (if t199 = true then (some true) else (some false))) else (some false))) = some r := h
 clear h
 replace H := ga H; obtain ⟨t198, A3, H⟩ := H
 replace H := gb H; obtain ⟨rfl, H⟩ | ⟨rfl, H⟩ := H
 ·replace H := ga H; obtain ⟨t199, A5, H⟩ := H
  replace H := gb H; obtain ⟨rfl, H⟩ | ⟨rfl, H⟩ := H
  ·obtain rfl := Option.some.inj H
   go_enter Try.func25, Try.ntmps25
   go_wp2_with (first | ((with_reducible refine gate_dst (N := 2) rfl ?_); refine bx 2 #[.slice A0_0 l0_0.length c0_0, .slice A0_1 l0_1.length c0_1] 36 ?_; intro gb196 hg w7 hbox hb; have BK196 := am (hbox); have GW196 := am (gs hg : w.heap.size ≤ gb196); have GE196 := GW196; replace HB := am (below_step bw hb); clear hb hbox hg) | ((with_reducible refine gate_dst (N := 3) rfl ?_); refine bx 3 #[.slice A1_0 l1_0.length c1_0, .slice A1_1 l1_1.length c1_1] 36 ?_; intro gb197 hg w8 hbox hb; have BK197 := am (hbox); have GW197 := am (gs hg : w.heap.size ≤ gb197); have GE197 := GW197; replace HB := am (below_step bw hb); have NB196_197 := nl hg BK196; have NB197_196 := ns NB196_197; replace BK196 := kb BK196 hb; clear hb hbox hg; have hnb9 := NB196_197.out; have hnc9 := NB197_196.out; have hcz10_0 := bc BK196 0 (.slice A0_0 l0_0.length c0_0); have hcz10_1 := bc BK196 1 (.slice A0_1 l0_1.length c0_1); have hfz10_0 := blk_frozen BK196.out 0; have hfz10_1 := blk_frozen BK196.out 1; have hcz11_0 := bc BK197 0 (.slice A1_0 l1_0.length c1_0); have hcz11_1 := bc BK197 1 (.slice A1_1 l1_1.length c1_1); have hfz11_0 := blk_frozen BK197.out 0; have hfz11_1 := blk_frozen BK197.out 1) | ((with_reducible refine gate_callee (f := 12) rfl ?_); refine gl (some 9) Try.func12 #[.slice A0_0 l0_0.length c0_0, .slice A1_0 l1_0.length c1_0] ?_; (with_reducible refine (laws_eqIntS.calls k _ _ l0_0 _ _ l1_0 true _ ?side1 ?side2 ?side3 ?side4 A3.out).mono ?_); (case side1 => exact co (Kd.C_below HR0_0.out HB.out)); (case side2 => exact HC0_0.out); (case side3 => exact co (Kd.C_below HR1_0.out HB.out)); (case side4 => exact HC1_0.out); rintro e w' ⟨rfl, ⟨nd, rfl⟩⟩; refine ⟨_, rfl, ?_⟩) | ((with_reducible refine gate_callee (f := 12) rfl ?_); refine gl (some 15) Try.func12 #[.slice A0_1 l0_1.length c0_1, .slice A1_1 l1_1.length c1_1] ?_; (with_reducible refine (laws_eqIntS.calls k _ _ l0_1 _ _ l1_1 true _ ?side1 ?side2 ?side3 ?side4 A5.out).mono ?_); (case side1 => exact co (Kd.C_below HR0_1.out bw)); (case side2 => exact HC0_1.out); (case side3 => exact co (Kd.C_below HR1_1.out bw)); (case side4 => exact HC1_1.out); rintro e w' ⟨rfl, ⟨nd, rfl⟩⟩; refine ⟨_, rfl, ?_⟩))
   go_ret
   exact ⟨re, bw⟩
  obtain rfl := Option.some.inj H
  go_enter Try.func25, Try.ntmps25
  go_wp2_with (first | ((with_reducible refine gate_dst (N := 2) rfl ?_); refine bx 2 #[.slice A0_0 l0_0.length c0_0, .slice A0_1 l0_1.length c0_1] 36 ?_; intro gb196 hg w12 hbox hb; have BK196 := am (hbox); have GW196 := am (gs hg : w.heap.size ≤ gb196); have GE196 := GW196; replace HB := am (below_step bw hb); clear hb hbox hg) | ((with_reducible refine gate_dst (N := 3) rfl ?_); refine bx 3 #[.slice A1_0 l1_0.length c1_0, .slice A1_1 l1_1.length c1_1] 36 ?_; intro gb197 hg w13 hbox hb; have BK197 := am (hbox); have GW197 := am (gs hg : w.heap.size ≤ gb197); have GE197 := GW197; replace HB := am (below_step bw hb); have NB196_197 := nl hg BK196; have NB197_196 := ns NB196_197; replace BK196 := kb BK196 hb; clear hb hbox hg; have hnb14 := NB196_197.out; have hnc14 := NB197_196.out; have hcz15_0 := bc BK196 0 (.slice A0_0 l0_0.length c0_0); have hcz15_1 := bc BK196 1 (.slice A0_1 l0_1.length c0_1); have hfz15_0 := blk_frozen BK196.out 0; have hfz15_1 := blk_frozen BK196.out 1; have hcz16_0 := bc BK197 0 (.slice A1_0 l1_0.length c1_0); have hcz16_1 := bc BK197 1 (.slice A1_1 l1_1.length c1_1); have hfz16_0 := blk_frozen BK197.out 0; have hfz16_1 := blk_frozen BK197.out 1) | ((with_reducible refine gate_callee (f := 12) rfl ?_); refine gl (some 9) Try.func12 #[.slice A0_0 l0_0.length c0_0, .slice A1_0 l1_0.length c1_0] ?_; (with_reducible refine (laws_eqIntS.calls k _ _ l0_0 _ _ l1_0 true _ ?side1 ?side2 ?side3 ?side4 A3.out).mono ?_); (case side1 => exact co (Kd.C_below HR0_0.out HB.out)); (case side2 => exact HC0_0.out); (case side3 => exact co (Kd.C_below HR1_0.out HB.out)); (case side4 => exact HC1_0.out); rintro e w' ⟨rfl, ⟨nd, rfl⟩⟩; refine ⟨_, rfl, ?_⟩) | ((with_reducible refine gate_callee (f := 12) rfl ?_); refine gl (some 15) Try.func12 #[.slice A0_1 l0_1.length c0_1, .slice A1_1 l1_1.length c1_1] ?_; (with_reducible refine (laws_eqIntS.calls k _ _ l0_1 _ _ l1_1 false _ ?side1 ?side2 ?side3 ?side4 A5.out).mono ?_); (case side1 => exact co (Kd.C_below HR0_1.out bw)); (case side2 => exact HC0_1.out); (case side3 => exact co (Kd.C_below HR1_1.out bw)); (case side4 => exact HC1_1.out); rintro e w' ⟨rfl, ⟨nd, rfl⟩⟩; refine ⟨_, rfl, ?_⟩))
  go_ret
  exact ⟨re, bw⟩
 obtain rfl := Option.some.inj H
 go_enter Try.func25, Try.ntmps25
 go_wp2_with (first | ((with_reducible refine gate_dst (N := 2) rfl ?_); refine bx 2 #[.slice A0_0 l0_0.length c0_0, .slice A0_1 l0_1.length c0_1] 36 ?_; intro gb196 hg w17 hbox hb; have BK196 := am (hbox); have GW196 := am (gs hg : w.heap.size ≤ gb196); have GE196 := GW196; replace HB := am (below_step bw hb); clear hb hbox hg) | ((with_reducible refine gate_dst (N := 3) rfl ?_); refine bx 3 #[.slice A1_0 l1_0.length c1_0, .slice A1_1 l1_1.length c1_1] 36 ?_; intro gb197 hg w18 hbox hb; have BK197 := am (hbox); have GW197 := am (gs hg : w.heap.size ≤ gb197); have GE197 := GW197; replace HB := am (below_step bw hb); have NB196_197 := nl hg BK196; have NB197_196 := ns NB196_197; replace BK196 := kb BK196 hb; clear hb hbox hg; have hnb19 := NB196_197.out; have hnc19 := NB197_196.out; have hcz20_0 := bc BK196 0 (.slice A0_0 l0_0.length c0_0); have hcz20_1 := bc BK196 1 (.slice A0_1 l0_1.length c0_1); have hfz20_0 := blk_frozen BK196.out 0; have hfz20_1 := blk_frozen BK196.out 1; have hcz21_0 := bc BK197 0 (.slice A1_0 l1_0.length c1_0); have hcz21_1 := bc BK197 1 (.slice A1_1 l1_1.length c1_1); have hfz21_0 := blk_frozen BK197.out 0; have hfz21_1 := blk_frozen BK197.out 1) | ((with_reducible refine gate_callee (f := 12) rfl ?_); refine gl (some 9) Try.func12 #[.slice A0_0 l0_0.length c0_0, .slice A1_0 l1_0.length c1_0] ?_; (with_reducible refine (laws_eqIntS.calls k _ _ l0_0 _ _ l1_0 false _ ?side1 ?side2 ?side3 ?side4 A3.out).mono ?_); (case side1 => exact co (Kd.C_below HR0_0.out HB.out)); (case side2 => exact HC0_0.out); (case side3 => exact co (Kd.C_below HR1_0.out HB.out)); (case side4 => exact HC1_0.out); rintro e w' ⟨rfl, ⟨nd, rfl⟩⟩; refine ⟨_, rfl, ?_⟩))
 go_ret
 exact ⟨re, bw⟩


/-! ### laws_eqRelationS: function 32 -/
def laws_eqRelationS.l0 : Nat → List (S36) → List (S36) → Int → Option (Bool)
 | 0, _, _, _ => none
 | k + 1, x0, x1, x5 => if x5 < (x0.length : Int) then (if 0 ≤ x5 then (if x5 < (x1.length : Int) then ((laws_eqRelation.f k ((rd_T36 x0 x5).f0) ((rd_T36 x0 x5).f1) ((rd_T36 x1 x5).f0) ((rd_T36 x1 x5).f1)).bind fun t202 => (if t202 = true then (laws_eqRelationS.l0 k x0 x1 (wrap64 (x5 + 1))) else (some false))) else (none)) else (none)) else (some true)
def laws_eqRelationS.f (k : Nat) (l0 : List (S36)) (l1 : List (S36)) : Option (Bool) := if (l0.length : Int) = (l1.length : Int) then (laws_eqRelationS.l0 k l0 l1 0) else (some false)
def laws_eqRelationS.T6 : Bool × List (List Nat × List Nat) := (true, [([], []), ([], []), ([0, 1], [0, 1]), ([2], [2]), ([], []), ([], []), ([4, 5], [4, 5]), ([6], [6]), ([3, 7], [3, 7]), ([8], [8])])
def laws_eqRelationS.B6 : List Nat := [0, 0, 3, 7, 0, 0, 48, 112, 255, 511]
theorem laws_eqRelationS.tab6 : rtab .any (opsOf Try.f32 6) = laws_eqRelationS.T6 := by kernel_rfl
theorem laws_eqRelationS.bits6 : waitsOk laws_eqRelationS.T6.2 laws_eqRelationS.B6 = true := by kernel_rfl
set_option maxHeartbeats 8000000 in
set_option maxRecDepth 100000 in
theorem laws_eqRelationS.calls (k : Nat) (A0 : Option Addr) (c0 : Nat) (l0 : List (S36)) (A1 : Option Addr) (c1 : Nat) (l1 : List (S36)) (r : Bool) (w : World) (hr0 : Kd.C k36 w A0 l0.length l0) (hc0 : l0.length ≤ c0) (hr1 : Kd.C k36 w A1 l1.length l1) (hc1 : l1.length ≤ c1) (h : laws_eqRelationS.f k l0 l1 = some r) :
  Calls Try.prog 32 #[.slice A0 l0.length c0, .slice A1 l1.length c1] w fun e w' => e = .returned (.bool r) ∧ Below w.heap.size w w' := by
 have hu36 := Try.underlying36
 have HR0 := am hr0
 have HC0 := am hc0
 clear hr0 hc0
 have HR1 := am hr1
 have HC1 := am hc1
 clear hr1 hc1
 have HB := am (Below.refl w.heap.size w)
 have H : (if (l0.length : Int) = (l1.length : Int) then (laws_eqRelationS.l0 k l0 l1 0) else (some false)) = some r := h
 clear h
 by_cases c3 : (l0.length : Int) = (l1.length : Int)
 ·rw [if_pos c3] at H
  have c3b0 : ((l0.length : Int) == (l1.length : Int)) = true := beq_iff_eq.mpr c3
  have c3b1 : ((l0.length : Int) != (l1.length : Int)) = false := bne_eq_false_iff_eq.mpr c3
  have c3b2 : (l0.length == l1.length) = true := by first | simpa using c3 | (simp at c3 ⊢; omega)
  clear c3
  have H' := am H
  clear H
  go_enter Try.func32, Try.ntmps32
  go_wp2
  go_loopg [5] k (fun kq v5 w' => ∃ (x5_1 : Int), v5 = .int .i64 x5_1 ∧ Aside0 (laws_eqRelationS.l0 kq l0 l1 x5_1 = some r) ∧ Aside0 (kq ≤ k) ∧ Aside0 (Below w.heap.size w w'))
  case atStart => exact ⟨(0), rr, H', ⟨Nat.le_refl _⟩, ⟨bw⟩⟩
  case round =>
   clear H'
   try clear c1; try clear c3; try clear c3b0; try clear c3b1; try clear c3b2
   obtain ⟨x5_1, rfl, HA, HK1, HB⟩ := hrel
   cases gk with
   | zero => exact absurd HA.out (by simp [laws_eqRelationS.l0])
   | succ k1 =>
    have H := HA.out
    clear HA
    simp only [laws_eqRelationS.l0] at H
    replace H := gi H; obtain ⟨c4b0, H⟩ | ⟨c4b0, H⟩ := H
    ·replace H := gd H; obtain ⟨c5b0, H⟩ := H
     replace H := gd H; obtain ⟨c6b0, H⟩ := H
     replace H := ga H; obtain ⟨t202, A7, H⟩ := H
     replace H := gb H; obtain ⟨rfl, H⟩ | ⟨rfl, H⟩ := H
     ·have H' := am H
      clear H
      try go_wp2
      replace HB := am (below_drew1 HB.out)
      have p200 : 0 ≤ (x5_1 : Int) := of_decide_eq_true (by first | (with_reducible assumption) | assumption)
      have q200 : x5_1 < (l0.length : Int) := of_decide_eq_true (by first | (with_reducible assumption) | assumption)
      obtain ⟨ad200, A200_0, c200_0, A200_1, c200_1, e200, hx200_0, hx200_1, hl200_0, hi200_0, hl200_1, hi200_1⟩ := at_T36 HR0.out x5_1 p200 q200
      have hw200_1 := hx200_1
      have hw200_0 := hx200_0
      cases e200
      replace hx200_0 := hw HB hx200_0
      replace hx200_1 := hw HB hx200_1
      have HR200_0 := am hi200_0
      have HC200_0 := am hl200_0
      clear hi200_0 hl200_0
      have HR200_1 := am hi200_1
      have HC200_1 := am hl200_1
      clear hi200_1 hl200_1
      replace p200 := eq_true p200
      replace q200 := eq_true q200
      have p201 : 0 ≤ (x5_1 : Int) := of_decide_eq_true (by first | (with_reducible assumption) | assumption)
      have q201 : x5_1 < (l1.length : Int) := of_decide_eq_true (by first | (with_reducible assumption) | assumption)
      obtain ⟨ad201, A201_0, c201_0, A201_1, c201_1, e201, hx201_0, hx201_1, hl201_0, hi201_0, hl201_1, hi201_1⟩ := at_T36 HR1.out x5_1 p201 q201
      have hw201_1 := hx201_1
      have hw201_0 := hx201_0
      cases e201
      replace hx201_0 := hw HB hx201_0
      replace hx201_1 := hw HB hx201_1
      have HR201_0 := am hi201_0
      have HC201_0 := am hl201_0
      clear hi201_0 hl201_0
      have HR201_1 := am hi201_1
      have HC201_1 := am hl201_1
      clear hi201_1 hl201_1
      replace p201 := eq_true p201
      replace q201 := eq_true q201
      refine start_ (n := 10) (S := fun w' => w'.cell? (ad200.add ((x5_1).toNat * 2)) = some (.slice A200_0 ((rd_T36 l0 x5_1).f0).length c200_0) ∧ w'.cell? ⟨(ad200.add ((x5_1).toNat * 2)).block, (ad200.add ((x5_1).toNat * 2)).off + 1, none⟩ = some (.slice A200_1 ((rd_T36 l0 x5_1).f1).length c200_1) ∧ w'.cell? (ad201.add ((x5_1).toNat * 2)) = some (.slice A201_0 ((rd_T36 l1 x5_1).f0).length c201_0) ∧ w'.cell? ⟨(ad201.add ((x5_1).toNat * 2)).block, (ad201.add ((x5_1).toNat * 2)).off + 1, none⟩ = some (.slice A201_1 ((rd_T36 l1 x5_1).f1).length c201_1)) (ds := []) (yz 10 0) (by kernel_rfl) rfl rfl ⟨((HB.out.cell (World.block_lt_of_cell? w _ hw200_0)).trans hw200_0), ((HB.out.cell (World.block_lt_of_cell? w _ hw200_1)).trans hw200_1), ((HB.out.cell (World.block_lt_of_cell? w _ hw201_0)).trans hw201_0), ((HB.out.cell (World.block_lt_of_cell? w _ hw201_1)).trans hw201_1)⟩ (fun hHeld => ?_); refine with_tabW laws_eqRelationS.tab6 laws_eqRelationS.bits6 (fun HT_ HW_ => ?_)
      generalize wr.drew = w9 at HB HR200_0 HR200_1 HR201_0 HR201_1 hx200_0 hx200_1 hx201_0 hx201_1 hHeld ⊢
      refine pa 0 (some 17) (yz 10 1) HT_ ?_
      refine pa 1 (some 18) (yz 10 3) HT_ ?_
      refine pa 2 (some 19) (yz 10 7) HT_ ?_
      refine pa 4 (some 21) (yz 10 23) HT_ ?_
      refine pa 5 (some 22) (yz 10 55) HT_ ?_
      refine pa 6 (some 23) (yz 10 119) HT_ ?_
      refine tk 3 (some 20) (yz 10 127) HT_ HW_ hHeld ?_
      refine tk 7 (some 24) (yz 10 255) HT_ HW_ hHeld ?_
      refine oa 8 (some 25) (yz 10 511) HT_ (fun K hK => ?_)
      refine gm Try.func25 #[.agg #[.slice A200_0 ((rd_T36 l0 x5_1).f0).length c200_0, .slice A200_1 ((rd_T36 l0 x5_1).f1).length c200_1], .agg #[.slice A201_0 ((rd_T36 l1 x5_1).f0).length c201_0, .slice A201_1 ((rd_T36 l1 x5_1).f1).length c201_1]] ?_
      with_reducible refine (laws_eqRelation.calls k1 _ _ ((rd_T36 l0 x5_1).f0) _ _ ((rd_T36 l0 x5_1).f1) _ _ ((rd_T36 l1 x5_1).f0) _ _ ((rd_T36 l1 x5_1).f1) true _ ?side1 ?side2 ?side3 ?side4 ?side5 ?side6 ?side7 ?side8 A7.out).mono ?_
      (case side1 => exact co (Kd.C_below HR200_0.out HB.out))
      (case side2 => exact HC200_0.out)
      (case side3 => exact co (Kd.C_below HR200_1.out HB.out))
      (case side4 => exact HC200_1.out)
      (case side5 => exact co (Kd.C_below HR201_0.out HB.out))
      (case side6 => exact HC201_0.out)
      (case side7 => exact co (Kd.C_below HR201_1.out HB.out))
      (case side8 => exact HC201_1.out)
      rintro e w10 ⟨rfl, hb⟩
      refine ⟨_, rfl, ?_⟩
      replace HB := am (below_step bw hb)
      clear hb
      refine hK.out _ _ ⟨((HB.out.cell (World.block_lt_of_cell? w _ hw200_0)).trans hw200_0), ((HB.out.cell (World.block_lt_of_cell? w _ hw200_1)).trans hw200_1), ((HB.out.cell (World.block_lt_of_cell? w _ hw201_0)).trans hw201_0), ((HB.out.cell (World.block_lt_of_cell? w _ hw201_1)).trans hw201_1)⟩ (fun hHeld => ?_)
      clear hK K
      refine nm (some 25) ?_
      refine pa 9 (some 26) (yz 10 1023) HT_ ?_
      refine done_ (done_of HT_.out (by kernel_rfl)) ?_
      try go_wp2
      go_roundg k1
      case measure => have := HK1.out; omega
      case rel => exact ⟨(wrap64 (x5_1 + 1)), rr, H', ⟨by have := HK1.out; omega⟩, ⟨bw⟩⟩
     obtain rfl := Option.some.inj H
     try go_wp2
     replace HB := am (below_drew1 HB.out)
     have p200 : 0 ≤ (x5_1 : Int) := of_decide_eq_true (by first | (with_reducible assumption) | assumption)
     have q200 : x5_1 < (l0.length : Int) := of_decide_eq_true (by first | (with_reducible assumption) | assumption)
     obtain ⟨ad200, A200_0, c200_0, A200_1, c200_1, e200, hx200_0, hx200_1, hl200_0, hi200_0, hl200_1, hi200_1⟩ := at_T36 HR0.out x5_1 p200 q200
     have hw200_1 := hx200_1
     have hw200_0 := hx200_0
     cases e200
     replace hx200_0 := hw HB hx200_0
     replace hx200_1 := hw HB hx200_1
     have HR200_0 := am hi200_0
     have HC200_0 := am hl200_0
     clear hi200_0 hl200_0
     have HR200_1 := am hi200_1
     have HC200_1 := am hl200_1
     clear hi200_1 hl200_1
     replace p200 := eq_true p200
     replace q200 := eq_true q200
     have p201 : 0 ≤ (x5_1 : Int) := of_decide_eq_true (by first | (with_reducible assumption) | assumption)
     have q201 : x5_1 < (l1.length : Int) := of_decide_eq_true (by first | (with_reducible assumption) | assumption)
     obtain ⟨ad201, A201_0, c201_0, A201_1, c201_1, e201, hx201_0, hx201_1, hl201_0, hi201_0, hl201_1, hi201_1⟩ := at_T36 HR1.out x5_1 p201 q201
     have hw201_1 := hx201_1
     have hw201_0 := hx201_0
     cases e201
     replace hx201_0 := hw HB hx201_0
     replace hx201_1 := hw HB hx201_1
     have HR201_0 := am hi201_0
     have HC201_0 := am hl201_0
     clear hi201_0 hl201_0
     have HR201_1 := am hi201_1
     have HC201_1 := am hl201_1
     clear hi201_1 hl201_1
     replace p201 := eq_true p201
     replace q201 := eq_true q201
     refine start_ (n := 10) (S := fun w' => w'.cell? (ad200.add ((x5_1).toNat * 2)) = some (.slice A200_0 ((rd_T36 l0 x5_1).f0).length c200_0) ∧ w'.cell? ⟨(ad200.add ((x5_1).toNat * 2)).block, (ad200.add ((x5_1).toNat * 2)).off + 1, none⟩ = some (.slice A200_1 ((rd_T36 l0 x5_1).f1).length c200_1) ∧ w'.cell? (ad201.add ((x5_1).toNat * 2)) = some (.slice A201_0 ((rd_T36 l1 x5_1).f0).length c201_0) ∧ w'.cell? ⟨(ad201.add ((x5_1).toNat * 2)).block, (ad201.add ((x5_1).toNat * 2)).off + 1, none⟩ = some (.slice A201_1 ((rd_T36 l1 x5_1).f1).length c201_1)) (ds := []) (yz 10 0) (by kernel_rfl) rfl rfl ⟨((HB.out.cell (World.block_lt_of_cell? w _ hw200_0)).trans hw200_0), ((HB.out.cell (World.block_lt_of_cell? w _ hw200_1)).trans hw200_1), ((HB.out.cell (World.block_lt_of_cell? w _ hw201_0)).trans hw201_0), ((HB.out.cell (World.block_lt_of_cell? w _ hw201_1)).trans hw201_1)⟩ (fun hHeld => ?_); refine with_tabW laws_eqRelationS.tab6 laws_eqRelationS.bits6 (fun HT_ HW_ => ?_)
     generalize wr.drew = w11 at HB HR200_0 HR200_1 HR201_0 HR201_1 hx200_0 hx200_1 hx201_0 hx201_1 hHeld ⊢
     refine pa 0 (some 17) (yz 10 1) HT_ ?_
     refine pa 1 (some 18) (yz 10 3) HT_ ?_
     refine pa 2 (some 19) (yz 10 7) HT_ ?_
     refine pa 4 (some 21) (yz 10 23) HT_ ?_
     refine pa 5 (some 22) (yz 10 55) HT_ ?_
     refine pa 6 (some 23) (yz 10 119) HT_ ?_
     refine tk 3 (some 20) (yz 10 127) HT_ HW_ hHeld ?_
     refine tk 7 (some 24) (yz 10 255) HT_ HW_ hHeld ?_
     refine oa 8 (some 25) (yz 10 511) HT_ (fun K hK => ?_)
     refine gm Try.func25 #[.agg #[.slice A200_0 ((rd_T36 l0 x5_1).f0).length c200_0, .slice A200_1 ((rd_T36 l0 x5_1).f1).length c200_1], .agg #[.slice A201_0 ((rd_T36 l1 x5_1).f0).length c201_0, .slice A201_1 ((rd_T36 l1 x5_1).f1).length c201_1]] ?_
     with_reducible refine (laws_eqRelation.calls k1 _ _ ((rd_T36 l0 x5_1).f0) _ _ ((rd_T36 l0 x5_1).f1) _ _ ((rd_T36 l1 x5_1).f0) _ _ ((rd_T36 l1 x5_1).f1) false _ ?side1 ?side2 ?side3 ?side4 ?side5 ?side6 ?side7 ?side8 A7.out).mono ?_
     (case side1 => exact co (Kd.C_below HR200_0.out HB.out))
     (case side2 => exact HC200_0.out)
     (case side3 => exact co (Kd.C_below HR200_1.out HB.out))
     (case side4 => exact HC200_1.out)
     (case side5 => exact co (Kd.C_below HR201_0.out HB.out))
     (case side6 => exact HC201_0.out)
     (case side7 => exact co (Kd.C_below HR201_1.out HB.out))
     (case side8 => exact HC201_1.out)
     rintro e w12 ⟨rfl, hb⟩
     refine ⟨_, rfl, ?_⟩
     replace HB := am (below_step bw hb)
     clear hb
     refine hK.out _ _ ⟨((HB.out.cell (World.block_lt_of_cell? w _ hw200_0)).trans hw200_0), ((HB.out.cell (World.block_lt_of_cell? w _ hw200_1)).trans hw200_1), ((HB.out.cell (World.block_lt_of_cell? w _ hw201_0)).trans hw201_0), ((HB.out.cell (World.block_lt_of_cell? w _ hw201_1)).trans hw201_1)⟩ (fun hHeld => ?_)
     clear hK K
     refine nm (some 25) ?_
     refine pa 9 (some 26) (yz 10 1023) HT_ ?_
     refine done_ (done_of HT_.out (by kernel_rfl)) ?_
     try go_wp2
     go_ret
     exact ⟨re, bw⟩
    obtain rfl := Option.some.inj H
    go_wp2
    go_ret
    exact ⟨re, bw⟩
 rw [if_neg c3] at H
 have c3b0 : ((l0.length : Int) == (l1.length : Int)) = false := beq_eq_false_iff_ne.mpr c3
 have c3b1 : ((l0.length : Int) != (l1.length : Int)) = true := bne_iff_ne.mpr c3
 have c3b2 : (l0.length == l1.length) = false := by first | simpa using c3 | (simp at c3 ⊢; omega)
 obtain rfl := Option.some.inj H
 go_enter Try.func32, Try.ntmps32
 go_wp2
 go_ret
 exact ⟨re, bw⟩


/-! ### laws_markRelationS: function 33 -/
def laws_markRelationS.l0 : Nat → List S36 → Int → Int → Option (Int × List S36)
 | 0, _, _, _ => none
 | k + 1, x0, x1, x5 => if x5 < (x0.length : Int) then (if 0 ≤ x5 then ((laws_markIntS.f k (rd_T36 x0 x5).f0 x1).bind fun t => (laws_markIntS.f k (rd_T36 x0 x5).f1 t.1).bind fun u => laws_markRelationS.l0 k (x0.set (x5 : Int).toNat ⟨t.2, u.2⟩) u.1 (wrap64 (x5 + 1))) else none) else some (x1, x0)
def laws_markRelationS.f (k : Nat) (l0 : List S36) (a1 : Int) : Option (Int × List S36) := laws_markRelationS.l0 k l0 a1 0
set_option maxHeartbeats 8000000 in
set_option maxRecDepth 100000 in
theorem laws_markRelationS.calls (k : Nat) (P0_ : Nat → Prop) (u9000_ : Value) (l0 : List S36) (a1 : Int) (r1 : Int) (r2 : List S36) (w0 w : World) (hB : Below w0.heap.size w0 w) (ho0 : Kd.S kpr 36 w w0.heap.size P0_ u9000_ l0) (h : laws_markRelationS.f k l0 a1 = some (r1, r2)) :
  Calls Try.prog 33 #[u9000_, .int .i64 a1] w fun e w' => e = .returned (.int .i64 r1) ∧ Kd.S kpr 36 w' w0.heap.size (fun k_ => (P0_ k_ ∨ w.heap.size ≤ k_)) u9000_ r2 ∧ Below w0.heap.size w0 w' ∧ Kept w w' (fun k_ => P0_ k_) := by
 have HO0 := Aside0.mk (show Kd.S kpr 36 w w0.heap.size (fun k_ => (P0_ k_ ∨ w.heap.size ≤ k_)) u9000_ l0 from Kd.S_mono ho0 (fun k_ hk => (.inl hk)))
 have HK := Aside0.mk (Kept.refl w (fun k_ => P0_ k_))
 have HB := Aside0.mk hB
 clear hB ho0
 have H' : Aside0 (laws_markRelationS.l0 k l0 a1 0 = some (r1, r2)) := ⟨h⟩
 clear h
 go_enter Try.func33, Try.ntmps33
 go_wp2
 go_loopg [1, 5] k (fun kq v1 v5 w' => ∃ (x0_1 : List S36) (x1_1 : Int) (x5_1 : Int), v1 = .int .i64 x1_1 ∧ v5 = .int .i64 x5_1 ∧ Aside0 (laws_markRelationS.l0 kq x0_1 x1_1 x5_1 = some (r1, r2)) ∧ Aside0 (kq ≤ k) ∧ Aside0 (Kd.S kpr 36 w' w0.heap.size (fun k_ => (P0_ k_ ∨ w.heap.size ≤ k_)) u9000_ x0_1) ∧ Aside0 (Kept w w' (fun k_ => P0_ k_)) ∧ Aside0 (Below w0.heap.size w0 w'))
 case atStart => exact ⟨(l0), (a1), (0), rr, rr, H', ⟨Nat.le_refl _⟩, ⟨(by (with_reducible repeat (first | apply Kd.S_alloc | apply Kd.S_drewN | apply Kd.S_drew)); exact HO0.out)⟩, ⟨(by repeat (first | (with_reducible first | exact HK.out | apply Kept.alloc | apply Kept.drewN | apply Kept.drew) | exact HK.out))⟩, ⟨bw⟩⟩
 case round =>
  clear H' HO0
  obtain ⟨x0_1, x1_1, x5_1, rfl, rfl, HA, HK1, HO_0, HK, HB⟩ := hrel
  cases gk with
  | zero => exact absurd HA.out (by simp [laws_markRelationS.l0])
  | succ k1 =>
   have H := HA.out
   clear HA
   simp only [laws_markRelationS.l0] at H
   replace H := gi H; obtain ⟨c3b0, H⟩ | ⟨c3b0, H⟩ := H
   ·replace H := gd H; obtain ⟨c4b0, H⟩ := H
    replace H := ga H; obtain ⟨⟨t1, t2⟩, A5, H⟩ := H
    replace H := ga H; obtain ⟨⟨s1, s2⟩, A6, H⟩ := H
    have H' := Aside0.mk H
    clear H
    have p5 : 0 ≤ (x5_1 : Int) := of_decide_eq_true c4b0
    have q5 : (x5_1 : Int) < ((x0_1.length : Int) : Int) := of_decide_eq_true c3b0
    obtain ⟨go5, co5, eo5, gb5, gl5, _⟩ := Kd.S_form HO_0.out (by omega)
    subst eo5
    obtain ⟨oki, c5, hc5, hM5, hx5, hoki, hH5⟩ := Kd.S_lend HO_0.out z36 x5_1 p5 q5
    replace hM5 : kpr.M _ w0.heap.size oki (rd_T36 x0_1 x5_1) c5 := hM5
    obtain ⟨vi, vj, rfl, hRi, hRj, hap⟩ := kpr_openA hM5
    obtain ⟨Ai, ci, ei⟩ := Kd.R_slice hRi
    subst ei
    obtain ⟨Aj, cj, ej⟩ := Kd.R_slice hRj
    subst ej
    have hx5_0 := hx5 0 _ rfl
    rw [show x5_1.toNat * kpr.sz + 0 = x5_1.toNat * 2 from rfl] at hx5_0
    have HOI := am (show ∀ k_, some k_ = (.slice Ai (rd_T36 x0_1 x5_1).f0.length ci : Value).ownBlock → oki k_ from fun k_ h_ => hRi.1 k_ h_.symm)
    have HOJ := am (show ∀ k_, some k_ = (.slice Aj (rd_T36 x0_1 x5_1).f1.length cj : Value).ownBlock → oki k_ from fun k_ h_ => hRj.1 k_ h_.symm)
    have HPi := am (show Kd.R (Kd.int .i64) 3 _ w0.heap.size (fun k_ => some k_ = (.slice Ai (rd_T36 x0_1 x5_1).f0.length ci : Value).ownBlock) (.slice Ai (rd_T36 x0_1 x5_1).f0.length ci : Value) (rd_T36 x0_1 x5_1).f0 from Kd.R_tight rfl hRi)
    have HPj := am (show Kd.R (Kd.int .i64) 3 _ w0.heap.size (fun k_ => some k_ = (.slice Aj (rd_T36 x0_1 x5_1).f1.length cj : Value).ownBlock) (.slice Aj (rd_T36 x0_1 x5_1).f1.length cj : Value) (rd_T36 x0_1 x5_1).f1 from Kd.R_tight rfl hRj)
    have HAP := am hap
    have HH5 := am hH5
    have HKI := am hoki
    have HP_ := am p5
    have HQ_ := am q5
    clear hRi hRj hap hH5 hoki hc5 gb5 gl5 hx5 HO_0
    replace p5 := eq_true p5
    replace q5 := eq_true q5
    go_wp2_with (first | ((with_reducible refine gate_callee (f := 15) rfl ?_); refine gl (some 18) Try.func15 #[(.slice Ai (rd_T36 x0_1 x5_1).f0.length ci), .int .i64 x1_1] ?_; (with_reducible refine (laws_markIntS.calls k1 (fun k_ => some k_ = (.slice Ai (rd_T36 x0_1 x5_1).f0.length ci : Value).ownBlock) _ (rd_T36 x0_1 x5_1).f0 x1_1 t1 t2 w0 _ ?side1 ?side2 A5.out).mono ?_); (case side1 => exact bw); (case side2 => exact ro HPi.out); rintro e w8 ⟨rfl, hR8, hb8, hk8⟩; refine ⟨_, rfl, ?_⟩; have m0_ := am (Kd.R_tight rfl hR8); have m1_ := am (Kd.R_step (ok := fun k_ => some k_ = (.slice Aj (rd_T36 x0_1 x5_1).f1.length cj : Value).ownBlock) (v := (.slice Aj (rd_T36 x0_1 x5_1).f1.length cj : Value)) (xs := (rd_T36 x0_1 x5_1).f1) (d := Kd.int .i64) (e := 3) (base := w0.heap.size) (ro HPj.out) (fun k_ ho_ hlt_ => hk8.2 k_ hlt_ (fun hp_ => HAP.out k_ (Eq.symm hp_) (Eq.symm ho_)))); have m2_ := am (Kd.H_kept HH5.out hk8 (fun k_ _ hn_ hs_ => hn_ (HOI.out k_ hs_))); have m3_ := am (Kept.then_ (S := (fun k_ => P0_ k_)) (by repeat (first | (with_reducible first | exact HK.out | apply Kept.alloc | apply Kept.drewN | apply Kept.drew) | exact HK.out)) hk8 (fun k_ e_ => (HKI.out k_ (HOI.out k_ e_)).1)); have hx5_1 := (Kd.H_raw m2_.out HP_.out HQ_.out).choose_spec.2.2.2.2.1 1 _ rfl; rw [show x5_1.toNat * kpr.sz + 1 = x5_1.toNat * 2 + 1 from rfl] at hx5_1; clear HB HK HH5 HPi HPj hx5_0; have HB := am hb8; have HK := m3_; have HH5 := m2_; have HPi := m0_; have HPj := m1_; clear m0_ m1_ m2_ m3_ hb8 hR8 hk8) | ((with_reducible refine gate_callee (f := 15) rfl ?_); refine gl (some 25) Try.func15 #[(.slice Aj (rd_T36 x0_1 x5_1).f1.length cj), .int .i64 t1] ?_; (with_reducible refine (laws_markIntS.calls k1 (fun k_ => some k_ = (.slice Aj (rd_T36 x0_1 x5_1).f1.length cj : Value).ownBlock) _ (rd_T36 x0_1 x5_1).f1 t1 s1 s2 w0 _ ?side1 ?side2 A6.out).mono ?_); (case side1 => exact bw); (case side2 => exact ro HPj.out); rintro e w9 ⟨rfl, hR8, hb8, hk8⟩; refine ⟨_, rfl, ?_⟩; have m0_ := Kd.R_tight rfl hR8; have m1_ := Kd.R_step (ok := fun k_ => some k_ = (.slice Ai (rd_T36 x0_1 x5_1).f0.length ci : Value).ownBlock) (v := (.slice Ai (rd_T36 x0_1 x5_1).f0.length ci : Value)) (xs := t2) (d := Kd.int .i64) (e := 3) (base := w0.heap.size) (ro HPi.out) (fun k_ ho_ hlt_ => hk8.2 k_ hlt_ (fun hp_ => HAP.out k_ (Eq.symm ho_) (Eq.symm hp_))); have m2_ := Kd.H_kept HH5.out hk8 (fun k_ _ hn_ hs_ => hn_ (HOJ.out k_ hs_)); have m3_ := am (Kept.then_ (S := (fun k_ => P0_ k_)) (by repeat (first | (with_reducible first | exact HK.out | apply Kept.alloc | apply Kept.drewN | apply Kept.drew) | exact HK.out)) hk8 (fun k_ e_ => (HKI.out k_ (HOJ.out k_ e_)).1)); have HO8 := am (Kd.H_back m2_ (x' := (⟨t2, s2⟩ : S36)) (okp := fun k_ => some k_ = (.slice Ai (rd_T36 x0_1 x5_1).f0.length ci : Value).ownBlock ∨ some k_ = (.slice Aj (rd_T36 x0_1 x5_1).f1.length cj : Value).ownBlock) (kpr_mkM _ _ _ (⟨t2, s2⟩ : S36) (Kd.R_mono m1_ (fun _ h_ => Or.inl h_)) (Kd.R_mono m0_ (fun _ h_ => Or.inr h_)) HAP.out) (fun k_ h_ => h_.elim (HOI.out k_) (HOJ.out k_))); clear HB HK HH5 HPi HPj; have HB := am hb8; have HK := m3_; clear m0_ m1_ m2_ m3_ hb8 hR8 hk8))
    go_roundg k1
    case measure => have := HK1.out; omega
    case rel => exact ⟨(x0_1.set (x5_1 : Int).toNat ⟨t2, s2⟩), s1, (wrap64 (x5_1 + 1)), rr, rr, H', ⟨by have := HK1.out; omega⟩, ⟨(by (with_reducible repeat (first | apply Kd.S_alloc | apply Kd.S_drewN | apply Kd.S_drew)); exact HO8.out)⟩, ⟨(by repeat (first | (with_reducible first | exact HK.out | apply Kept.alloc | apply Kept.drewN | apply Kept.drew) | exact HK.out))⟩, ⟨bw⟩⟩
   ·simp only [Option.some.injEq, Prod.mk.injEq] at H
    obtain ⟨rfl, rfl⟩ := H
    obtain ⟨Ao9, co9, eo9⟩ := Kd.S_slice HO_0.out
    subst eo9
    go_wp2
    go_ret
    exact ⟨re, (by (with_reducible repeat (first | apply Kd.S_alloc | apply Kd.S_drewN | apply Kd.S_drew)); exact HO_0.out), bw, (by repeat (first | (with_reducible first | exact HK.out | apply Kept.alloc | apply Kept.drewN | apply Kept.drew) | exact HK.out))⟩

end Go.Proofs.Ytfpjjjdiieplkaa.C
