/- Contracts of functions of the program: spec_HasNumber. -/
import Derived.Test.YtkfplkdchkmgbaaC0
namespace Go.Proofs.Ytkfplkdchkmgbaa.C
open Go.RowKit Go.Proofs.YtkfplkdchkmgbaaW.PrintWords Go.Proofs.YtkfplkdchkmgbaaW.PrintLast Go.Proofs.YtkfplkdchkmgbaaW.PrintMore
attribute [local go_sem] max2_int min2_int max_two min_two max_three min_three max_four min_four
set_option linter.unusedVariables false
set_option linter.unusedSimpArgs false

/-! ### spec_HasNumber: function 117 -/
def spec_HasNumber.l0 : Nat → List Int → Int → Int → Option (Bool)
 | 0, _, _, _ => none
 | k + 1, x0, x1, x5 => if x5 < (x0.length : Int) then (if 0 ≤ x5 then (if (rd x0 x5) = x1 then (some true) else (spec_HasNumber.l0 k x0 x1 (wrap64 (x5 + 1)))) else (none)) else (some false)
def spec_HasNumber.f (k : Nat) (l0 : List Int) (a1 : Int) : Option (Bool) := spec_HasNumber.l0 k l0 a1 0
set_option maxHeartbeats 8000000 in
set_option maxRecDepth 100000 in
theorem spec_HasNumber.calls (k : Nat) (A0 : Option Addr) (c0 : Nat) (l0 : List Int) (a1 : Int) (r : Bool) (w : World) (hr0 : Kd.C (Kd.int .i64) w A0 l0.length l0) (hc0 : l0.length ≤ c0) (h : spec_HasNumber.f k l0 a1 = some r) :
  Calls Try.prog 117 #[.slice A0 l0.length c0, .int .i64 a1] w fun e w' => e = .returned (.bool r) ∧ Drawn0 w w' := by
 have HR0 := am hr0
 have HC0 := am hc0
 clear hr0 hc0
 have H : (spec_HasNumber.l0 k l0 a1 0) = some r := h
 clear h
 have H' := am H
 clear H
 go_enter Try.func117, Try.ntmps117
 go_wp2
 go_loopg [5] k (fun kq v5 w' => ∃ (x5_1 : Int), v5 = .int .i64 x5_1 ∧ Aside0 (spec_HasNumber.l0 kq l0 a1 x5_1 = some r) ∧ Aside0 (kq ≤ k) ∧ Drawn0 w w')
 case atStart => exact ⟨(0), rr, H', ⟨Nat.le_refl _⟩, dw⟩
 case round =>
  clear H'
  obtain ⟨x5_1, rfl, HA, HK1, ⟨m1, rfl⟩⟩ := hrel
  cases gk with
  | zero => exact absurd HA.out (by simp [spec_HasNumber.l0])
  | succ k1 =>
   have H := HA.out
   clear HA
   simp only [spec_HasNumber.l0] at H
   replace H := gi H; obtain ⟨c3b0, H⟩ | ⟨c3b0, H⟩ := H
   ·replace H := gd H; obtain ⟨c4b0, H⟩ := H
    by_cases c5 : (rd l0 x5_1) = a1
    ·rw [if_pos c5] at H
     have c5b0 : ((rd l0 x5_1) == a1) = true := beq_iff_eq.mpr c5
     have c5b1 : ((rd l0 x5_1) != a1) = false := bne_eq_false_iff_eq.mpr c5
     clear c5
     obtain rfl := Option.some.inj H
     obtain ⟨⟨ad493, e493, hx493_0⟩, p493, q493⟩ := pq (Kd.at_int HR0.out x5_1)
     cases e493
     go_wp2
     go_ret
     exact ⟨rr, dw⟩
    ·rw [if_neg c5] at H
     have c5b0 : ((rd l0 x5_1) == a1) = false := beq_eq_false_iff_ne.mpr c5
     have c5b1 : ((rd l0 x5_1) != a1) = true := bne_iff_ne.mpr c5
     have H' := am H
     clear H
     obtain ⟨⟨ad493, e493, hx493_0⟩, p493, q493⟩ := pq (Kd.at_int HR0.out x5_1)
     cases e493
     go_wp2
     go_roundg k1
     case measure => have := HK1.out; omega
     case rel => exact ⟨(wrap64 (x5_1 + 1)), rr, H', ⟨by have := HK1.out; omega⟩, dw⟩
   ·obtain rfl := Option.some.inj H
    go_wp2
    go_ret
    exact ⟨rr, dw⟩

end Go.Proofs.Ytkfplkdchkmgbaa.C
