/- Contracts of functions of the program: laws_toSemigroup, impl_within, impl_allWithin. -/
import Derived.Test.YtiejmnnnjmmifaaC0
import Derived.Test.YtiejmnnnjmmifaaC3
namespace Go.Proofs.Ytiejmnnnjmmifaa.C
open Go.RowKit Go.Proofs.YtiejmnnnjmmifaaW.PrintWords Go.Proofs.YtiejmnnnjmmifaaW.PrintLast Go.Proofs.YtiejmnnnjmmifaaW.PrintMore
attribute [local go_sem] max2_int min2_int max_two min_two max_three min_three max_four min_four
set_option linter.unusedVariables false
set_option linter.unusedSimpArgs false

/-! ### laws_toSemigroup: function 17 -/
def laws_toSemigroup.f (k : Nat) (l0_0 : List Int) : Option (List Int) := (laws_toIntS.f k l0_0).bind fun t246 => (some t246)
set_option maxHeartbeats 8000000 in
set_option maxRecDepth 100000 in
theorem laws_toSemigroup.calls (k : Nat) (A0_0 : Option Addr) (c0_0 : Nat) (l0_0 : List Int) (r : List Int) (w : World) (hr0_0 : Kd.C (Kd.int .i64) w A0_0 l0_0.length l0_0) (hc0_0 : l0_0.length ≤ c0_0) (h : laws_toSemigroup.f k l0_0 = some r) :
  Calls Try.prog 17 #[.agg #[.slice A0_0 l0_0.length c0_0]] w fun e w' => ∃ v0_ : Value, e = .returned (.agg #[v0_]) ∧ Kd.R (Kd.int .i64) 3 w' w.heap.size (fun _ => True) v0_ r ∧ Below w.heap.size w w' := by
 have hu24 := Try.underlying24
 have hu27 := Try.underlying27
 have HR0_0 := Aside0.mk hr0_0
 have HC0_0 := Aside0.mk hc0_0
 clear hr0_0 hc0_0
 have HB := Aside0.mk (Below.refl w.heap.size w)
 have H : ((laws_toIntS.f k l0_0).bind fun t246 => (some t246)) = some r := h
 clear h
 replace H := ga H; obtain ⟨t246, A2, H⟩ := H
 obtain rfl := Option.some.inj H
 go_enter Try.func17, Try.ntmps17
 go_wp2_with (first | ((with_reducible refine gate_dst (N := 1) rfl ?_); refine bx 1 #[.slice A0_0 l0_0.length c0_0] 24 ?_; intro gb243 hg w3 hbox hb; have BK243 := Aside0.mk (hbox); have GW243 := Aside0.mk (gs hg : w.heap.size ≤ gb243); have GE243 := Aside0.mk (gs hg : w.heap.size ≤ gb243); replace HB := Aside0.mk (below_step bw hb); clear hb hbox hg) | ((with_reducible refine gate_dst (N := 2) rfl ?_); refine bx 2 #[.slice none 0 0] 27 ?_; intro gb244 hg w4 hbox hb; have BK244 := Aside0.mk (hbox); have GW244 := Aside0.mk (gs hg : w.heap.size ≤ gb244); have GE244 := Aside0.mk (gs hg : w.heap.size ≤ gb244); replace HB := Aside0.mk (below_step bw hb); have NB243_244 := Aside0.mk ((by rw [hg]; exact Nat.ne_of_lt (blk_lt (g := gb243) (o := .cells #[.slice A0_0 l0_0.length c0_0] 24 (0, 0)) (bo BK243.out)) : gb243 ≠ gb244)); have NB244_243 := Aside0.mk ((by rw [hg]; exact Nat.ne_of_gt (blk_lt (g := gb243) (o := .cells #[.slice A0_0 l0_0.length c0_0] 24 (0, 0)) (bo BK243.out)) : gb244 ≠ gb243)); replace BK243 := Aside0.mk (blk_below (g := gb243) (o := .cells #[.slice A0_0 l0_0.length c0_0] 24 (0, 0)) (bo BK243.out) hb); clear hb hbox hg) | ((with_reducible refine gate_dst (N := 3) rfl ?_); refine bx 3 #[.slice none 0 0] 27 ?_; intro gb245 hg w5 hbox hb; have BK245 := Aside0.mk (hbox); have GW245 := Aside0.mk (gs hg : w.heap.size ≤ gb245); have GE245 := Aside0.mk (gs hg : w.heap.size ≤ gb245); replace HB := Aside0.mk (below_step bw hb); have NB243_245 := Aside0.mk ((by rw [hg]; exact Nat.ne_of_lt (blk_lt (g := gb243) (o := .cells #[.slice A0_0 l0_0.length c0_0] 24 (0, 0)) (bo BK243.out)) : gb243 ≠ gb245)); have NB245_243 := Aside0.mk ((by rw [hg]; exact Nat.ne_of_gt (blk_lt (g := gb243) (o := .cells #[.slice A0_0 l0_0.length c0_0] 24 (0, 0)) (bo BK243.out)) : gb245 ≠ gb243)); replace BK243 := Aside0.mk (blk_below (g := gb243) (o := .cells #[.slice A0_0 l0_0.length c0_0] 24 (0, 0)) (bo BK243.out) hb); have NB244_245 := Aside0.mk ((by rw [hg]; exact Nat.ne_of_lt (blk_lt (g := gb244) (o := .cells #[.slice none 0 0] 27 (0, 0)) (bo BK244.out)) : gb244 ≠ gb245)); have NB245_244 := Aside0.mk ((by rw [hg]; exact Nat.ne_of_gt (blk_lt (g := gb244) (o := .cells #[.slice none 0 0] 27 (0, 0)) (bo BK244.out)) : gb245 ≠ gb244)); replace BK244 := Aside0.mk (blk_below (g := gb244) (o := .cells #[.slice none 0 0] 27 (0, 0)) (bo BK244.out) hb); clear hb hbox hg; have hnb6 := NB243_244.out; have hnc6 := NB244_243.out; have hnb7 := NB243_245.out; have hnc7 := NB245_243.out; have hcz8_0 := bc BK243 0 (.slice A0_0 l0_0.length c0_0); have hfz8_0 := blk_frozen BK243.out 0) | ((with_reducible refine gate_callee (f := 18) rfl ?_); refine gl (some 6) Try.func18 #[.slice A0_0 l0_0.length c0_0] ?_; (with_reducible refine (laws_toIntS.calls k _ _ l0_0 t246 _ ?side1 ?side2 A2.out).mono ?_); (case side1 => exact co (Kd.C_below HR0_0.out HB.out)); (case side2 => exact HC0_0.out); rintro e w9 ⟨v247, rfl, ho0, hb⟩; refine ⟨_, rfl, ?_⟩; have HO248 := Aside0.mk (Kd.R_lower ho0 (below_size bw)); replace BK243 := Aside0.mk (blk_below (g := gb243) (o := .cells #[.slice A0_0 l0_0.length c0_0] 24 (0, 0)) (bo BK243.out) hb); replace BK244 := Aside0.mk (blk_below (g := gb244) (o := .cells #[.slice none 0 0] 27 (0, 0)) (bo BK244.out) hb); replace BK245 := Aside0.mk (blk_below (g := gb245) (o := .cells #[.slice none 0 0] 27 (0, 0)) (bo BK245.out) hb); replace HB := Aside0.mk (below_step bw hb); clear hb ho0; obtain ⟨Ao10, co10, eo10⟩ := Kd.R_slice HO248.out; subst eo10; have hnb11 := NB245_244.out; have hnc11 := NB244_245.out; have hcz12_0 := bc BK245 0 (.slice none 0 0); have hfz12_0 := blk_frozen BK245.out 0; have hcz13_0 := bc BK244 0 (.slice none 0 0); have hfz13_0 := blk_frozen BK244.out 0))
 refine bodyPost_ret (results_cell_row rfl _ _ gb244 27 #[.slice Ao10 t246.length co10] (0, 0) _ rfl (by (with_reducible repeat (first | refine blk_drewN ?_ _ | refine blk_drew ?_ | refine blk_alloc ?_ _)); refine blk_put (cs := #[.slice none 0 0]) ?_ 0 _ rfl; (with_reducible repeat (first | refine blk_drewN ?_ _ | refine blk_drew ?_ | refine blk_alloc ?_ _)); refine blk_far ?_ NB244_245.out _; (with_reducible repeat (first | refine blk_drewN ?_ _ | refine blk_drew ?_ | refine blk_alloc ?_ _)); exact BK244.out) Try.underlying27 rfl (by kernel_rfl)) rfl ?_
 exact ⟨_, re, by (with_reducible repeat (first | apply Kd.R_alloc | apply Kd.R_drewN | apply Kd.R_drew)); exact Kd.R_mono (Kd.R_far (p := ⟨gb244, 0, none⟩) (Kd.R_far (p := ⟨gb245, 0, none⟩) (Kd.R_types (Kd.R_types HO248.out BK245.out (by decide)) BK244.out (by decide)) (fun _ hk => by first | exact hk.1.2 | simp_all) (.slice Ao10 t246.length co10)) (fun _ hk => hk.2) (.slice Ao10 t246.length co10)) (fun _ hk => trivial), bw⟩


/-! ### impl_within: function 59 -/
def impl_within.f (a0 : Int) (a1 : Int) (a2 : Int) : Option (Bool) := if a0 ≥ a1 then (some (decide (a0 ≤ a2))) else (some false)
set_option maxHeartbeats 8000000 in
set_option maxRecDepth 100000 in
theorem impl_within.calls (a0 : Int) (a1 : Int) (a2 : Int) (r : Bool) (w : World) (h : impl_within.f a0 a1 a2 = some r) :
  Calls Try.prog 59 #[.int .i64 a0, .int .i64 a1, .int .i64 a2] w fun e w' => e = .returned (.bool r) ∧ Drawn0 w w' := by
 have H : (if a0 ≥ a1 then (some (decide (a0 ≤ a2))) else (some false)) = some r := h
 clear h
 replace H := gj H; obtain ⟨c4, H⟩ | ⟨c4, H⟩ := H
 ·have c4b0 : decide (a1 ≤ a0) = true := decide_eq_true c4
  clear c4
  obtain rfl := Option.some.inj H
  go_enter Try.func59, Try.ntmps59
  go_wp2
  go_ret
  exact ⟨rr, dw⟩
 ·have c4b0 : decide (a1 ≤ a0) = false := decide_eq_false c4
  clear c4
  obtain rfl := Option.some.inj H
  go_enter Try.func59, Try.ntmps59
  go_wp2
  go_ret
  exact ⟨rr, dw⟩


/-! ### impl_allWithin: function 90 -/
def impl_allWithin.l0 : Nat → Int → Int → List Int → Int → Int → Option (Bool)
 | 0, _, _, _, _, _ => none
 | k + 1, x1, x2, x9, x10, x11 => if x11 < x10 then (if 0 ≤ x11 then (if x11 < (x9.length : Int) then ((impl_within.f (rd x9 x11) x1 x2).bind fun t250 => (if t250 = true then (impl_allWithin.l0 k x1 x2 x9 x10 (wrap64 (x11 + 1))) else (some false))) else (none)) else (none)) else (some true)
def impl_allWithin.f (k : Nat) (l0 : List Int) (a1 : Int) (a2 : Int) : Option (Bool) := impl_allWithin.l0 k a1 a2 l0 (l0.length : Int) 0
set_option maxHeartbeats 8000000 in
set_option maxRecDepth 100000 in
theorem impl_allWithin.calls (k : Nat) (A0 : Option Addr) (c0 : Nat) (l0 : List Int) (a1 : Int) (a2 : Int) (r : Bool) (w : World) (hr0 : Kd.C (Kd.int .i64) w A0 l0.length l0) (hc0 : l0.length ≤ c0) (h : impl_allWithin.f k l0 a1 a2 = some r) :
  Calls Try.prog 90 #[.slice A0 l0.length c0, .int .i64 a1, .int .i64 a2] w fun e w' => e = .returned (.bool r) ∧ Drawn0 w w' := by
 have HR0 := Aside0.mk hr0
 have HC0 := Aside0.mk hc0
 clear hr0 hc0
 have H : (impl_allWithin.l0 k a1 a2 l0 (l0.length : Int) 0) = some r := h
 clear h
 have H' := Aside0.mk H
 clear H
 go_enter Try.func90, Try.ntmps90
 go_wp2
 go_loopg [11] k (fun kq v11 w' => ∃ (x11_1 : Int), v11 = .int .i64 x11_1 ∧ Aside0 (impl_allWithin.l0 kq a1 a2 l0 (l0.length : Int) x11_1 = some r) ∧ Aside0 (kq ≤ k) ∧ Drawn0 w w')
 case atStart => exact ⟨(0), rr, H', ⟨Nat.le_refl _⟩, dw⟩
 case round =>
  clear H'
  obtain ⟨x11_1, rfl, HA, HK1, ⟨m1, rfl⟩⟩ := hrel
  cases gk with
  | zero => exact absurd HA.out (by simp [impl_allWithin.l0])
  | succ k1 =>
   have H := HA.out
   clear HA
   simp only [impl_allWithin.l0] at H
   replace H := gi H; obtain ⟨c4b0, H⟩ | ⟨c4b0, H⟩ := H
   ·replace H := gd H; obtain ⟨c5b0, H⟩ := H
    replace H := gd H; obtain ⟨c6b0, H⟩ := H
    replace H := ga H; obtain ⟨t250, A7, H⟩ := H
    replace H := gb H; obtain ⟨rfl, H⟩ | ⟨rfl, H⟩ := H
    ·have H' := Aside0.mk H
     clear H
     obtain ⟨⟨ad249, e249, hx249_0⟩, p249, q249⟩ := pq (Kd.at_int HR0.out x11_1)
     cases e249
     go_wp2_with (first | ((with_reducible refine gate_callee (f := 59) rfl ?_); refine gl (some 18) Try.func59 #[.int .i64 (rd l0 x11_1), .int .i64 a1, .int .i64 a2] ?_; (with_reducible refine (impl_within.calls (rd l0 x11_1) a1 a2 true _ A7.out).mono ?_); rintro e w' ⟨rfl, ⟨nd, rfl⟩⟩; refine ⟨_, rfl, ?_⟩))
     go_roundg k1
     case measure => have := HK1.out; omega
     case rel => exact ⟨(wrap64 (x11_1 + 1)), rr, H', ⟨by have := HK1.out; omega⟩, dw⟩
    ·obtain rfl := Option.some.inj H
     obtain ⟨⟨ad249, e249, hx249_0⟩, p249, q249⟩ := pq (Kd.at_int HR0.out x11_1)
     cases e249
     go_wp2_with (first | ((with_reducible refine gate_callee (f := 59) rfl ?_); refine gl (some 18) Try.func59 #[.int .i64 (rd l0 x11_1), .int .i64 a1, .int .i64 a2] ?_; (with_reducible refine (impl_within.calls (rd l0 x11_1) a1 a2 false _ A7.out).mono ?_); rintro e w' ⟨rfl, ⟨nd, rfl⟩⟩; refine ⟨_, rfl, ?_⟩))
     go_ret
     exact ⟨rr, dw⟩
   ·obtain rfl := Option.some.inj H
    go_wp2
    go_ret
    exact ⟨rr, dw⟩

end Go.Proofs.Ytiejmnnnjmmifaa.C
