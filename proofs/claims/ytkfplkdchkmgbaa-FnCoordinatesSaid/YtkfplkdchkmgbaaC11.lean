/- Contracts of functions of the program: spec_CoordinateClash, spec_l3Has, spec_Contains, spec_AperySet, spec_l6Minimal. -/
import Derived.Test.YtkfplkdchkmgbaaC0
import Derived.Test.YtkfplkdchkmgbaaC1
import Derived.Test.YtkfplkdchkmgbaaC2
import Derived.Test.YtkfplkdchkmgbaaC3
import Derived.Test.YtkfplkdchkmgbaaC8
namespace Go.Proofs.Ytkfplkdchkmgbaa.C
open Go.RowKit Go.Proofs.YtkfplkdchkmgbaaW.PrintWords Go.Proofs.YtkfplkdchkmgbaaW.PrintLast Go.Proofs.YtkfplkdchkmgbaaW.PrintMore
attribute [local go_sem] max2_int min2_int max_two min_two max_three min_three max_four min_four
set_option linter.unusedVariables false
set_option linter.unusedSimpArgs false

/-! ### spec_CoordinateClash: function 19 -/
mutual
def spec_CoordinateClash.l0 : Nat → List Int → Int → Int → Option (Int × Int × Bool)
 | 0, _, _, _ => none
 | k + 1, x0, x4, x5 => if x5 < x4 then (if 0 ≤ (wrap64 (x5 - 1)) then (if (wrap64 (x5 - 1)) < (x0.length : Int) then ((spec_l1In.f (rd x0 (wrap64 (x5 - 1))) 1 200).bind fun t741 => (if t741 = true then (spec_CoordinateClash.l0 k x0 x4 (wrap64 (x5 + 1))) else (some (x5, 0, true)))) else (none)) else (none)) else (spec_CoordinateClash.l1 k x0 x4 1)
def spec_CoordinateClash.l1 : Nat → List Int → Int → Int → Option (Int × Int × Bool)
 | 0, _, _, _ => none
 | k + 1, x0, x4, x6 => if x6 < x4 then (spec_CoordinateClash.l2 k x0 x4 x6 x6) else (some (0, 0, false))
def spec_CoordinateClash.l2 : Nat → List Int → Int → Int → Int → Option (Int × Int × Bool)
 | 0, _, _, _, _ => none
 | k + 1, x0, x4, x6, x7 => if x7 < x4 then (if 0 ≤ (wrap64 (x6 - 1)) then (if (wrap64 (x6 - 1)) < (x0.length : Int) then (if 0 ≤ (wrap64 (x7 - 1)) then (if (wrap64 (x7 - 1)) < (x0.length : Int) then (if (wrap64 (x6 + x7)) < x4 then (if 0 ≤ (wrap64 ((wrap64 (x6 + x7)) - 1)) then (if (wrap64 ((wrap64 (x6 + x7)) - 1)) < (x0.length : Int) then (if (wrap64 ((rd x0 (wrap64 (x6 - 1))) + (rd x0 (wrap64 (x7 - 1))))) < (rd x0 (wrap64 ((wrap64 (x6 + x7)) - 1))) then (some (x6, x7, true)) else (if (wrap64 (x6 + x7)) > x4 then (if 0 ≤ (wrap64 ((wrap64 ((wrap64 (x6 + x7)) - x4)) - 1)) then (if (wrap64 ((wrap64 ((wrap64 (x6 + x7)) - x4)) - 1)) < (x0.length : Int) then (if (wrap64 ((wrap64 ((rd x0 (wrap64 (x6 - 1))) + (rd x0 (wrap64 (x7 - 1))))) + 1)) < (rd x0 (wrap64 ((wrap64 ((wrap64 (x6 + x7)) - x4)) - 1))) then (some (x6, x7, true)) else (spec_CoordinateClash.l2 k x0 x4 x6 (wrap64 (x7 + 1)))) else (none)) else (none)) else (spec_CoordinateClash.l2 k x0 x4 x6 (wrap64 (x7 + 1))))) else (none)) else (none)) else (if (wrap64 (x6 + x7)) > x4 then (if 0 ≤ (wrap64 ((wrap64 ((wrap64 (x6 + x7)) - x4)) - 1)) then (if (wrap64 ((wrap64 ((wrap64 (x6 + x7)) - x4)) - 1)) < (x0.length : Int) then (if (wrap64 ((wrap64 ((rd x0 (wrap64 (x6 - 1))) + (rd x0 (wrap64 (x7 - 1))))) + 1)) < (rd x0 (wrap64 ((wrap64 ((wrap64 (x6 + x7)) - x4)) - 1))) then (some (x6, x7, true)) else (spec_CoordinateClash.l2 k x0 x4 x6 (wrap64 (x7 + 1)))) else (none)) else (none)) else (spec_CoordinateClash.l2 k x0 x4 x6 (wrap64 (x7 + 1))))) else (none)) else (none)) else (none)) else (none)) else (spec_CoordinateClash.l1 k x0 x4 (wrap64 (x6 + 1)))
end
def spec_CoordinateClash.f (k : Nat) (l0 : List Int) : Option (Int × Int × Bool) := spec_CoordinateClash.l0 k l0 (wrap64 ((l0.length : Int) + 1)) 1
set_option maxHeartbeats 8000000 in
set_option maxRecDepth 100000 in
theorem spec_CoordinateClash.calls (k : Nat) (A0 : Option Addr) (c0 : Nat) (l0 : List Int) (r1 : Int) (r2 : Int) (r3 : Bool) (w : World) (hr0 : Kd.C (Kd.int .i64) w A0 l0.length l0) (hc0 : l0.length ≤ c0) (h : spec_CoordinateClash.f k l0 = some (r1, r2, r3)) :
  Calls Try.prog 19 #[.slice A0 l0.length c0] w fun e w' => e = .returned (.tuple #[.agg #[.int .i64 r1, .int .i64 r2], .bool r3]) ∧ Below w.heap.size w w' := by
 have hu33 := Try.underlying33
 have HR0 := am hr0
 have HC0 := am hc0
 clear hr0 hc0
 have HB := am (Below.refl w.heap.size w)
 have H : (spec_CoordinateClash.l0 k l0 (wrap64 ((l0.length : Int) + 1)) 1) = some (r1, r2, r3) := h
 clear h
 have H' := am H
 clear H
 go_enter Try.func19, Try.ntmps19
 go_wp2_with (first | ((with_reducible refine gate_dst (N := 2) rfl ?_); refine bx 2 #[.int .i64 0, .int .i64 0] 33 ?_; intro gb739 hg w2 hbox hb; have BK739 := am (hbox); have GW739 := am (gs hg : w.heap.size ≤ gb739); have GE739 := GW739; replace HB := am (below_step bw hb); clear hb hbox hg))
 repeat (go_quiet (first | ((with_reducible refine gate_dst (N := 2) rfl ?_); refine bx 2 #[.int .i64 0, .int .i64 0] 33 ?_; intro gb739 hg w2 hbox hb; have n0_ := am (below_step bw hb); have n1_ := am (hbox); have n2_ := am (gs hg : w.heap.size ≤ gb739); have n3_ := am (gs hg : w.heap.size ≤ gb739); clear HB; have HB := n0_; have BK739 := n1_; have GW739 := n2_; have GE739 := n3_; clear n0_ n1_ n2_ n3_; clear hb hbox hg)); try go_wp2_with (first | ((with_reducible refine gate_dst (N := 2) rfl ?_); refine bx 2 #[.int .i64 0, .int .i64 0] 33 ?_; intro gb739 hg w2 hbox hb; have n0_ := am (below_step bw hb); have n1_ := am (hbox); have n2_ := am (gs hg : w.heap.size ≤ gb739); have n3_ := am (gs hg : w.heap.size ≤ gb739); clear HB; have HB := n0_; have BK739 := n1_; have GW739 := n2_; have GE739 := n3_; clear n0_ n1_ n2_ n3_; clear hb hbox hg)))
 go_loopg [5] k (fun kq v5 w' => ∃ (x5_1 : Int) (x740000_1 : Int) (x740001_1 : Int), v5 = .int .i64 x5_1 ∧ Aside0 (spec_CoordinateClash.l0 kq l0 (wrap64 ((l0.length : Int) + 1)) x5_1 = some (r1, r2, r3)) ∧ Aside0 (kq ≤ k) ∧ Aside0 (w'.heap[gb739]? = some (.cells #[.int .i64 x740000_1, .int .i64 x740001_1] 33 (0, 0))) ∧ Aside0 (Below w.heap.size w w'))
 case atStart => exact ⟨(1), (0), (0), rr, H', ⟨Nat.le_refl _⟩, ⟨bo BK739.out⟩, ⟨bw⟩⟩
 case round =>
  clear H'
  obtain ⟨x5_1, x740000_1, x740001_1, rfl, HA, HK1, BK739, HB⟩ := hrel
  cases gk with
  | zero => exact absurd HA.out (by simp [spec_CoordinateClash.l0])
  | succ k1 =>
   have H := HA.out
   clear HA
   simp only [spec_CoordinateClash.l0] at H
   replace H := gi H; obtain ⟨c3b0, H⟩ | ⟨c3b0, H⟩ := H
   ·obtain ⟨ji4, hji4⟩ : ∃ j_ : Int, (wrap64 (x5_1 - 1)) = j_ := ⟨_, rfl⟩
    replace H : (if 0 ≤ (ji4) then (if (ji4) < (l0.length : Int) then ((spec_l1In.f (rd l0 (ji4)) 1 200).bind fun t741 => (if t741 = true then (spec_CoordinateClash.l0 k1 l0 (wrap64 ((l0.length : Int) + 1)) (wrap64 (x5_1 + 1))) else (some (x5_1, 0, true)))) else (none)) else (none)) = some (r1, r2, r3) := by first | (rw [hji4] at H; exact H) | (simp only [hji4] at H ⊢; exact H)
    have hji4w : (IntKind.i64.wrap (x5_1 - 1)) = ji4 := (i64_w _).trans hji4
    replace H := gd H; obtain ⟨c5b0, H⟩ := H
    replace H := gd H; obtain ⟨c6b0, H⟩ := H
    replace H := ga H; obtain ⟨t741, A7, H⟩ := H
    replace H := gb H; obtain ⟨rfl, H⟩ | ⟨rfl, H⟩ := H
    ·have H' := am H
     clear H
     obtain ⟨⟨ad740, e740, hx740_0⟩, p740, q740⟩ := pq (Kd.at_int HR0.out (ji4))
     cases e740
     replace hx740_0 := hw HB hx740_0
     go_wp2_with (first | (go_at_call 140; (with_reducible refine (spec_l1In.calls (rd l0 (ji4)) 1 200 true _ A7.out).mono ?_); rintro e w' ⟨rfl, ⟨nd, rfl⟩⟩; (try first | exact ⟨rfl, _, World.drewN_drewN _ _ _⟩ | exact ⟨rfl, _, Eq.trans (World.drewN_drewN _ _ _) (congrArg (World.drewN _) (Nat.add_assoc _ _ _))⟩)))
     repeat (go_quiet (first | (go_at_call 140; (with_reducible refine (spec_l1In.calls (rd l0 (ji4)) 1 200 true _ A7.out).mono ?_); rintro e w' ⟨rfl, ⟨nd, rfl⟩⟩; (try first | exact ⟨rfl, _, World.drewN_drewN _ _ _⟩ | exact ⟨rfl, _, Eq.trans (World.drewN_drewN _ _ _) (congrArg (World.drewN _) (Nat.add_assoc _ _ _))⟩))); try go_wp2_with (first | (go_at_call 140; (with_reducible refine (spec_l1In.calls (rd l0 (ji4)) 1 200 true _ A7.out).mono ?_); rintro e w' ⟨rfl, ⟨nd, rfl⟩⟩; (try first | exact ⟨rfl, _, World.drewN_drewN _ _ _⟩ | exact ⟨rfl, _, Eq.trans (World.drewN_drewN _ _ _) (congrArg (World.drewN _) (Nat.add_assoc _ _ _))⟩))))
     go_roundg k1
     case measure => have := HK1.out; omega
     case rel => exact ⟨(wrap64 (x5_1 + 1)), (x740000_1), (x740001_1), rr, H', ⟨by have := HK1.out; omega⟩, ⟨bo BK739.out⟩, ⟨bw⟩⟩
    simp only [Option.some.injEq, Prod.mk.injEq] at H
    obtain ⟨rfl, rfl, rfl⟩ := H
    obtain ⟨⟨ad740, e740, hx740_0⟩, p740, q740⟩ := pq (Kd.at_int HR0.out (ji4))
    cases e740
    replace hx740_0 := hw HB hx740_0
    go_wp2_with (first | (go_at_call 140; (with_reducible refine (spec_l1In.calls (rd l0 (ji4)) 1 200 false _ A7.out).mono ?_); rintro e w' ⟨rfl, ⟨nd, rfl⟩⟩; (try first | exact ⟨rfl, _, World.drewN_drewN _ _ _⟩ | exact ⟨rfl, _, Eq.trans (World.drewN_drewN _ _ _) (congrArg (World.drewN _) (Nat.add_assoc _ _ _))⟩); have hcz9_0 := bc BK739 0 (.int .i64 x740000_1); have hcz9_1 := bc BK739 1 (.int .i64 x740001_1); have hfz9_0 := blk_frozen BK739.out 0; have hfz9_1 := blk_frozen BK739.out 1))
    repeat (go_quiet (first | (go_at_call 140; (with_reducible refine (spec_l1In.calls (rd l0 (ji4)) 1 200 false _ A7.out).mono ?_); rintro e w' ⟨rfl, ⟨nd, rfl⟩⟩; (try first | exact ⟨rfl, _, World.drewN_drewN _ _ _⟩ | exact ⟨rfl, _, Eq.trans (World.drewN_drewN _ _ _) (congrArg (World.drewN _) (Nat.add_assoc _ _ _))⟩); have hcz9_0 := bc BK739 0 (.int .i64 x740000_1); have hcz9_1 := bc BK739 1 (.int .i64 x740001_1); have hfz9_0 := blk_frozen BK739.out 0; have hfz9_1 := blk_frozen BK739.out 1)); try go_wp2_with (first | (go_at_call 140; (with_reducible refine (spec_l1In.calls (rd l0 (ji4)) 1 200 false _ A7.out).mono ?_); rintro e w' ⟨rfl, ⟨nd, rfl⟩⟩; (try first | exact ⟨rfl, _, World.drewN_drewN _ _ _⟩ | exact ⟨rfl, _, Eq.trans (World.drewN_drewN _ _ _) (congrArg (World.drewN _) (Nat.add_assoc _ _ _))⟩); have hcz9_0 := bc BK739 0 (.int .i64 x740000_1); have hcz9_1 := bc BK739 1 (.int .i64 x740001_1); have hfz9_0 := blk_frozen BK739.out 0; have hfz9_1 := blk_frozen BK739.out 1)))
    refine bodyPost_ret (results_ct rfl _ _ gb739 33 #[.int .i64 x5_1, .int .i64 0] (0, 0) _ rfl (by (with_reducible repeat (first | refine blk_drewN ?_ _ | refine blk_drew ?_ | refine blk_alloc ?_ _)); refine blk_put (cs := #[.int .i64 x5_1, .int .i64 x740001_1]) ?_ 1 _ rfl; (with_reducible repeat (first | refine blk_drewN ?_ _ | refine blk_drew ?_ | refine blk_alloc ?_ _)); refine blk_put (cs := #[.int .i64 x740000_1, .int .i64 x740001_1]) ?_ 0 _ rfl; (with_reducible repeat (first | refine blk_drewN ?_ _ | refine blk_drew ?_ | refine blk_alloc ?_ _)); exact BK739.out) Try.underlying33 rfl (by kernel_rfl)) rfl ?_
    exact ⟨by first | rfl | (simp [errW_none, errW_some] <;> rfl) | (simp only [← hji4]; first | rfl | (simp [errW_none, errW_some] <;> rfl)) | (simp [*, errW_none, errW_some] <;> rfl), bw⟩
   have H' := am H
   clear H
   go_wp2
   repeat (go_quiet (fail); try go_wp2)
   go_loopg [6] k1 (fun kq v6 w' => ∃ (x6_2 : Int) (x740000_2 : Int) (x740001_2 : Int), v6 = .int .i64 x6_2 ∧ Aside0 (spec_CoordinateClash.l1 kq l0 (wrap64 ((l0.length : Int) + 1)) x6_2 = some (r1, r2, r3)) ∧ Aside0 (kq ≤ k1) ∧ Aside0 (w'.heap[gb739]? = some (.cells #[.int .i64 x740000_2, .int .i64 x740001_2] 33 (0, 0))) ∧ Aside0 (Below w.heap.size w w'))
   case atStart => exact ⟨(1), (x740000_1), (x740001_1), rr, H', ⟨Nat.le_refl _⟩, ⟨bo BK739.out⟩, ⟨bw⟩⟩
   case round =>
    clear H'
    try clear c3b0; try clear c5b0; try clear c6b0; try clear hcz9_0; try clear hcz9_1; try clear hfz9_0; try clear hfz9_1; try clear hx740_0; try clear p740; try clear q740
    obtain ⟨x6_2, x740000_2, x740001_2, rfl, HA, HK2, BK739, HB⟩ := hrel
    cases gk with
    | zero => exact absurd HA.out (by simp [spec_CoordinateClash.l1])
    | succ k2 =>
     have H := HA.out
     clear HA
     simp only [spec_CoordinateClash.l1] at H
     replace H := gi H; obtain ⟨c10b0, H⟩ | ⟨c10b0, H⟩ := H
     ·have H' := am H
      clear H
      go_wp2
      repeat (go_quiet (fail); try go_wp2)
      go_loopg [7] k2 (fun kq v7 w' => ∃ (x7_3 : Int) (x740000_3 : Int) (x740001_3 : Int), v7 = .int .i64 x7_3 ∧ Aside0 (spec_CoordinateClash.l2 kq l0 (wrap64 ((l0.length : Int) + 1)) x6_2 x7_3 = some (r1, r2, r3)) ∧ Aside0 (kq ≤ k2) ∧ Aside0 (w'.heap[gb739]? = some (.cells #[.int .i64 x740000_3, .int .i64 x740001_3] 33 (0, 0))) ∧ Aside0 (Below w.heap.size w w'))
      case atStart => exact ⟨(x6_2), (x740000_2), (x740001_2), rr, H', ⟨Nat.le_refl _⟩, ⟨bo BK739.out⟩, ⟨bw⟩⟩
      case round =>
       clear H'
       try clear c3b0; try clear c5b0; try clear c6b0; try clear c10b0; try clear hcz9_0; try clear hcz9_1; try clear hfz9_0; try clear hfz9_1; try clear hx740_0; try clear p740; try clear q740
       obtain ⟨x7_3, x740000_3, x740001_3, rfl, HA, HK3, BK739, HB⟩ := hrel
       cases gk with
       | zero => exact absurd HA.out (by simp [spec_CoordinateClash.l2])
       | succ k3 =>
        have H := HA.out
        clear HA
        simp only [spec_CoordinateClash.l2] at H
        replace H := gi H; obtain ⟨c11b0, H⟩ | ⟨c11b0, H⟩ := H
        ·obtain ⟨ji12, hji12⟩ : ∃ j_ : Int, (wrap64 (x6_2 - 1)) = j_ := ⟨_, rfl⟩
         replace H : (if 0 ≤ (ji12) then (if (ji12) < (l0.length : Int) then (if 0 ≤ (wrap64 (x7_3 - 1)) then (if (wrap64 (x7_3 - 1)) < (l0.length : Int) then (if (wrap64 (x6_2 + x7_3)) < (wrap64 ((l0.length : Int) + 1)) then (if 0 ≤ (wrap64 ((wrap64 (x6_2 + x7_3)) - 1)) then (if (wrap64 ((wrap64 (x6_2 + x7_3)) - 1)) < (l0.length : Int) then (if (wrap64 ((rd l0 (ji12)) + (rd l0 (wrap64 (x7_3 - 1))))) < (rd l0 (wrap64 ((wrap64 (x6_2 + x7_3)) - 1))) then (some (x6_2, x7_3, true)) else (if (wrap64 (x6_2 + x7_3)) > (wrap64 ((l0.length : Int) + 1)) then (if 0 ≤ (wrap64 ((wrap64 ((wrap64 (x6_2 + x7_3)) - (wrap64 ((l0.length : Int) + 1)))) - 1)) then (if (wrap64 ((wrap64 ((wrap64 (x6_2 + x7_3)) - (wrap64 ((l0.length : Int) + 1)))) - 1)) < (l0.length : Int) then (if (wrap64 ((wrap64 ((rd l0 (ji12)) + (rd l0 (wrap64 (x7_3 - 1))))) + 1)) < (rd l0 (wrap64 ((wrap64 ((wrap64 (x6_2 + x7_3)) - (wrap64 ((l0.length : Int) + 1)))) - 1))) then (some (x6_2, x7_3, true)) else (spec_CoordinateClash.l2 k3 l0 (wrap64 ((l0.length : Int) + 1)) x6_2 (wrap64 (x7_3 + 1)))) else (none)) else (none)) else (spec_CoordinateClash.l2 k3 l0 (wrap64 ((l0.length : Int) + 1)) x6_2 (wrap64 (x7_3 + 1))))) else (none)) else (none)) else (if (wrap64 (x6_2 + x7_3)) > (wrap64 ((l0.length : Int) + 1)) then (if 0 ≤ (wrap64 ((wrap64 ((wrap64 (x6_2 + x7_3)) - (wrap64 ((l0.length : Int) + 1)))) - 1)) then (if (wrap64 ((wrap64 ((wrap64 (x6_2 + x7_3)) - (wrap64 ((l0.length : Int) + 1)))) - 1)) < (l0.length : Int) then (if (wrap64 ((wrap64 ((rd l0 (ji12)) + (rd l0 (wrap64 (x7_3 - 1))))) + 1)) < (rd l0 (wrap64 ((wrap64 ((wrap64 (x6_2 + x7_3)) - (wrap64 ((l0.length : Int) + 1)))) - 1))) then (some (x6_2, x7_3, true)) else (spec_CoordinateClash.l2 k3 l0 (wrap64 ((l0.length : Int) + 1)) x6_2 (wrap64 (x7_3 + 1)))) else (none)) else (none)) else (spec_CoordinateClash.l2 k3 l0 (wrap64 ((l0.length : Int) + 1)) x6_2 (wrap64 (x7_3 + 1))))) else (none)) else (none)) else (none)) else (none)) = some (r1, r2, r3) := by first | (rw [hji12] at H; exact H) | (simp only [hji12] at H ⊢; exact H)
         have hji12w : (IntKind.i64.wrap (x6_2 - 1)) = ji12 := (i64_w _).trans hji12
         replace H := gd H; obtain ⟨c13b0, H⟩ := H
         replace H := gd H; obtain ⟨c14b0, H⟩ := H
         obtain ⟨ji15, hji15⟩ : ∃ j_ : Int, (wrap64 (x7_3 - 1)) = j_ := ⟨_, rfl⟩
         replace H : (if 0 ≤ (ji15) then (if (ji15) < (l0.length : Int) then (if (wrap64 (x6_2 + x7_3)) < (wrap64 ((l0.length : Int) + 1)) then (if 0 ≤ (wrap64 ((wrap64 (x6_2 + x7_3)) - 1)) then (if (wrap64 ((wrap64 (x6_2 + x7_3)) - 1)) < (l0.length : Int) then (if (wrap64 ((rd l0 (ji12)) + (rd l0 (ji15)))) < (rd l0 (wrap64 ((wrap64 (x6_2 + x7_3)) - 1))) then (some (x6_2, x7_3, true)) else (if (wrap64 (x6_2 + x7_3)) > (wrap64 ((l0.length : Int) + 1)) then (if 0 ≤ (wrap64 ((wrap64 ((wrap64 (x6_2 + x7_3)) - (wrap64 ((l0.length : Int) + 1)))) - 1)) then (if (wrap64 ((wrap64 ((wrap64 (x6_2 + x7_3)) - (wrap64 ((l0.length : Int) + 1)))) - 1)) < (l0.length : Int) then (if (wrap64 ((wrap64 ((rd l0 (ji12)) + (rd l0 (ji15)))) + 1)) < (rd l0 (wrap64 ((wrap64 ((wrap64 (x6_2 + x7_3)) - (wrap64 ((l0.length : Int) + 1)))) - 1))) then (some (x6_2, x7_3, true)) else (spec_CoordinateClash.l2 k3 l0 (wrap64 ((l0.length : Int) + 1)) x6_2 (wrap64 (x7_3 + 1)))) else (none)) else (none)) else (spec_CoordinateClash.l2 k3 l0 (wrap64 ((l0.length : Int) + 1)) x6_2 (wrap64 (x7_3 + 1))))) else (none)) else (none)) else (if (wrap64 (x6_2 + x7_3)) > (wrap64 ((l0.length : Int) + 1)) then (if 0 ≤ (wrap64 ((wrap64 ((wrap64 (x6_2 + x7_3)) - (wrap64 ((l0.length : Int) + 1)))) - 1)) then (if (wrap64 ((wrap64 ((wrap64 (x6_2 + x7_3)) - (wrap64 ((l0.length : Int) + 1)))) - 1)) < (l0.length : Int) then (if (wrap64 ((wrap64 ((rd l0 (ji12)) + (rd l0 (ji15)))) + 1)) < (rd l0 (wrap64 ((wrap64 ((wrap64 (x6_2 + x7_3)) - (wrap64 ((l0.length : Int) + 1)))) - 1))) then (some (x6_2, x7_3, true)) else (spec_CoordinateClash.l2 k3 l0 (wrap64 ((l0.length : Int) + 1)) x6_2 (wrap64 (x7_3 + 1)))) else (none)) else (none)) else (spec_CoordinateClash.l2 k3 l0 (wrap64 ((l0.length : Int) + 1)) x6_2 (wrap64 (x7_3 + 1))))) else (none)) else (none)) = some (r1, r2, r3) := by first | (rw [hji15] at H; exact H) | (simp only [hji15] at H ⊢; exact H)
         have hji15w : (IntKind.i64.wrap (x7_3 - 1)) = ji15 := (i64_w _).trans hji15
         replace H := gd H; obtain ⟨c16b0, H⟩ := H
         replace H := gd H; obtain ⟨c17b0, H⟩ := H
         replace H := gi H; obtain ⟨c18b0, H⟩ | ⟨c18b0, H⟩ := H
         ·obtain ⟨ji19, hji19⟩ : ∃ j_ : Int, (wrap64 ((wrap64 (x6_2 + x7_3)) - 1)) = j_ := ⟨_, rfl⟩
          replace H : (if 0 ≤ (ji19) then (if (ji19) < (l0.length : Int) then (if (wrap64 ((rd l0 (ji12)) + (rd l0 (ji15)))) < (rd l0 (ji19)) then (some (x6_2, x7_3, true)) else (if (wrap64 (x6_2 + x7_3)) > (wrap64 ((l0.length : Int) + 1)) then (if 0 ≤ (wrap64 ((wrap64 ((wrap64 (x6_2 + x7_3)) - (wrap64 ((l0.length : Int) + 1)))) - 1)) then (if (wrap64 ((wrap64 ((wrap64 (x6_2 + x7_3)) - (wrap64 ((l0.length : Int) + 1)))) - 1)) < (l0.length : Int) then (if (wrap64 ((wrap64 ((rd l0 (ji12)) + (rd l0 (ji15)))) + 1)) < (rd l0 (wrap64 ((wrap64 ((wrap64 (x6_2 + x7_3)) - (wrap64 ((l0.length : Int) + 1)))) - 1))) then (some (x6_2, x7_3, true)) else (spec_CoordinateClash.l2 k3 l0 (wrap64 ((l0.length : Int) + 1)) x6_2 (wrap64 (x7_3 + 1)))) else (none)) else (none)) else (spec_CoordinateClash.l2 k3 l0 (wrap64 ((l0.length : Int) + 1)) x6_2 (wrap64 (x7_3 + 1))))) else (none)) else (none)) = some (r1, r2, r3) := by first | (rw [hji19] at H; exact H) | (simp only [hji19] at H ⊢; exact H)
          have hji19w : (IntKind.i64.wrap ((wrap64 (x6_2 + x7_3)) - 1)) = ji19 := (i64_w _).trans hji19
          replace H := gd H; obtain ⟨c20b0, H⟩ := H
          replace H := gd H; obtain ⟨c21b0, H⟩ := H
          replace H := gi H; obtain ⟨c22b0, H⟩ | ⟨c22b0, H⟩ := H
          ·simp only [Option.some.injEq, Prod.mk.injEq] at H
           obtain ⟨rfl, rfl, rfl⟩ := H
           obtain ⟨⟨ad742, e742, hx742_0⟩, p742, q742⟩ := pq (Kd.at_int HR0.out (ji12))
           cases e742
           replace hx742_0 := hw HB hx742_0
           obtain ⟨⟨ad743, e743, hx743_0⟩, p743, q743⟩ := pq (Kd.at_int HR0.out (ji15))
           obtain rfl : ad742 = ad743 := (by injection e743)
           replace hx743_0 := hw HB hx743_0
           obtain ⟨⟨ad744, e744, hx744_0⟩, p744, q744⟩ := pq (Kd.at_int HR0.out (ji19))
           obtain rfl : ad742 = ad744 := (by injection e744)
           replace hx744_0 := hw HB hx744_0
           have hcz23_0 := bc BK739 0 (.int .i64 x740000_3)
           have hcz23_1 := bc BK739 1 (.int .i64 x740001_3)
           have hfz23_0 := blk_frozen BK739.out 0
           have hfz23_1 := blk_frozen BK739.out 1
           go_wp2
           repeat (go_quiet (fail); try go_wp2)
           refine bodyPost_ret (results_ct rfl _ _ gb739 33 #[.int .i64 x6_2, .int .i64 x7_3] (0, 0) _ rfl (by (with_reducible repeat (first | refine blk_drewN ?_ _ | refine blk_drew ?_ | refine blk_alloc ?_ _)); refine blk_put (cs := #[.int .i64 x6_2, .int .i64 x740001_3]) ?_ 1 _ rfl; (with_reducible repeat (first | refine blk_drewN ?_ _ | refine blk_drew ?_ | refine blk_alloc ?_ _)); refine blk_put (cs := #[.int .i64 x740000_3, .int .i64 x740001_3]) ?_ 0 _ rfl; (with_reducible repeat (first | refine blk_drewN ?_ _ | refine blk_drew ?_ | refine blk_alloc ?_ _)); exact BK739.out) Try.underlying33 rfl (by kernel_rfl)) rfl ?_
           exact ⟨by first | rfl | (simp [errW_none, errW_some] <;> rfl) | (simp only [← hji12, ← hji15, ← hji19]; first | rfl | (simp [errW_none, errW_some] <;> rfl)) | (simp [*, errW_none, errW_some] <;> rfl), bw⟩
          replace H := gj H; obtain ⟨c24, H⟩ | ⟨c24, H⟩ := H
          ·have c24b0 : decide ((wrap64 ((l0.length : Int) + 1)) < (wrap64 (x6_2 + x7_3))) = true := decide_eq_true c24
           clear c24
           obtain ⟨ji25, hji25⟩ : ∃ j_ : Int, (wrap64 ((wrap64 ((wrap64 (x6_2 + x7_3)) - (wrap64 ((l0.length : Int) + 1)))) - 1)) = j_ := ⟨_, rfl⟩
           replace H : (if 0 ≤ (ji25) then (if (ji25) < (l0.length : Int) then (if (wrap64 ((wrap64 ((rd l0 (ji12)) + (rd l0 (ji15)))) + 1)) < (rd l0 (ji25)) then (some (x6_2, x7_3, true)) else (spec_CoordinateClash.l2 k3 l0 (wrap64 ((l0.length : Int) + 1)) x6_2 (wrap64 (x7_3 + 1)))) else (none)) else (none)) = some (r1, r2, r3) := by first | (rw [hji25] at H; exact H) | (simp only [hji25] at H ⊢; exact H)
           have hji25w : (IntKind.i64.wrap ((wrap64 ((wrap64 (x6_2 + x7_3)) - (wrap64 ((l0.length : Int) + 1)))) - 1)) = ji25 := (i64_w _).trans hji25
           replace H := gd H; obtain ⟨c26b0, H⟩ := H
           replace H := gd H; obtain ⟨c27b0, H⟩ := H
           replace H := gi H; obtain ⟨c28b0, H⟩ | ⟨c28b0, H⟩ := H
           ·simp only [Option.some.injEq, Prod.mk.injEq] at H
            obtain ⟨rfl, rfl, rfl⟩ := H
            obtain ⟨⟨ad742, e742, hx742_0⟩, p742, q742⟩ := pq (Kd.at_int HR0.out (ji12))
            cases e742
            replace hx742_0 := hw HB hx742_0
            obtain ⟨⟨ad743, e743, hx743_0⟩, p743, q743⟩ := pq (Kd.at_int HR0.out (ji15))
            obtain rfl : ad742 = ad743 := (by injection e743)
            replace hx743_0 := hw HB hx743_0
            obtain ⟨⟨ad744, e744, hx744_0⟩, p744, q744⟩ := pq (Kd.at_int HR0.out (ji19))
            obtain rfl : ad742 = ad744 := (by injection e744)
            replace hx744_0 := hw HB hx744_0
            obtain ⟨⟨ad745, e745, hx745_0⟩, p745, q745⟩ := pq (Kd.at_int HR0.out (ji25))
            obtain rfl : ad742 = ad745 := (by injection e745)
            replace hx745_0 := hw HB hx745_0
            have hcz29_0 := bc BK739 0 (.int .i64 x740000_3)
            have hcz29_1 := bc BK739 1 (.int .i64 x740001_3)
            have hfz29_0 := blk_frozen BK739.out 0
            have hfz29_1 := blk_frozen BK739.out 1
            go_wp2
            repeat (go_quiet (fail); try go_wp2)
            refine bodyPost_ret (results_ct rfl _ _ gb739 33 #[.int .i64 x6_2, .int .i64 x7_3] (0, 0) _ rfl (by (with_reducible repeat (first | refine blk_drewN ?_ _ | refine blk_drew ?_ | refine blk_alloc ?_ _)); refine blk_put (cs := #[.int .i64 x6_2, .int .i64 x740001_3]) ?_ 1 _ rfl; (with_reducible repeat (first | refine blk_drewN ?_ _ | refine blk_drew ?_ | refine blk_alloc ?_ _)); refine blk_put (cs := #[.int .i64 x740000_3, .int .i64 x740001_3]) ?_ 0 _ rfl; (with_reducible repeat (first | refine blk_drewN ?_ _ | refine blk_drew ?_ | refine blk_alloc ?_ _)); exact BK739.out) Try.underlying33 rfl (by kernel_rfl)) rfl ?_
            exact ⟨by first | rfl | (simp [errW_none, errW_some] <;> rfl) | (simp only [← hji12, ← hji15, ← hji19, ← hji25]; first | rfl | (simp [errW_none, errW_some] <;> rfl)) | (simp [*, errW_none, errW_some] <;> rfl), bw⟩
           have H' := am H
           clear H
           obtain ⟨⟨ad742, e742, hx742_0⟩, p742, q742⟩ := pq (Kd.at_int HR0.out (ji12))
           cases e742
           replace hx742_0 := hw HB hx742_0
           obtain ⟨⟨ad743, e743, hx743_0⟩, p743, q743⟩ := pq (Kd.at_int HR0.out (ji15))
           obtain rfl : ad742 = ad743 := (by injection e743)
           replace hx743_0 := hw HB hx743_0
           obtain ⟨⟨ad744, e744, hx744_0⟩, p744, q744⟩ := pq (Kd.at_int HR0.out (ji19))
           obtain rfl : ad742 = ad744 := (by injection e744)
           replace hx744_0 := hw HB hx744_0
           obtain ⟨⟨ad745, e745, hx745_0⟩, p745, q745⟩ := pq (Kd.at_int HR0.out (ji25))
           obtain rfl : ad742 = ad745 := (by injection e745)
           replace hx745_0 := hw HB hx745_0
           go_wp2
           repeat (go_quiet (fail); try go_wp2)
           go_roundg k3
           case measure => have := HK1.out; have := HK2.out; have := HK3.out; omega
           case rel => exact ⟨(wrap64 (x7_3 + 1)), (x740000_3), (x740001_3), rr, H', ⟨by have := HK1.out; have := HK2.out; have := HK3.out; omega⟩, ⟨bo BK739.out⟩, ⟨bw⟩⟩
          have c24b0 : decide ((wrap64 ((l0.length : Int) + 1)) < (wrap64 (x6_2 + x7_3))) = false := decide_eq_false c24
          clear c24
          have H' := am H
          clear H
          obtain ⟨⟨ad742, e742, hx742_0⟩, p742, q742⟩ := pq (Kd.at_int HR0.out (ji12))
          cases e742
          replace hx742_0 := hw HB hx742_0
          obtain ⟨⟨ad743, e743, hx743_0⟩, p743, q743⟩ := pq (Kd.at_int HR0.out (ji15))
          obtain rfl : ad742 = ad743 := (by injection e743)
          replace hx743_0 := hw HB hx743_0
          obtain ⟨⟨ad744, e744, hx744_0⟩, p744, q744⟩ := pq (Kd.at_int HR0.out (ji19))
          obtain rfl : ad742 = ad744 := (by injection e744)
          replace hx744_0 := hw HB hx744_0
          go_wp2
          repeat (go_quiet (fail); try go_wp2)
          go_roundg k3
          case measure => have := HK1.out; have := HK2.out; have := HK3.out; omega
          case rel => exact ⟨(wrap64 (x7_3 + 1)), (x740000_3), (x740001_3), rr, H', ⟨by have := HK1.out; have := HK2.out; have := HK3.out; omega⟩, ⟨bo BK739.out⟩, ⟨bw⟩⟩
         replace H := gj H; obtain ⟨c30, H⟩ | ⟨c30, H⟩ := H
         ·have c30b0 : decide ((wrap64 ((l0.length : Int) + 1)) < (wrap64 (x6_2 + x7_3))) = true := decide_eq_true c30
          clear c30
          obtain ⟨ji31, hji31⟩ : ∃ j_ : Int, (wrap64 ((wrap64 ((wrap64 (x6_2 + x7_3)) - (wrap64 ((l0.length : Int) + 1)))) - 1)) = j_ := ⟨_, rfl⟩
          replace H : (if 0 ≤ (ji31) then (if (ji31) < (l0.length : Int) then (if (wrap64 ((wrap64 ((rd l0 (ji12)) + (rd l0 (ji15)))) + 1)) < (rd l0 (ji31)) then (some (x6_2, x7_3, true)) else (spec_CoordinateClash.l2 k3 l0 (wrap64 ((l0.length : Int) + 1)) x6_2 (wrap64 (x7_3 + 1)))) else (none)) else (none)) = some (r1, r2, r3) := by first | (rw [hji31] at H; exact H) | (simp only [hji31] at H ⊢; exact H)
          have hji31w : (IntKind.i64.wrap ((wrap64 ((wrap64 (x6_2 + x7_3)) - (wrap64 ((l0.length : Int) + 1)))) - 1)) = ji31 := (i64_w _).trans hji31
          replace H := gd H; obtain ⟨c32b0, H⟩ := H
          replace H := gd H; obtain ⟨c33b0, H⟩ := H
          replace H := gi H; obtain ⟨c34b0, H⟩ | ⟨c34b0, H⟩ := H
          ·simp only [Option.some.injEq, Prod.mk.injEq] at H
           obtain ⟨rfl, rfl, rfl⟩ := H
           obtain ⟨⟨ad742, e742, hx742_0⟩, p742, q742⟩ := pq (Kd.at_int HR0.out (ji12))
           cases e742
           replace hx742_0 := hw HB hx742_0
           obtain ⟨⟨ad743, e743, hx743_0⟩, p743, q743⟩ := pq (Kd.at_int HR0.out (ji15))
           obtain rfl : ad742 = ad743 := (by injection e743)
           replace hx743_0 := hw HB hx743_0
           obtain ⟨⟨ad746, e746, hx746_0⟩, p746, q746⟩ := pq (Kd.at_int HR0.out (ji31))
           obtain rfl : ad742 = ad746 := (by injection e746)
           replace hx746_0 := hw HB hx746_0
           have hcz35_0 := bc BK739 0 (.int .i64 x740000_3)
           have hcz35_1 := bc BK739 1 (.int .i64 x740001_3)
           have hfz35_0 := blk_frozen BK739.out 0
           have hfz35_1 := blk_frozen BK739.out 1
           go_wp2
           repeat (go_quiet (fail); try go_wp2)
           refine bodyPost_ret (results_ct rfl _ _ gb739 33 #[.int .i64 x6_2, .int .i64 x7_3] (0, 0) _ rfl (by (with_reducible repeat (first | refine blk_drewN ?_ _ | refine blk_drew ?_ | refine blk_alloc ?_ _)); refine blk_put (cs := #[.int .i64 x6_2, .int .i64 x740001_3]) ?_ 1 _ rfl; (with_reducible repeat (first | refine blk_drewN ?_ _ | refine blk_drew ?_ | refine blk_alloc ?_ _)); refine blk_put (cs := #[.int .i64 x740000_3, .int .i64 x740001_3]) ?_ 0 _ rfl; (with_reducible repeat (first | refine blk_drewN ?_ _ | refine blk_drew ?_ | refine blk_alloc ?_ _)); exact BK739.out) Try.underlying33 rfl (by kernel_rfl)) rfl ?_
           exact ⟨by first | rfl | (simp [errW_none, errW_some] <;> rfl) | (simp only [← hji12, ← hji15, ← hji31]; first | rfl | (simp [errW_none, errW_some] <;> rfl)) | (simp [*, errW_none, errW_some] <;> rfl), bw⟩
          have H' := am H
          clear H
          obtain ⟨⟨ad742, e742, hx742_0⟩, p742, q742⟩ := pq (Kd.at_int HR0.out (ji12))
          cases e742
          replace hx742_0 := hw HB hx742_0
          obtain ⟨⟨ad743, e743, hx743_0⟩, p743, q743⟩ := pq (Kd.at_int HR0.out (ji15))
          obtain rfl : ad742 = ad743 := (by injection e743)
          replace hx743_0 := hw HB hx743_0
          obtain ⟨⟨ad746, e746, hx746_0⟩, p746, q746⟩ := pq (Kd.at_int HR0.out (ji31))
          obtain rfl : ad742 = ad746 := (by injection e746)
          replace hx746_0 := hw HB hx746_0
          go_wp2
          repeat (go_quiet (fail); try go_wp2)
          go_roundg k3
          case measure => have := HK1.out; have := HK2.out; have := HK3.out; omega
          case rel => exact ⟨(wrap64 (x7_3 + 1)), (x740000_3), (x740001_3), rr, H', ⟨by have := HK1.out; have := HK2.out; have := HK3.out; omega⟩, ⟨bo BK739.out⟩, ⟨bw⟩⟩
         have c30b0 : decide ((wrap64 ((l0.length : Int) + 1)) < (wrap64 (x6_2 + x7_3))) = false := decide_eq_false c30
         clear c30
         have H' := am H
         clear H
         obtain ⟨⟨ad742, e742, hx742_0⟩, p742, q742⟩ := pq (Kd.at_int HR0.out (ji12))
         cases e742
         replace hx742_0 := hw HB hx742_0
         obtain ⟨⟨ad743, e743, hx743_0⟩, p743, q743⟩ := pq (Kd.at_int HR0.out (ji15))
         obtain rfl : ad742 = ad743 := (by injection e743)
         replace hx743_0 := hw HB hx743_0
         go_wp2
         repeat (go_quiet (fail); try go_wp2)
         go_roundg k3
         case measure => have := HK1.out; have := HK2.out; have := HK3.out; omega
         case rel => exact ⟨(wrap64 (x7_3 + 1)), (x740000_3), (x740001_3), rr, H', ⟨by have := HK1.out; have := HK2.out; have := HK3.out; omega⟩, ⟨bo BK739.out⟩, ⟨bw⟩⟩
        have H' := am H
        clear H
        go_wp2
        repeat (go_quiet (fail); try go_wp2)
        go_roundg k3
        case measure => have := HK1.out; have := HK2.out; have := HK3.out; omega
        case rel => exact ⟨(wrap64 (x6_2 + 1)), (x740000_3), (x740001_3), rr, H', ⟨by have := HK1.out; have := HK2.out; have := HK3.out; omega⟩, ⟨bo BK739.out⟩, ⟨bw⟩⟩
     simp only [Option.some.injEq, Prod.mk.injEq] at H
     obtain ⟨rfl, rfl, rfl⟩ := H
     have hcz36_0 := bc BK739 0 (.int .i64 x740000_2)
     have hcz36_1 := bc BK739 1 (.int .i64 x740001_2)
     have hfz36_0 := blk_frozen BK739.out 0
     have hfz36_1 := blk_frozen BK739.out 1
     go_wp2
     repeat (go_quiet (fail); try go_wp2)
     refine bodyPost_ret (results_ct rfl _ _ gb739 33 #[.int .i64 0, .int .i64 0] (0, 0) _ rfl (by (with_reducible repeat (first | refine blk_drewN ?_ _ | refine blk_drew ?_ | refine blk_alloc ?_ _)); refine blk_put (cs := #[.int .i64 0, .int .i64 x740001_2]) ?_ 1 _ rfl; (with_reducible repeat (first | refine blk_drewN ?_ _ | refine blk_drew ?_ | refine blk_alloc ?_ _)); refine blk_put (cs := #[.int .i64 x740000_2, .int .i64 x740001_2]) ?_ 0 _ rfl; (with_reducible repeat (first | refine blk_drewN ?_ _ | refine blk_drew ?_ | refine blk_alloc ?_ _)); exact BK739.out) Try.underlying33 rfl (by kernel_rfl)) rfl ?_
     exact ⟨re, bw⟩


/-! ### spec_l3Has: function 154 -/
def spec_l3Has.f (k : Nat) (l0_0 : List Int) (a1 : Int) : Option (Bool) := if a1 < 0 then (some (decide (a1 > 0))) else (if a1 ≥ 200 then (some (decide (a1 > 0))) else ((spec_l3Table.f k l0_0 a1).bind fun t748 => (if 0 ≤ a1 then (if a1 < (t748.length : Int) then (some (rdOf false t748 a1)) else (none)) else (none))))
set_option maxHeartbeats 8000000 in
set_option maxRecDepth 100000 in
theorem spec_l3Has.calls (k : Nat) (A0_0 : Option Addr) (c0_0 : Nat) (l0_0 : List Int) (a1 : Int) (r : Bool) (w : World) (hr0_0 : Kd.C (Kd.int .i64) w A0_0 l0_0.length l0_0) (hc0_0 : l0_0.length ≤ c0_0) (h : spec_l3Has.f k l0_0 a1 = some r) :
  Calls Try.prog 154 #[.agg #[.slice A0_0 l0_0.length c0_0], .int .i64 a1] w fun e w' => e = .returned (.bool r) ∧ Below w.heap.size w w' := by
 have hu26 := Try.underlying26
 have HR0_0 := am hr0_0
 have HC0_0 := am hc0_0
 clear hr0_0 hc0_0
 have HB := am (Below.refl w.heap.size w)
 have H : (if a1 < 0 then (some (decide (a1 > 0))) else (if a1 ≥ 200 then (some (decide (a1 > 0))) else ((spec_l3Table.f k l0_0 a1).bind fun t748 => (if 0 ≤ a1 then (if a1 < (t748.length : Int) then (some (rdOf false t748 a1)) else (none)) else (none))))) = some r := h
 clear h
 replace H := gi H; obtain ⟨c3b0, H⟩ | ⟨c3b0, H⟩ := H
 ·obtain rfl := Option.some.inj H
  go_enter Try.func154, Try.ntmps154
  go_wp2_with (first | ((with_reducible refine gate_dst (N := 2) rfl ?_); refine bx 2 #[.slice A0_0 l0_0.length c0_0] 26 ?_; intro gb747 hg w4 hbox hb; have BK747 := am (hbox); have GW747 := am (gs hg : w.heap.size ≤ gb747); have GE747 := GW747; replace HB := am (below_step bw hb); clear hb hbox hg))
  go_ret
  exact ⟨re, bw⟩
 replace H := gj H; obtain ⟨c5, H⟩ | ⟨c5, H⟩ := H
 ·have c5b0 : decide (200 ≤ a1) = true := decide_eq_true c5
  clear c5
  obtain rfl := Option.some.inj H
  go_enter Try.func154, Try.ntmps154
  go_wp2_with (first | ((with_reducible refine gate_dst (N := 2) rfl ?_); refine bx 2 #[.slice A0_0 l0_0.length c0_0] 26 ?_; intro gb747 hg w6 hbox hb; have BK747 := am (hbox); have GW747 := am (gs hg : w.heap.size ≤ gb747); have GE747 := GW747; replace HB := am (below_step bw hb); clear hb hbox hg))
  go_ret
  exact ⟨re, bw⟩
 have c5b0 : decide (200 ≤ a1) = false := decide_eq_false c5
 clear c5
 replace H := ga H; obtain ⟨t748, A7, H⟩ := H
 replace H := gd H; obtain ⟨c8b0, H⟩ := H
 replace H := gd H; obtain ⟨c9b0, H⟩ := H
 obtain rfl := Option.some.inj H
 go_enter Try.func154, Try.ntmps154
 go_wp2_with (first | ((with_reducible refine gate_dst (N := 2) rfl ?_); refine bx 2 #[.slice A0_0 l0_0.length c0_0] 26 ?_; intro gb747 hg w10 hbox hb; have BK747 := am (hbox); have GW747 := am (gs hg : w.heap.size ≤ gb747); have GE747 := GW747; replace HB := am (below_step bw hb); clear hb hbox hg; have hcz11_0 := bc BK747 0 (.slice A0_0 l0_0.length c0_0); have hfz11_0 := blk_frozen BK747.out 0) | ((with_reducible refine gate_callee (f := 215) rfl ?_); refine gl (some 16) Try.func215 #[.slice A0_0 l0_0.length c0_0, .int .i64 a1] ?_; (with_reducible refine (spec_l3Table.calls k _ _ l0_0 a1 t748 _ ?side1 ?side2 A7.out).mono ?_); (case side1 => exact co (Kd.C_below HR0_0.out HB.out)); (case side2 => exact HC0_0.out); rintro e w12 ⟨v749, rfl, ho0, hb⟩; refine ⟨_, rfl, ?_⟩; have HO750 := am (Kd.R_lower ho0 (below_size bw)); replace BK747 := kb BK747 hb; replace HB := am (below_step bw hb); clear hb ho0; obtain ⟨Ao13, co13, eo13⟩ := Kd.R_slice HO750.out; subst eo13; have p751 : 0 ≤ (a1 : Int) := of_decide_eq_true (by first | (with_reducible assumption) | assumption); have q751 : a1 < (t748.length : Int) := of_decide_eq_true (by first | (with_reducible assumption) | assumption); obtain ⟨ad751, e751, hx751_0⟩ := Kd.at_bool (Kd.R_reads' HO750.out).2.2 a1 p751 q751; cases e751; replace p751 := eq_true p751; replace q751 := eq_true q751))
 go_ret
 exact ⟨re, bw⟩


/-! ### spec_Contains: function 33 -/
def spec_Contains.f (k : Nat) (l0_0 : List Int) (a1 : Int) : Option (Bool) := (spec_IsSemigroup.f k l0_0).bind fun t753 => (if t753 = true then ((spec_l3Has.f k l0_0 a1).bind fun t754 => (some t754)) else (some false))
set_option maxHeartbeats 8000000 in
set_option maxRecDepth 100000 in
theorem spec_Contains.calls (k : Nat) (A0_0 : Option Addr) (c0_0 : Nat) (l0_0 : List Int) (a1 : Int) (r : Bool) (w : World) (hr0_0 : Kd.C (Kd.int .i64) w A0_0 l0_0.length l0_0) (hc0_0 : l0_0.length ≤ c0_0) (h : spec_Contains.f k l0_0 a1 = some r) :
  Calls Try.prog 33 #[.agg #[.slice A0_0 l0_0.length c0_0], .int .i64 a1] w fun e w' => e = .returned (.bool r) ∧ Below w.heap.size w w' := by
 have hu26 := Try.underlying26
 have HR0_0 := am hr0_0
 have HC0_0 := am hc0_0
 clear hr0_0 hc0_0
 have HB := am (Below.refl w.heap.size w)
 have H : ((spec_IsSemigroup.f k l0_0).bind fun t753 => (if t753 = true then ((spec_l3Has.f k l0_0 a1).bind fun t754 => (some t754)) else (some false))) = some r := h
 clear h
 replace H := ga H; obtain ⟨t753, A3, H⟩ := H
 replace H := gb H; obtain ⟨rfl, H⟩ | ⟨rfl, H⟩ := H
 ·replace H := ga H; obtain ⟨t754, A5, H⟩ := H
  obtain rfl := Option.some.inj H
  go_enter Try.func33, Try.ntmps33
  go_wp2_with (first | ((with_reducible refine gate_dst (N := 2) rfl ?_); refine bx 2 #[.slice A0_0 l0_0.length c0_0] 26 ?_; intro gb752 hg w6 hbox hb; have BK752 := am (hbox); have GW752 := am (gs hg : w.heap.size ≤ gb752); have GE752 := GW752; replace HB := am (below_step bw hb); clear hb hbox hg; have hcz7_0 := bc BK752 0 (.slice A0_0 l0_0.length c0_0); have hfz7_0 := blk_frozen BK752.out 0) | ((with_reducible refine gate_callee (f := 23) rfl ?_); refine gl (some 6) Try.func23 #[.agg #[.slice A0_0 l0_0.length c0_0]] ?_; (with_reducible refine (spec_IsSemigroup.calls k _ _ l0_0 true _ ?side1 ?side2 A3.out).mono ?_); (case side1 => exact co (Kd.C_below HR0_0.out HB.out)); (case side2 => exact HC0_0.out); rintro e w8 ⟨rfl, hb⟩; refine ⟨_, rfl, ?_⟩; replace BK752 := kb BK752 hb; replace HB := am (below_step bw hb); clear hb; have hcz9_0 := bc BK752 0 (.slice A0_0 l0_0.length c0_0); have hfz9_0 := blk_frozen BK752.out 0) | (go_at_call 154; (with_reducible refine (spec_l3Has.calls k _ _ l0_0 a1 t754 _ ?side1 ?side2 A5.out).mono ?_); (case side1 => exact co (Kd.C_below HR0_0.out HB.out)); (case side2 => exact HC0_0.out); rintro e w10 ⟨rfl, hb⟩; replace BK752 := kb BK752 hb; replace HB := am (below_step bw hb); clear hb))
  go_ret
  exact ⟨re, bw⟩
 obtain rfl := Option.some.inj H
 go_enter Try.func33, Try.ntmps33
 go_wp2_with (first | ((with_reducible refine gate_dst (N := 2) rfl ?_); refine bx 2 #[.slice A0_0 l0_0.length c0_0] 26 ?_; intro gb752 hg w11 hbox hb; have BK752 := am (hbox); have GW752 := am (gs hg : w.heap.size ≤ gb752); have GE752 := GW752; replace HB := am (below_step bw hb); clear hb hbox hg; have hcz12_0 := bc BK752 0 (.slice A0_0 l0_0.length c0_0); have hfz12_0 := blk_frozen BK752.out 0) | ((with_reducible refine gate_callee (f := 23) rfl ?_); refine gl (some 6) Try.func23 #[.agg #[.slice A0_0 l0_0.length c0_0]] ?_; (with_reducible refine (spec_IsSemigroup.calls k _ _ l0_0 false _ ?side1 ?side2 A3.out).mono ?_); (case side1 => exact co (Kd.C_below HR0_0.out HB.out)); (case side2 => exact HC0_0.out); rintro e w13 ⟨rfl, hb⟩; refine ⟨_, rfl, ?_⟩; replace BK752 := kb BK752 hb; replace HB := am (below_step bw hb); clear hb))
 go_ret
 exact ⟨re, bw⟩


/-! ### spec_AperySet: function 211 -/
def spec_AperySet.f (k : Nat) (l0_0 : List Int) (a1 : Int) : Option (List Int) := (spec_Contains.f k l0_0 a1).bind fun t756 => (if t756 = true then ((spec_l1In.f a1 1 60).bind fun t757 => (if t757 = true then ((spec_l6Apery.f k l0_0 a1).bind fun t758 => (some t758)) else (some (([] : List Int))))) else (some (([] : List Int))))
set_option maxHeartbeats 8000000 in
set_option maxRecDepth 100000 in
theorem spec_AperySet.calls (k : Nat) (A0_0 : Option Addr) (c0_0 : Nat) (l0_0 : List Int) (a1 : Int) (r : List Int) (w : World) (hr0_0 : Kd.C (Kd.int .i64) w A0_0 l0_0.length l0_0) (hc0_0 : l0_0.length ≤ c0_0) (h : spec_AperySet.f k l0_0 a1 = some r) :
  Calls Try.prog 211 #[.agg #[.slice A0_0 l0_0.length c0_0], .int .i64 a1] w fun e w' => ∃ v0_ : Value, e = .returned (v0_) ∧ Kd.R (Kd.int .i64) 3 w' w.heap.size (fun _ => True) v0_ r ∧ Below w.heap.size w w' := by
 have hu26 := Try.underlying26
 have HR0_0 := am hr0_0
 have HC0_0 := am hc0_0
 clear hr0_0 hc0_0
 have HB := am (Below.refl w.heap.size w)
 have H : ((spec_Contains.f k l0_0 a1).bind fun t756 => (if t756 = true then ((spec_l1In.f a1 1 60).bind fun t757 => (if t757 = true then ((spec_l6Apery.f k l0_0 a1).bind fun t758 => (some t758)) else (some (([] : List Int))))) else (some (([] : List Int))))) = some r := h
 clear h
 replace H := ga H; obtain ⟨t756, A3, H⟩ := H
 replace H := gb H; obtain ⟨rfl, H⟩ | ⟨rfl, H⟩ := H
 ·replace H := ga H; obtain ⟨t757, A5, H⟩ := H
  replace H := gb H; obtain ⟨rfl, H⟩ | ⟨rfl, H⟩ := H
  ·replace H := ga H; obtain ⟨t758, A7, H⟩ := H
   obtain rfl := Option.some.inj H
   go_enter Try.func211, Try.ntmps211
   go_wp2_with (first | ((with_reducible refine gate_dst (N := 2) rfl ?_); refine bx 2 #[.slice A0_0 l0_0.length c0_0] 26 ?_; intro gb755 hg w8 hbox hb; have BK755 := am (hbox); have GW755 := am (gs hg : w.heap.size ≤ gb755); have GE755 := GW755; replace HB := am (below_step bw hb); clear hb hbox hg; have hcz9_0 := bc BK755 0 (.slice A0_0 l0_0.length c0_0); have hfz9_0 := blk_frozen BK755.out 0) | ((with_reducible refine gate_callee (f := 33) rfl ?_); refine gl (some 7) Try.func33 #[.agg #[.slice A0_0 l0_0.length c0_0], .int .i64 a1] ?_; (with_reducible refine (spec_Contains.calls k _ _ l0_0 a1 true _ ?side1 ?side2 A3.out).mono ?_); (case side1 => exact co (Kd.C_below HR0_0.out HB.out)); (case side2 => exact HC0_0.out); rintro e w10 ⟨rfl, hb⟩; refine ⟨_, rfl, ?_⟩; replace BK755 := kb BK755 hb; replace HB := am (below_step bw hb); clear hb) | (go_at_call 140; (with_reducible refine (spec_l1In.calls a1 1 60 true _ A5.out).mono ?_); rintro e w' ⟨rfl, ⟨nd, rfl⟩⟩; have hcz11_0 := bc BK755 0 (.slice A0_0 l0_0.length c0_0); have hfz11_0 := blk_frozen BK755.out 0) | ((with_reducible refine gate_callee (f := 142) rfl ?_); refine gl (some 17) Try.func142 #[.agg #[.slice A0_0 l0_0.length c0_0], .int .i64 a1] ?_; (with_reducible refine (spec_l6Apery.calls k _ _ l0_0 a1 t758 _ ?side1 ?side2 A7.out).mono ?_); (case side1 => exact co (Kd.C_below HR0_0.out bw)); (case side2 => exact HC0_0.out); rintro e w12 ⟨v759, rfl, ho0, hb⟩; refine ⟨_, rfl, ?_⟩; have HO760 := am (Kd.R_lower ho0 (below_size bw)); replace BK755 := kb BK755 hb; replace HB := am (below_step bw hb); clear hb ho0))
   go_ret
   exact ⟨_, re, ro HO760.out, bw⟩
  obtain ⟨y761, hy761⟩ : ∃ y_ : List Int, y_ = (([] : List Int)) := ⟨_, rfl⟩
  replace H : (some y761) = some r := by first | (rw [hy761]; with_reducible first | exact H | exact bs H) | (with_reducible first | exact bs H | exact H) | (rw [hy761]; exact H) | exact H
  have Ny761 := am hy761
  clear hy761
  obtain rfl := Option.some.inj H
  go_enter Try.func211, Try.ntmps211
  go_wp2_with (first | ((with_reducible refine gate_dst (N := 2) rfl ?_); refine bx 2 #[.slice A0_0 l0_0.length c0_0] 26 ?_; intro gb755 hg w13 hbox hb; have BK755 := am (hbox); have GW755 := am (gs hg : w.heap.size ≤ gb755); have GE755 := GW755; replace HB := am (below_step bw hb); clear hb hbox hg; have hcz14_0 := bc BK755 0 (.slice A0_0 l0_0.length c0_0); have hfz14_0 := blk_frozen BK755.out 0) | ((with_reducible refine gate_callee (f := 33) rfl ?_); refine gl (some 7) Try.func33 #[.agg #[.slice A0_0 l0_0.length c0_0], .int .i64 a1] ?_; (with_reducible refine (spec_Contains.calls k _ _ l0_0 a1 true _ ?side1 ?side2 A3.out).mono ?_); (case side1 => exact co (Kd.C_below HR0_0.out HB.out)); (case side2 => exact HC0_0.out); rintro e w15 ⟨rfl, hb⟩; refine ⟨_, rfl, ?_⟩; replace BK755 := kb BK755 hb; replace HB := am (below_step bw hb); clear hb) | (go_at_call 140; (with_reducible refine (spec_l1In.calls a1 1 60 false _ A5.out).mono ?_); rintro e w' ⟨rfl, ⟨nd, rfl⟩⟩) | ((with_reducible refine gate_dst (N := 14) rfl ?_); refine Kd.R_lit (Kd.int .i64) _ 3 ?hg (N := 14) ?hd (xs := ([] : List Int)) (inner := []) (ok := fun _ => True) (okp := fun _ => True) ?hr ?hp (fun _ hk => hk) trivial (Below.refl _ _) (Nat.le_refl _) (by simp) ?_; (case hd => rfl); (case hg => rfl); (case hr => first | (go_simp; done) | (go_simp; rfl)); (case hp => exact (Reps.none _ _)); intro v762 w16 ho17 hb hg_ hnew_; clear hg_ hnew_; (first | rw [← Ny761.out] at ho17 | (simp only [Int.reduceToNat] at ho17; rw [← Ny761.out] at ho17)); have HO763 := am (Kd.R_lower ho17 (below_size bw)); replace BK755 := kb BK755 hb; replace HB := am (below_step bw hb); clear hb ho17))
  go_ret
  exact ⟨_, re, ro HO763.out, bw⟩
 obtain ⟨y764, hy764⟩ : ∃ y_ : List Int, y_ = (([] : List Int)) := ⟨_, rfl⟩
 replace H : (some y764) = some r := by first | (rw [hy764]; with_reducible first | exact H | exact bs H) | (with_reducible first | exact bs H | exact H) | (rw [hy764]; exact H) | exact H
 have Ny764 := am hy764
 clear hy764
 obtain rfl := Option.some.inj H
 go_enter Try.func211, Try.ntmps211
 go_wp2_with (first | ((with_reducible refine gate_dst (N := 2) rfl ?_); refine bx 2 #[.slice A0_0 l0_0.length c0_0] 26 ?_; intro gb755 hg w18 hbox hb; have BK755 := am (hbox); have GW755 := am (gs hg : w.heap.size ≤ gb755); have GE755 := GW755; replace HB := am (below_step bw hb); clear hb hbox hg; have hcz19_0 := bc BK755 0 (.slice A0_0 l0_0.length c0_0); have hfz19_0 := blk_frozen BK755.out 0) | ((with_reducible refine gate_callee (f := 33) rfl ?_); refine gl (some 7) Try.func33 #[.agg #[.slice A0_0 l0_0.length c0_0], .int .i64 a1] ?_; (with_reducible refine (spec_Contains.calls k _ _ l0_0 a1 false _ ?side1 ?side2 A3.out).mono ?_); (case side1 => exact co (Kd.C_below HR0_0.out HB.out)); (case side2 => exact HC0_0.out); rintro e w20 ⟨rfl, hb⟩; refine ⟨_, rfl, ?_⟩; replace BK755 := kb BK755 hb; replace HB := am (below_step bw hb); clear hb) | ((with_reducible refine gate_dst (N := 14) rfl ?_); refine Kd.R_lit (Kd.int .i64) _ 3 ?hg (N := 14) ?hd (xs := ([] : List Int)) (inner := []) (ok := fun _ => True) (okp := fun _ => True) ?hr ?hp (fun _ hk => hk) trivial (Below.refl _ _) (Nat.le_refl _) (by simp) ?_; (case hd => rfl); (case hg => rfl); (case hr => first | (go_simp; done) | (go_simp; rfl)); (case hp => exact (Reps.none _ _)); intro v765 w21 ho22 hb hg_ hnew_; clear hg_ hnew_; (first | rw [← Ny764.out] at ho22 | (simp only [Int.reduceToNat] at ho22; rw [← Ny764.out] at ho22)); have HO766 := am (Kd.R_lower ho22 (below_size bw)); replace BK755 := kb BK755 hb; replace HB := am (below_step bw hb); clear hb ho22))
 go_ret
 exact ⟨_, re, ro HO766.out, bw⟩


/-! ### spec_l6Minimal: function 214 -/
def spec_l6Minimal.l0 : Nat → List Int → List Int → Int → Option (List Int)
 | 0, _, _, _ => none
 | k + 1, x3, x4, x5 => if x5 < (x4.length : Int) then (if x5 = 0 then (if 0 ≤ x5 then (if x3.length < 17592186044416 then (spec_l6Minimal.l0 k (x3 ++ [rd x4 x5]) x4 (wrap64 (x5 + 1))) else (none)) else (none)) else (if 0 ≤ x5 then (if x5 ≤ (x4.length : Int) then ((spec_l3Table.f k (x4.take (x5 : Int).toNat) (rd x4 x5)).bind fun t782 => (if 0 ≤ (rd x4 x5) then (if (rd x4 x5) < (t782.length : Int) then (if (rdOf false t782 (rd x4 x5) = true) then (spec_l6Minimal.l0 k x3 x4 (wrap64 (x5 + 1))) else (if x3.length < 17592186044416 then (spec_l6Minimal.l0 k (x3 ++ [rd x4 x5]) x4 (wrap64 (x5 + 1))) else (none))) else (none)) else (none))) else (none)) else (none))) else (some x3)
def spec_l6Minimal.f (k : Nat) (l0 : List Int) : Option (List Int) := (spec_SortList.f k l0).bind fun t770 => (spec_l6Minimal.l0 k (([] : List Int)) t770 0)
def spec_l6Minimal.T6 : Bool × List (List Nat × List Nat) := (true, [([], []), ([0], [0]), ([1], [1]), ([2], [2]), ([2], [2]), ([3, 4, 2], [2, 3, 4]), ([2], [2]), ([2], [2]), ([6, 7, 2], [2, 6, 7]), ([8, 2], [2, 8]), ([5, 9, 2, 2], [2, 5, 9]), ([2], [2]), ([2], [2]), ([11, 12, 2], [2, 11, 12]), ([13, 2], [2, 13]), ([10, 14, 2], [2, 10, 14]), ([15, 2], [2, 15]), ([16, 2], [2, 16]), ([2, 17], [2, 17])])
def spec_l6Minimal.B6 : List Nat := [0, 1, 3, 7, 7, 31, 7, 7, 199, 455, 1023, 7, 7, 6151, 14343, 32767, 65535, 131071, 262143]
theorem spec_l6Minimal.tab6 : rtab .any (opsOf Try.f214 6) = spec_l6Minimal.T6 := by kernel_rfl
theorem spec_l6Minimal.bits6 : waitsOk spec_l6Minimal.T6.2 spec_l6Minimal.B6 = true := by kernel_rfl
set_option maxHeartbeats 8000000 in
set_option maxRecDepth 100000 in
theorem spec_l6Minimal.calls (k : Nat) (A0 : Option Addr) (c0 : Nat) (l0 : List Int) (r : List Int) (w : World) (hr0 : Kd.C (Kd.int .i64) w A0 l0.length l0) (hc0 : l0.length ≤ c0) (h : spec_l6Minimal.f k l0 = some r) :
  Calls Try.prog 214 #[.slice A0 l0.length c0] w fun e w' => ∃ v0_ : Value, e = .returned (v0_) ∧ Kd.R (Kd.int .i64) 3 w' w.heap.size (fun _ => True) v0_ r ∧ Below w.heap.size w w' := by
 have HR0 := am hr0
 have HC0 := am hc0
 clear hr0 hc0
 have HB := am (Below.refl w.heap.size w)
 have H : ((spec_SortList.f k l0).bind fun t770 => (spec_l6Minimal.l0 k (([] : List Int)) t770 0)) = some r := h
 clear h
 obtain ⟨y767, hy767⟩ : ∃ y_ : List Int, y_ = (([] : List Int)) := ⟨_, rfl⟩
 replace H : ((spec_SortList.f k l0).bind fun t770 => (spec_l6Minimal.l0 k y767 t770 0)) = some r := by first | (rw [hy767]; with_reducible first | exact H | exact bs H) | (with_reducible first | exact bs H | exact H) | (rw [hy767]; exact H) | exact H
 have Ny767 := am hy767
 clear hy767
 replace H := ga H; obtain ⟨t770, A2, H⟩ := H
 have H' := am H
 clear H
 go_enter Try.func214, Try.ntmps214
 go_wp2_with (first | ((with_reducible refine gate_dst (N := 6) rfl ?_); refine Kd.R_lit (Kd.int .i64) _ 3 ?hg (N := 6) ?hd (xs := ([] : List Int)) (inner := []) (ok := fun _ => True) (okp := fun _ => True) ?hr ?hp (fun _ hk => hk) trivial (Below.refl _ _) (Nat.le_refl _) (by simp) ?_; (case hd => rfl); (case hg => rfl); (case hr => first | (go_simp; done) | (go_simp; rfl)); (case hp => exact (Reps.none _ _)); intro v768 w3 ho4 hb hg_ hnew_; clear hg_ hnew_; (first | rw [← Ny767.out] at ho4 | (simp only [Int.reduceToNat] at ho4; rw [← Ny767.out] at ho4)); have HO769 := am (Kd.R_lower ho4 (below_size bw)); replace HB := am (below_step bw hb); clear hb ho4) | ((with_reducible refine gate_callee (f := 93) rfl ?_); refine gl (some 8) Try.func93 #[.slice A0 l0.length c0] ?_; (with_reducible refine (spec_SortList.calls k _ _ l0 t770 _ ?side1 ?side2 A2.out).mono ?_); (case side1 => exact co (Kd.C_below HR0.out HB.out)); (case side2 => exact HC0.out); rintro e w5 ⟨v771, rfl, ho0, hb⟩; refine ⟨_, rfl, ?_⟩; have HO772 := am (Kd.R_lower (Kd.R_new' ho0 (Kd.R_lt (ro HO769.out))) (below_size bw)); replace HO769 := am (Kd.R_elder' (ro HO769.out) (Kd.R_base ho0) hb); replace HB := am (below_step bw hb); clear hb ho0))
 go_loopg [3, 5] k (fun kq v3 v5 w' => ∃ (x3_1 : List Int) (x5_1 : Int), v5 = .int .i64 x5_1 ∧ Aside0 (spec_l6Minimal.l0 kq x3_1 t770 x5_1 = some r) ∧ Aside0 (kq ≤ k) ∧ Aside0 (Kd.R (Kd.int .i64) 3 w' w.heap.size (fun k_ => some k_ ≠ (v771 : Value).ownBlock) v3 x3_1) ∧ Aside0 (Kd.R (Kd.int .i64) 3 w' w.heap.size (fun k_ => some k_ ≠ (v3 : Value).ownBlock) v771 t770) ∧ Aside0 (Below w.heap.size w w'))
 case atStart => exact ⟨(y767), (0), rr, H', ⟨Nat.le_refl _⟩, ⟨by (with_reducible repeat (first | apply Kd.R_alloc | apply Kd.R_drewN | apply Kd.R_drew)); exact Kd.R_mono HO769.out (fun _ hk => hk.2)⟩, ⟨by (with_reducible repeat (first | apply Kd.R_alloc | apply Kd.R_drewN | apply Kd.R_drew)); exact Kd.R_mono HO772.out (fun _ hk => hk.2)⟩, ⟨bw⟩⟩
 case round =>
  clear H'
  obtain ⟨x3_1, x5_1, rfl, HA, HK1, HO_3, HO_4, HB⟩ := hrel
  cases gk with
  | zero => exact absurd HA.out (by simp [spec_l6Minimal.l0])
  | succ k1 =>
   have H := HA.out
   clear HA
   simp only [spec_l6Minimal.l0] at H
   replace H := gi H; obtain ⟨c6b0, H⟩ | ⟨c6b0, H⟩ := H
   ·by_cases c7 : x5_1 = 0
    ·rw [if_pos c7] at H
     have c7b0 : (x5_1 == 0) = true := beq_iff_eq.mpr c7
     have c7b1 : (x5_1 != 0) = false := bne_eq_false_iff_eq.mpr c7
     clear c7
     replace H := gd H; obtain ⟨c8b0, H⟩ := H
     by_cases c9 : x3_1.length < 17592186044416
     rotate_left
     ·rw [if_neg c9] at H
      exact absurd H (by simp)
     rw [if_pos c9] at H
     have LMc9 := am c9
     clear c9
     obtain ⟨y774, hy774⟩ : ∃ y_ : List Int, y_ = (x3_1 ++ [rd t770 x5_1]) := ⟨_, rfl⟩
     replace H : (spec_l6Minimal.l0 k1 y774 t770 (wrap64 (x5_1 + 1))) = some r := by first | (rw [hy774]; with_reducible first | exact H | exact bs H) | (with_reducible first | exact bs H | exact H) | (rw [hy774]; exact H) | exact H
     have Ny774 := am hy774
     clear hy774
     have H' := am H
     clear H
     obtain ⟨Ao10, co10, eo10⟩ := Kd.R_slice HO_4.out
     subst eo10
     try go_wp2
     replace HO_3 := am (Kd.R_drew HO_3.out)
     replace HO_4 := am (Kd.R_drew HO_4.out)
     replace HB := am (below_drew1 HB.out)
     refine start_ (n := 19) (S := fun w' => True) (ds := []) (yz 19 0) (by kernel_rfl) rfl rfl trivial (fun hHeld => ?_); refine with_tabW spec_l6Minimal.tab6 spec_l6Minimal.bits6 (fun HT_ HW_ => ?_)
     generalize wr.drew = w11 at HO_3 HO_4 HB hHeld ⊢
     refine pa 0 (some 15) (yz 19 1) HT_ ?_
     refine pa 1 (some 16) (yz 19 3) HT_ ?_
     refine pa 2 (some 17) (yz 19 7) HT_ ?_
     refine pu 3 (some 18) (yz 19 15) HT_ ?_
     refine pu 4 (some 19) (yz 19 31) HT_ ?_
     refine pu 5 (some 20) (yz 19 63) HT_ ?_
     refine pu 6 (some 21) (yz 19 127) HT_ ?_
     refine pu 7 (some 22) (yz 19 255) HT_ ?_
     refine pu 8 (some 23) (yz 19 511) HT_ ?_
     refine pu 9 (some 24) (yz 19 1023) HT_ ?_
     refine pu 10 (some 25) (yz 19 2047) HT_ ?_
     refine pu 11 (some 26) (yz 19 4095) HT_ ?_
     refine pu 12 (some 27) (yz 19 8191) HT_ ?_
     refine pu 13 (some 28) (yz 19 16383) HT_ ?_
     refine pu 14 (some 29) (yz 19 32767) HT_ ?_
     refine pu 15 (some 30) (yz 19 65535) HT_ ?_
     refine pu 16 (some 31) (yz 19 131071) HT_ ?_
     refine pu 17 (some 32) (yz 19 262143) HT_ ?_
     refine pa 18 (some 33) (yz 19 524287) HT_ ?_
     refine done_ (done_of HT_.out (by kernel_rfl)) ?_
     obtain ⟨⟨ad773, e773, hx773_0⟩, p773, q773⟩ := pq (Kd.at_int (Kd.R_reads' HO_4.out).2.2 x5_1)
     cases e773
     try go_wp2_with (first | ((with_reducible refine gate_builtin (b := .append) (xs := #[.tmp 34, .tmp 39]) rfl ?_); at_builtin; refine Kd.R_append (Kd.int .i64) (w0 := w) w.heap.size rfl (.tmp 34) (.tmp 39) 24 3 (.int .i64 0) 8 rfl Try.underlying24 info3 rfl (by decide) (by omega) u3 x3_1 (rd t770 x5_1) [.int .i64 (rd t770 x5_1)] (fun k_ => some k_ ≠ (.slice (some ad773) t770.length co10 : Value).ownBlock) (fun _ => False) rfl rfl ?aP (fun _ hk => hk.elim) ?aF ?aO ?aB ?aS ?aL ?_; (case aP => exact rfl); (case aB => exact bw); (case aF => exact (fun k_ hk => Kd.fresh' (Kd.R_lt (ro HO_4.out)) k_ hk)); (case aO => exact (ro HO_3.out)); (case aS => exact (below_size bw)); (case aL => have := LMc9.out; omega); intro v775 w12 ho hb hg hat; rw [← Ny774.out] at ho; replace HO_4 := am (Kd.R_after (ok := (fun _ => True)) (by (with_reducible repeat (first | apply Kd.R_alloc | apply Kd.R_drewN | apply Kd.R_drew)); exact Kd.R_mono HO_4.out (fun _ hk => ⟨trivial, by first | exact hk | exact (by intro a n m c x h; cases a <;> exact h : ∀ (a : Option Addr) (n m c x : Nat), some x ≠ (Value.slice a n c).ownBlock → some x ≠ (Value.slice a m c).ownBlock) _ _ _ _ _ hk⟩)) hg hat); replace HB := am (hb); have HO776 := am (ho); clear HO_3 ho hb hg hat))
     go_roundg k1
     case measure => have := HK1.out; omega
     case rel => exact ⟨(y774), (wrap64 (x5_1 + 1)), rr, H', ⟨by have := HK1.out; omega⟩, ⟨ro HO776.out⟩, ⟨by (with_reducible repeat (first | apply Kd.R_alloc | apply Kd.R_drewN | apply Kd.R_drew)); exact Kd.R_mono HO_4.out (fun _ hk => hk.2)⟩, ⟨bw⟩⟩
    rw [if_neg c7] at H
    have c7b0 : (x5_1 == 0) = false := beq_eq_false_iff_ne.mpr c7
    have c7b1 : (x5_1 != 0) = true := bne_iff_ne.mpr c7
    replace H := gp H; obtain ⟨c13, H⟩ := H
    have c13b0 := eq_true c13
    have c13b1 : decide (0 ≤ x5_1) = true := decide_eq_true c13
    clear c13
    replace H := gp H; obtain ⟨c14, H⟩ := H
    have c14b0 := eq_true c14
    have c14b1 : decide (x5_1 ≤ (t770.length : Int)) = true := decide_eq_true c14
    clear c14
    obtain ⟨y777, hy777⟩ : ∃ y_ : List Int, y_ = (t770.take (x5_1 : Int).toNat) := ⟨_, rfl⟩
    replace H : ((spec_l3Table.f k1 y777 (rd t770 x5_1)).bind fun t782 => (if 0 ≤ (rd t770 x5_1) then (if (rd t770 x5_1) < (t782.length : Int) then (if (rdOf false t782 (rd t770 x5_1) = true) then (spec_l6Minimal.l0 k1 x3_1 t770 (wrap64 (x5_1 + 1))) else (if x3_1.length < 17592186044416 then (spec_l6Minimal.l0 k1 (x3_1 ++ [rd t770 x5_1]) t770 (wrap64 (x5_1 + 1))) else (none))) else (none)) else (none))) = some r := by first | (rw [hy777]; with_reducible first | exact H | exact bs H) | (with_reducible first | exact bs H | exact H) | (rw [hy777]; exact H) | exact H
    have Ny777 := am hy777
    clear hy777
    replace H := ga H; obtain ⟨t782, A15, H⟩ := H
    replace H := gd H; obtain ⟨c16b0, H⟩ := H
    replace H := gd H; obtain ⟨c17b0, H⟩ := H
    obtain ⟨bq18, hbq18⟩ : ∃ b_ : Bool, b_ = (rdOf false t782 (rd t770 x5_1)) := ⟨_, rfl⟩
    replace H : (if (bq18 = true) then (spec_l6Minimal.l0 k1 x3_1 t770 (wrap64 (x5_1 + 1))) else (if x3_1.length < 17592186044416 then (spec_l6Minimal.l0 k1 (x3_1 ++ [rd t770 x5_1]) t770 (wrap64 (x5_1 + 1))) else (none))) = some r := by rw [← hbq18] at H; exact H
    have Nbq18 := am hbq18
    clear hbq18
    by_cases c19 : (bq18 = true)
    ·subst c19
     have H1 : (spec_l6Minimal.l0 k1 x3_1 t770 (wrap64 (x5_1 + 1))) = some r := by rw [if_pos rfl] at H; exact H
     clear H
     have H := H1
     clear H1
     have H' := am H
     clear H
     obtain ⟨Ao20, co20, eo20⟩ := Kd.R_slice HO_4.out
     subst eo20
     try go_wp2
     replace HO_3 := am (Kd.R_drew HO_3.out)
     replace HO_4 := am (Kd.R_drew HO_4.out)
     replace HB := am (below_drew1 HB.out)
     have q22 : (x5_1 : Int) ≤ ((t770.length : Int) : Int) := of_decide_eq_true (by first | (with_reducible assumption) | assumption)
     obtain ⟨i022, hi022, _, hsz22, _⟩ := info_parts info3
     have hroom22 : t770.length ≤ co20 := (Kd.R_reads' HO_4.out).2.1
     have hC22 : Kd.C (Kd.int .i64) _ Ao20 t770.length t770 := (Kd.R_reads' HO_4.out).2.2
     have hcut22 := cut_to (P := Try.prog) 24 3 .i64 Try.underlying24 hi022 Ao20 t770.length co20 x5_1 (of_decide_eq_true (by first | (with_reducible assumption) | assumption)) q22 hroom22
     have hr22 := Kd.C_take (m := (x5_1 : Int).toNat) hC22 (by omega)
     have hy22 : y777.length = (x5_1 : Int).toNat := (by rw [Ny777.out, List.length_take]; omega)
     rw [← Ny777.out] at hr22
     rw [← hy22] at hcut22
     have HR780 := am hr22
     have HC780 := am (show y777.length ≤ co20 from by omega)
     clear hr22 hC22 hroom22 hi022 hsz22
     have KY22 := am hy22
     clear hy22
     have KL22 := am (show (x5_1 : Int).toNat ≤ t770.length from by omega)
     replace q22 := eq_true q22
     obtain ⟨⟨ad781, e781, hx781_0⟩, p781, q781⟩ := pq (Kd.at_int (Kd.R_reads' HO_4.out).2.2 x5_1)
     cases e781
     obtain ⟨⟨ad785, e785, hx785_0⟩, p785, q785⟩ := pq (Kd.at_int (Kd.R_reads' HO_4.out).2.2 x5_1)
     obtain rfl : ad781 = ad785 := (by injection e785)
     refine start_ (n := 19) (S := fun w' => w'.cell? (ad781.add (x5_1).toNat) = some (.int .i64 (rd t770 x5_1)) ∧ w'.cell? (ad781.add (x5_1).toNat) = some (.int .i64 (rd t770 x5_1))) (ds := []) (yz 19 0) (by kernel_rfl) rfl rfl ⟨hx781_0, hx785_0⟩ (fun hHeld => ?_); refine with_tabW spec_l6Minimal.tab6 spec_l6Minimal.bits6 (fun HT_ HW_ => ?_)
     generalize wr.drew = w21 at HO_3 HO_4 HB HR780 hx781_0 hx785_0 hHeld ⊢
     refine pa 0 (some 15) (yz 19 1) HT_ ?_
     refine pa 1 (some 16) (yz 19 3) HT_ ?_
     refine pa 2 (some 17) (yz 19 7) HT_ ?_
     refine pa 3 (some 18) (yz 19 15) HT_ ?_
     refine pa 4 (some 19) (yz 19 31) HT_ ?_
     refine pa 5 (some 20) (yz 19 63) HT_ ?_
     refine pa 6 (some 21) (yz 19 127) HT_ ?_
     refine pa 7 (some 22) (yz 19 255) HT_ ?_
     refine pa 8 (some 23) (yz 19 511) HT_ ?_
     refine pa 11 (some 26) (yz 19 2559) HT_ ?_
     refine pa 12 (some 27) (yz 19 6655) HT_ ?_
     refine pa 13 (some 28) (yz 19 14847) HT_ ?_
     refine tk 9 (some 24) (yz 19 15359) HT_ HW_ hHeld ?_
     refine tk 14 (some 29) (yz 19 31743) HT_ HW_ hHeld ?_
     refine oa 10 (some 25) (yz 19 32767) HT_ (fun K hK => ?_)
     refine gm Try.func215 #[.slice (some ad781) y777.length co20, .int .i64 (rd t770 x5_1)] ?_
     with_reducible refine (spec_l3Table.calls k1 _ _ y777 (rd t770 x5_1) t782 _ ?side1 ?side2 A15.out).mono ?_
     (case side1 => repeat (first | exact (by repeat (first | (with_reducible exact HR780.out) | (with_reducible refine Kd.C_alloc ?_ _) | (with_reducible refine Kd.C_drewN ?_ _) | (with_reducible refine Kd.C_drew ?_) | exact HR780.out)) | (with_reducible refine Kd.C_alloc ?_ _) | (with_reducible refine Kd.C_drewN ?_ _) | (with_reducible refine Kd.C_drew ?_)))
     (case side2 => exact HC780.out)
     rintro e w23 ⟨v783, rfl, ho0, hb⟩
     have HS0_ := (hb.cell (World.block_lt_of_cell? _ _ (hHeld.1))).trans (hHeld.1)
     have HS1_ := (hb.cell (World.block_lt_of_cell? _ _ (hHeld.2))).trans (hHeld.2)
     refine ⟨_, rfl, ?_⟩
     replace HO_3 := rK HO_3 hb
     replace HO_4 := rK HO_4 hb
     have HO784 := am (Kd.R_lower ho0 (below_size bw))
     replace HR780 := am (Kd.C_below (by repeat (first | (with_reducible exact HR780.out) | (with_reducible refine Kd.C_alloc ?_ _) | (with_reducible refine Kd.C_drewN ?_ _) | (with_reducible refine Kd.C_drew ?_) | exact HR780.out)) hb)
     replace HB := am (below_step bw hb)
     clear hb ho0
     obtain ⟨Ao24, co24, eo24⟩ := Kd.R_slice HO784.out
     (first | subst eo24 | (injection eo24 with f1_ f2_ f3_; have f4_ := f1_.symm; have f5_ := f3_.symm; clear f1_ f2_ f3_; subst f4_; subst f5_))
     obtain ⟨⟨ad786, e786, hx786_0⟩, p786, q786⟩ := pq (Kd.at_bool (Kd.R_reads' HO784.out).2.2 (rd t770 x5_1))
     (try rw [← Nbq18.out] at hx786_0)
     cases e786
     refine hK.out _ _ ⟨HS0_, HS1_⟩ (fun hHeld => ?_)
     clear hK K
     refine nm (some 25) ?_
     refine pa 15 (some 30) (yz 19 65535) HT_ ?_
     refine oa 16 (some 31) (yz 19 131071) HT_ (fun K hK => ?_)
     refine value_ (w1 := ?_) (v := ?_) (by rfl) rfl ?_ ?_
     rotate_left 2
     ·go_simp
      constructor
      ·rfl
      rfl
     refine hK.out _ _ hHeld (fun hHeld => ?_)
     clear hK K
     refine nm (some 31) ?_
     refine pa 17 (some 32) (yz 19 262143) HT_ ?_
     refine pa 18 (some 33) (yz 19 524287) HT_ ?_
     refine done_ (done_of HT_.out (by kernel_rfl)) ?_
     try go_wp2
     go_roundg k1
     case measure => have := HK1.out; omega
     case rel => exact ⟨(x3_1), (wrap64 (x5_1 + 1)), rr, H', ⟨by have := HK1.out; omega⟩, ⟨ro HO_3.out⟩, ⟨ro HO_4.out⟩, ⟨bw⟩⟩
    replace c19 := Bool.eq_false_iff.mpr c19
    subst c19
    have H1 : (if x3_1.length < 17592186044416 then (spec_l6Minimal.l0 k1 (x3_1 ++ [rd t770 x5_1]) t770 (wrap64 (x5_1 + 1))) else (none)) = some r := by rw [if_neg (show ¬ (false = true) by decide)] at H; exact H
    clear H
    have H := H1
    clear H1
    by_cases c25 : x3_1.length < 17592186044416
    rotate_left
    ·rw [if_neg c25] at H
     exact absurd H (by simp)
    rw [if_pos c25] at H
    have LMc25 := am c25
    clear c25
    obtain ⟨y788, hy788⟩ : ∃ y_ : List Int, y_ = (x3_1 ++ [rd t770 x5_1]) := ⟨_, rfl⟩
    replace H : (spec_l6Minimal.l0 k1 y788 t770 (wrap64 (x5_1 + 1))) = some r := by first | (rw [hy788]; with_reducible first | exact H | exact bs H) | (with_reducible first | exact bs H | exact H) | (rw [hy788]; exact H) | exact H
    have Ny788 := am hy788
    clear hy788
    have H' := am H
    clear H
    obtain ⟨Ao26, co26, eo26⟩ := Kd.R_slice HO_4.out
    subst eo26
    try go_wp2
    replace HO_3 := am (Kd.R_drew HO_3.out)
    replace HO_4 := am (Kd.R_drew HO_4.out)
    replace HB := am (below_drew1 HB.out)
    have q28 : (x5_1 : Int) ≤ ((t770.length : Int) : Int) := of_decide_eq_true (by first | (with_reducible assumption) | assumption)
    obtain ⟨i028, hi028, _, hsz28, _⟩ := info_parts info3
    have hroom28 : t770.length ≤ co26 := (Kd.R_reads' HO_4.out).2.1
    have hC28 : Kd.C (Kd.int .i64) _ Ao26 t770.length t770 := (Kd.R_reads' HO_4.out).2.2
    have hcut28 := cut_to (P := Try.prog) 24 3 .i64 Try.underlying24 hi028 Ao26 t770.length co26 x5_1 (of_decide_eq_true (by first | (with_reducible assumption) | assumption)) q28 hroom28
    have hr28 := Kd.C_take (m := (x5_1 : Int).toNat) hC28 (by omega)
    have hy28 : y777.length = (x5_1 : Int).toNat := (by rw [Ny777.out, List.length_take]; omega)
    rw [← Ny777.out] at hr28
    rw [← hy28] at hcut28
    have HR780 := am hr28
    have HC780 := am (show y777.length ≤ co26 from by omega)
    clear hr28 hC28 hroom28 hi028 hsz28
    have KY28 := am hy28
    clear hy28
    have KL28 := am (show (x5_1 : Int).toNat ≤ t770.length from by omega)
    replace q28 := eq_true q28
    obtain ⟨⟨ad781, e781, hx781_0⟩, p781, q781⟩ := pq (Kd.at_int (Kd.R_reads' HO_4.out).2.2 x5_1)
    cases e781
    obtain ⟨⟨ad785, e785, hx785_0⟩, p785, q785⟩ := pq (Kd.at_int (Kd.R_reads' HO_4.out).2.2 x5_1)
    obtain rfl : ad781 = ad785 := (by injection e785)
    refine start_ (n := 19) (S := fun w' => w'.cell? (ad781.add (x5_1).toNat) = some (.int .i64 (rd t770 x5_1)) ∧ w'.cell? (ad781.add (x5_1).toNat) = some (.int .i64 (rd t770 x5_1))) (ds := []) (yz 19 0) (by kernel_rfl) rfl rfl ⟨hx781_0, hx785_0⟩ (fun hHeld => ?_); refine with_tabW spec_l6Minimal.tab6 spec_l6Minimal.bits6 (fun HT_ HW_ => ?_)
    generalize wr.drew = w27 at HO_3 HO_4 HB HR780 hx781_0 hx785_0 hHeld ⊢
    refine pa 0 (some 15) (yz 19 1) HT_ ?_
    refine pa 1 (some 16) (yz 19 3) HT_ ?_
    refine pa 2 (some 17) (yz 19 7) HT_ ?_
    refine pa 3 (some 18) (yz 19 15) HT_ ?_
    refine pa 4 (some 19) (yz 19 31) HT_ ?_
    refine pa 5 (some 20) (yz 19 63) HT_ ?_
    refine pa 6 (some 21) (yz 19 127) HT_ ?_
    refine pa 7 (some 22) (yz 19 255) HT_ ?_
    refine pa 8 (some 23) (yz 19 511) HT_ ?_
    refine pa 11 (some 26) (yz 19 2559) HT_ ?_
    refine pa 12 (some 27) (yz 19 6655) HT_ ?_
    refine pa 13 (some 28) (yz 19 14847) HT_ ?_
    refine tk 9 (some 24) (yz 19 15359) HT_ HW_ hHeld ?_
    refine tk 14 (some 29) (yz 19 31743) HT_ HW_ hHeld ?_
    refine oa 10 (some 25) (yz 19 32767) HT_ (fun K hK => ?_)
    refine gm Try.func215 #[.slice (some ad781) y777.length co26, .int .i64 (rd t770 x5_1)] ?_
    with_reducible refine (spec_l3Table.calls k1 _ _ y777 (rd t770 x5_1) t782 _ ?side1 ?side2 A15.out).mono ?_
    (case side1 => repeat (first | exact (by repeat (first | (with_reducible exact HR780.out) | (with_reducible refine Kd.C_alloc ?_ _) | (with_reducible refine Kd.C_drewN ?_ _) | (with_reducible refine Kd.C_drew ?_) | exact HR780.out)) | (with_reducible refine Kd.C_alloc ?_ _) | (with_reducible refine Kd.C_drewN ?_ _) | (with_reducible refine Kd.C_drew ?_)))
    (case side2 => exact HC780.out)
    rintro e w29 ⟨v783, rfl, ho0, hb⟩
    have HS0_ := (hb.cell (World.block_lt_of_cell? _ _ (hHeld.1))).trans (hHeld.1)
    have HS1_ := (hb.cell (World.block_lt_of_cell? _ _ (hHeld.2))).trans (hHeld.2)
    refine ⟨_, rfl, ?_⟩
    replace HO_3 := rK HO_3 hb
    replace HO_4 := rK HO_4 hb
    have HO784 := am (Kd.R_lower ho0 (below_size bw))
    replace HR780 := am (Kd.C_below (by repeat (first | (with_reducible exact HR780.out) | (with_reducible refine Kd.C_alloc ?_ _) | (with_reducible refine Kd.C_drewN ?_ _) | (with_reducible refine Kd.C_drew ?_) | exact HR780.out)) hb)
    replace HB := am (below_step bw hb)
    clear hb ho0
    obtain ⟨Ao30, co30, eo30⟩ := Kd.R_slice HO784.out
    (first | subst eo30 | (injection eo30 with f1_ f2_ f3_; have f4_ := f1_.symm; have f5_ := f3_.symm; clear f1_ f2_ f3_; subst f4_; subst f5_))
    obtain ⟨⟨ad786, e786, hx786_0⟩, p786, q786⟩ := pq (Kd.at_bool (Kd.R_reads' HO784.out).2.2 (rd t770 x5_1))
    (try rw [← Nbq18.out] at hx786_0)
    cases e786
    refine hK.out _ _ ⟨HS0_, HS1_⟩ (fun hHeld => ?_)
    clear hK K
    refine nm (some 25) ?_
    refine pa 15 (some 30) (yz 19 65535) HT_ ?_
    refine oa 16 (some 31) (yz 19 131071) HT_ (fun K hK => ?_)
    refine value_ (w1 := ?_) (v := ?_) (by rfl) rfl ?_ ?_
    rotate_left 2
    ·go_simp
     constructor
     ·rfl
     rfl
    refine hK.out _ _ hHeld (fun hHeld => ?_)
    clear hK K
    refine nm (some 31) ?_
    refine pa 17 (some 32) (yz 19 262143) HT_ ?_
    refine pa 18 (some 33) (yz 19 524287) HT_ ?_
    refine done_ (done_of HT_.out (by kernel_rfl)) ?_
    obtain ⟨⟨ad787, e787, hx787_0⟩, p787, q787⟩ := pq (Kd.at_int (Kd.R_reads' HO_4.out).2.2 x5_1)
    obtain rfl : ad781 = ad787 := (by injection e787)
    try go_wp2_with (first | ((with_reducible refine gate_builtin (b := .append) (xs := #[.tmp 34, .tmp 39]) rfl ?_); at_builtin; refine Kd.R_append (Kd.int .i64) (w0 := w) w.heap.size rfl (.tmp 34) (.tmp 39) 24 3 (.int .i64 0) 8 rfl Try.underlying24 info3 rfl (by decide) (by omega) u3 x3_1 (rd t770 x5_1) [.int .i64 (rd t770 x5_1)] (fun k_ => some k_ ≠ (.slice (some ad781) t770.length co26 : Value).ownBlock) (fun _ => False) rfl rfl ?aP (fun _ hk => hk.elim) ?aF ?aO ?aB ?aS ?aL ?_; (case aP => exact rfl); (case aB => exact bw); (case aF => exact (fun k_ hk => Kd.fresh' (Kd.R_lt (ro HO_4.out)) k_ hk)); (case aO => exact (ro HO_3.out)); (case aS => exact (below_size bw)); (case aL => have := LMc25.out; omega); intro v789 w31 ho hb hg hat; rw [← Ny788.out] at ho; replace HO784 := am (Kd.R_over' (ro HO784.out) (Kd.R_typed (ro HO_3.out)) (by decide) hg); replace HB := am (hb); replace HR780 := am ((show Kd.C (Kd.int .i64) w31 (some ad781) y777.length y777 from by rw [Ny777.out]; exact Kd.C_take (m := (x5_1 : Int).toNat) ((Kd.R_reads' (Kd.R_after (ok := (fun _ => True)) (by (with_reducible repeat (first | apply Kd.R_alloc | apply Kd.R_drewN | apply Kd.R_drew)); exact Kd.R_mono HO_4.out (fun _ hk => ⟨trivial, by first | exact hk | exact (by intro a n m c x h; cases a <;> exact h : ∀ (a : Option Addr) (n m c x : Nat), some x ≠ (Value.slice a n c).ownBlock → some x ≠ (Value.slice a m c).ownBlock) _ _ _ _ _ hk⟩)) hg hat)).2.2) KL28.out)); replace HO_4 := am (Kd.R_after (ok := (fun _ => True)) (by (with_reducible repeat (first | apply Kd.R_alloc | apply Kd.R_drewN | apply Kd.R_drew)); exact Kd.R_mono HO_4.out (fun _ hk => ⟨trivial, by first | exact hk | exact (by intro a n m c x h; cases a <;> exact h : ∀ (a : Option Addr) (n m c x : Nat), some x ≠ (Value.slice a n c).ownBlock → some x ≠ (Value.slice a m c).ownBlock) _ _ _ _ _ hk⟩)) hg hat); have HO790 := am (ho); clear HO_3 ho hb hg hat))
    go_roundg k1
    case measure => have := HK1.out; omega
    case rel => exact ⟨(y788), (wrap64 (x5_1 + 1)), rr, H', ⟨by have := HK1.out; omega⟩, ⟨ro HO790.out⟩, ⟨by (with_reducible repeat (first | apply Kd.R_alloc | apply Kd.R_drewN | apply Kd.R_drew)); exact Kd.R_mono HO_4.out (fun _ hk => hk.2)⟩, ⟨bw⟩⟩
   obtain rfl := Option.some.inj H
   obtain ⟨Ao32, co32, eo32⟩ := Kd.R_slice HO_4.out
   subst eo32
   go_wp2
   go_ret
   exact ⟨_, re, by (with_reducible repeat (first | apply Kd.R_alloc | apply Kd.R_drewN | apply Kd.R_drew)); exact Kd.R_mono HO_3.out (fun _ hk => trivial), bw⟩

end Go.Proofs.Ytkfplkdchkmgbaa.C
