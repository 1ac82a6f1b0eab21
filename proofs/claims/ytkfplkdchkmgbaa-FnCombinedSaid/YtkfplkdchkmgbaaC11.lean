/- Contracts of functions of the program: spec_FromGaps. -/
import Derived.Test.YtkfplkdchkmgbaaC0
import Derived.Test.YtkfplkdchkmgbaaC2
import Derived.Test.YtkfplkdchkmgbaaC3
import Derived.Test.YtkfplkdchkmgbaaC10
namespace Go.Proofs.Ytkfplkdchkmgbaa.C
open Go.RowKit Go.Proofs.YtkfplkdchkmgbaaW.PrintWords Go.Proofs.YtkfplkdchkmgbaaW.PrintLast Go.Proofs.YtkfplkdchkmgbaaW.PrintMore
attribute [local go_sem] max2_int min2_int max_two min_two max_three min_three max_four min_four
set_option linter.unusedVariables false
set_option linter.unusedSimpArgs false

/-! ### spec_FromGaps: function 155 -/
mutual
def spec_FromGaps.j0 : Nat → List Int → Bool → Option (List Int × Bool)
 | 0, _, _ => none
 | k + 1, x0, x20 => if x20 = true then (some (([] : List Int), false)) else ((some (([] : List Int) : List Int)).bind fun y668 => (if (x0.length : Int) > 0 then (if 0 ≤ (wrap64 ((x0.length : Int) - 1)) then (if (wrap64 ((x0.length : Int) - 1)) < (x0.length : Int) then (spec_FromGaps.j1 k x0 y668 (rd x0 (wrap64 ((x0.length : Int) - 1)))) else (none)) else (none)) else (spec_FromGaps.j1 k x0 y668 0)))
def spec_FromGaps.j1 : Nat → List Int → List Int → Int → Option (List Int × Bool)
 | 0, _, _, _ => none
 | k + 1, x0, x6, x7 => spec_FromGaps.l0 k x0 x6 x7 1
def spec_FromGaps.l0 : Nat → List Int → List Int → Int → Int → Option (List Int × Bool)
 | 0, _, _, _, _ => none
 | k + 1, x0, x6, x7, x8 => if x8 ≤ (wrap64 ((wrap64 (2 * x7)) + 2)) then ((spec_HasNumber.f k x0 x8).bind fun t674 => (if t674 = true then (spec_FromGaps.l0 k x0 x6 x7 (wrap64 (x8 + 1))) else (if (x6.length : Int) > 0 then ((spec_l3Table.f k x6 x8).bind fun t675 => (if 0 ≤ x8 then (if x8 < (t675.length : Int) then (if rdOf false t675 x8 = true then (spec_FromGaps.l0 k x0 x6 x7 (wrap64 (x8 + 1))) else (if x6.length < 17592186044416 then (spec_FromGaps.l0 k x0 (x6 ++ [x8]) x7 (wrap64 (x8 + 1))) else (none))) else (none)) else (none))) else (if x6.length < 17592186044416 then (spec_FromGaps.l0 k x0 (x6 ++ [x8]) x7 (wrap64 (x8 + 1))) else (none))))) else ((spec_IsSemigroup.f k x6).bind fun t673 => (if t673 = true then (some (x6, true)) else (some (([] : List Int), false))))
end
def spec_FromGaps.f (k : Nat) (l0 : List Int) : Option (List Int × Bool) := (spec_GapClash.f k l0).bind fun bt663 => ((spec_l8Gaps.f k l0).bind fun t667 => (if t667 = true then (spec_FromGaps.j0 k l0 bt663.2.2) else (spec_FromGaps.j0 k l0 true)))
set_option maxHeartbeats 8000000 in
set_option maxRecDepth 100000 in
theorem spec_FromGaps.calls (k : Nat) (A0 : Option Addr) (c0 : Nat) (l0 : List Int) (r1 : List Int) (r2 : Bool) (w : World) (hr0 : Kd.C (Kd.int .i64) w A0 l0.length l0) (hc0 : l0.length ≤ c0) (h : spec_FromGaps.f k l0 = some (r1, r2)) :
  Calls Try.prog 155 #[.slice A0 l0.length c0] w fun e w' => ∃ v0_ : Value, e = .returned (.tuple #[.agg #[v0_], .bool r2]) ∧ Kd.R (Kd.int .i64) 3 w' w.heap.size (fun _ => True) v0_ r1 ∧ Below w.heap.size w w' := by
 have hu26 := Try.underlying26
 have hu33 := Try.underlying33
 have HR0 := am hr0
 have HC0 := am hc0
 clear hr0 hc0
 have HB := am (Below.refl w.heap.size w)
 have H : ((spec_GapClash.f k l0).bind fun bt663 => ((spec_l8Gaps.f k l0).bind fun t667 => (if t667 = true then (spec_FromGaps.j0 k l0 bt663.2.2) else (spec_FromGaps.j0 k l0 true)))) = some (r1, r2) := h
 clear h
 replace H := ga H; obtain ⟨⟨t663, t664, t665⟩, A2, H⟩ := H
 replace H : ((spec_l8Gaps.f k l0).bind fun t667 => (if t667 = true then (spec_FromGaps.j0 k l0 t665) else (spec_FromGaps.j0 k l0 true))) = some (r1, r2) := H
 have HC3 := am H
 clear H
 go_enter Try.func155, Try.ntmps155
 go_upto_region 2 with (first | ((with_reducible refine gate_dst (N := 2) rfl ?_); (try (refine gate_guard (by rfl) ?_; dsimp only)); refine bx 2 #[.slice none 0 0] 26 ?_; intro gb662 hg w4 hbox hb; have BK662 := am (hbox); have GW662 := am (gs hg : w.heap.size ≤ gb662); have GE662 := GW662; replace HB := am (below_step bw hb); clear hb hbox hg) | ((with_reducible refine gate_callee (f := 222) rfl ?_); refine gl (some 12) Try.func222 #[.slice A0 l0.length c0] ?_; (with_reducible refine (spec_GapClash.calls k _ _ l0 t663 t664 t665 _ ?side1 ?side2 A2.out).mono ?_); (case side1 => exact co (Kd.C_below HR0.out HB.out)); (case side2 => exact HC0.out); rintro e w5 ⟨rfl, hb⟩; refine ⟨_, rfl, ?_⟩; replace BK662 := kb BK662 hb; replace HB := am (below_step bw hb); clear hb) | ((with_reducible refine gate_dst (N := 4) rfl ?_); (try (refine gate_guard (by rfl) ?_; dsimp only)); refine bx 4 #[.int .i64 0, .int .i64 0] 33 ?_; intro gb666 hg w6 hbox hb; have BK666 := am (hbox); have GW666 := am (gs hg : w.heap.size ≤ gb666); have GE666 := GW666; replace HB := am (below_step bw hb); have NB662_666 := nl hg BK662; have NB666_662 := ns NB662_666; replace BK662 := kb BK662 hb; clear hb hbox hg; have hnb7 := NB666_662.out; have hnc7 := NB662_666.out; have hcz8_0 := bc BK666 0 (.int .i64 0); have hcz8_1 := bc BK666 1 (.int .i64 0); have hfz8_0 := blk_frozen BK666.out 0; have hfz8_1 := blk_frozen BK666.out 1))
 (try simp only [Act.put, List.setIfInBounds_toArray, List.set_cons_zero, List.set_cons_succ])
 go_cut [20] (fun v20 wc => ∃ (kq : Nat) (x20_2 : Bool), v20 = .bool x20_2 ∧ Aside0 (spec_FromGaps.j0 kq l0 x20_2 = some (r1, r2)) ∧ Aside0 (kq ≤ k) ∧ Aside0 (wc.heap[gb662]? = some (.cells #[(.slice none 0 0)] 26 (0, 0))) ∧ Aside0 (wc.heap[gb666]? = some (.cells #[.int .i64 t663, .int .i64 t664] 33 (0, 0))) ∧ Aside0 (Below w.heap.size w wc))
 case first =>
  have H := HC3.out
  clear HC3
  replace H := ga H; obtain ⟨t667, A9, H⟩ := H
  replace H := gb H; obtain ⟨rfl, H⟩ | ⟨rfl, H⟩ := H
  ·have H' := am H
   clear H
   go_wp2_with (first | ((with_reducible refine gate_callee (f := 223) rfl ?_); refine gl (some 16) Try.func223 #[.slice A0 l0.length c0] ?_; (with_reducible refine (spec_l8Gaps.calls k _ _ l0 true _ ?side1 ?side2 A9.out).mono ?_); (case side1 => exact Kd.C_below HR0.out bw); (case side2 => exact HC0.out); rintro e w' ⟨rfl, ⟨nd, rfl⟩⟩; refine ⟨_, rfl, ?_⟩))
   go_meet
   case rel => exact ⟨_, (t665), rr, H', ⟨om⟩, ⟨bf BK662.out⟩, ⟨by (with_reducible repeat (first | refine blk_drewN ?_ _ | refine blk_drew ?_ | refine blk_alloc ?_ _)); refine blk_put (cs := #[.int .i64 t663, .int .i64 0]) ?_ 1 _ rfl; (with_reducible repeat (first | refine blk_drewN ?_ _ | refine blk_drew ?_ | refine blk_alloc ?_ _)); refine blk_put (cs := #[.int .i64 0, .int .i64 0]) ?_ 0 _ rfl; (with_reducible repeat (first | refine blk_drewN ?_ _ | refine blk_drew ?_ | refine blk_alloc ?_ _)); exact BK666.out⟩, ⟨bw⟩⟩
  have H' := am H
  clear H
  go_wp2_with (first | ((with_reducible refine gate_callee (f := 223) rfl ?_); refine gl (some 16) Try.func223 #[.slice A0 l0.length c0] ?_; (with_reducible refine (spec_l8Gaps.calls k _ _ l0 false _ ?side1 ?side2 A9.out).mono ?_); (case side1 => exact Kd.C_below HR0.out bw); (case side2 => exact HC0.out); rintro e w' ⟨rfl, ⟨nd, rfl⟩⟩; refine ⟨_, rfl, ?_⟩))
  go_meet
  case rel => exact ⟨_, (true), rr, H', ⟨om⟩, ⟨bf BK662.out⟩, ⟨by (with_reducible repeat (first | refine blk_drewN ?_ _ | refine blk_drew ?_ | refine blk_alloc ?_ _)); refine blk_put (cs := #[.int .i64 t663, .int .i64 0]) ?_ 1 _ rfl; (with_reducible repeat (first | refine blk_drewN ?_ _ | refine blk_drew ?_ | refine blk_alloc ?_ _)); refine blk_put (cs := #[.int .i64 0, .int .i64 0]) ?_ 0 _ rfl; (with_reducible repeat (first | refine blk_drewN ?_ _ | refine blk_drew ?_ | refine blk_alloc ?_ _)); exact BK666.out⟩, ⟨bw⟩⟩
 case rest =>
  clear HC3
  try clear hcz8_0; try clear hcz8_1; try clear hfz8_0; try clear hfz8_1
  obtain ⟨kq, x20_2, rfl, HA, HJ2, BK662, BK666, HB⟩ := hcut
  cases kq with
  | zero => exact absurd HA.out (by simp [spec_FromGaps.j0])
  | succ kj2 =>
   have H := HA.out
   clear HA
   simp only [spec_FromGaps.j0] at H
   replace H := gb H; obtain ⟨rfl, H⟩ | ⟨rfl, H⟩ := H
   ·simp only [Option.some.injEq, Prod.mk.injEq] at H
    obtain ⟨rfl, rfl⟩ := H
    have hnb12 := NB662_666.out
    have hnc12 := NB666_662.out
    have hcz13_0 := bc BK662 0 (.slice none 0 0)
    have hfz13_0 := blk_frozen BK662.out 0
    go_wp2
    refine bodyPost_ret (results_ct rfl _ _ gb662 26 #[.slice none 0 0] (0, 0) _ rfl (by (with_reducible repeat (first | refine blk_drewN ?_ _ | refine blk_drew ?_ | refine blk_alloc ?_ _)); refine blk_put (cs := #[.slice none 0 0]) ?_ 0 _ rfl; (with_reducible repeat (first | refine blk_drewN ?_ _ | refine blk_drew ?_ | refine blk_alloc ?_ _)); exact BK662.out) Try.underlying26 rfl (by kernel_rfl)) rfl ?_
    exact ⟨_, re, by first | exact Kd.R_nil _ _ _ _ _ | exact Kd.N_nil _ _ _ _ _ | exact Kd.V_nil _ _ _ _ _ | exact Kd.Q_nil _ _ _ _ _ | exact Kd.S_nil _ _ _ _ _, bw⟩
   obtain ⟨y668, hy668⟩ : ∃ y_ : List Int, y_ = (([] : List Int)) := ⟨_, rfl⟩
   replace H : (if (l0.length : Int) > 0 then (if 0 ≤ (wrap64 ((l0.length : Int) - 1)) then (if (wrap64 ((l0.length : Int) - 1)) < (l0.length : Int) then (spec_FromGaps.j1 kj2 l0 y668 (rd l0 (wrap64 ((l0.length : Int) - 1)))) else (none)) else (none)) else (spec_FromGaps.j1 kj2 l0 y668 0)) = some (r1, r2) := by first | (rw [hy668]; with_reducible first | exact H | exact bs H) | (with_reducible first | exact bs H | exact H) | (rw [hy668]; exact H) | exact H
   have Ny668 := am hy668
   clear hy668
   have HC14 := am H
   clear H
   go_upto_if 25 with (first | ((with_reducible refine gate_dst (N := 22) rfl ?_); (try (refine gate_guard (by rfl) ?_; dsimp only)); refine Kd.R_lit (Kd.int .i64) _ 3 ?hg (N := 22) ?hd (xs := ([] : List Int)) (inner := []) (ok := fun _ => True) (okp := fun _ => True) ?hr ?hp (fun _ hk => hk) trivial (Below.refl _ _) (Nat.le_refl _) (by simp) ?_; (case hd => rfl); (case hg => rfl); (case hr => first | (go_simp; done) | (go_simp; rfl)); (case hp => exact (Reps.none _ _)); intro v669 w15 ho16 hb hg_ hnew_; clear hg_ hnew_; (first | rw [← Ny668.out] at ho16 | (simp only [Int.reduceToNat] at ho16; rw [← Ny668.out] at ho16)); have HO670 := am (Kd.R_lower ho16 (below_size bw)); replace BK662 := kb BK662 hb; replace BK666 := kb BK666 hb; replace HB := am (below_step bw hb); clear hb ho16))
   (try simp only [Act.put, List.setIfInBounds_toArray, List.set_cons_zero, List.set_cons_succ])
   go_cut [7] (fun v7 wc => ∃ (kq : Nat) (x7_13 : Int), v7 = .int .i64 x7_13 ∧ Aside0 (spec_FromGaps.j1 kq l0 y668 x7_13 = some (r1, r2)) ∧ Aside0 (kq ≤ kj2) ∧ Aside0 (Kd.R (Kd.int .i64) 3 wc w.heap.size (fun _ => True) v669 y668) ∧ Aside0 (wc.heap[gb662]? = some (.cells #[(.slice none 0 0)] 26 (0, 0))) ∧ Aside0 (wc.heap[gb666]? = some (.cells #[.int .i64 t663, .int .i64 t664] 33 (0, 0))) ∧ Aside0 (Below w.heap.size w wc))
   case first =>
    have H := HC14.out
    clear HC14
    replace H := gj H; obtain ⟨c17, H⟩ | ⟨c17, H⟩ := H
    ·have c17b0 : decide (0 < (l0.length : Int)) = true := decide_eq_true c17
     have c17b1 : decide (0 < l0.length) = true := decide_eq_true (by omega)
     clear c17
     (first | rw [c17b0] | (simp only [i64_w, i32_w]; rw [c17b0]) | skip)
     obtain ⟨ji18, hji18⟩ : ∃ j_ : Int, (wrap64 ((l0.length : Int) - 1)) = j_ := ⟨_, rfl⟩
     replace H : (if 0 ≤ (ji18) then (if (ji18) < (l0.length : Int) then (spec_FromGaps.j1 kj2 l0 y668 (rd l0 (ji18))) else (none)) else (none)) = some (r1, r2) := by first | (rw [hji18] at H; exact H) | (simp only [hji18] at H ⊢; exact H)
     have hji18w : (IntKind.i64.wrap ((l0.length : Int) - 1)) = ji18 := (i64_w _).trans hji18
     replace H := gd H; obtain ⟨c19b0, H⟩ := H
     replace H := gd H; obtain ⟨c20b0, H⟩ := H
     have H' := am H
     clear H
     obtain ⟨⟨ad671, e671, hx671_0⟩, p671, q671⟩ := pq (Kd.at_int HR0.out (ji18))
     cases e671
     replace hx671_0 := hw HB hx671_0
     go_wp2
     any_goals (first | (exfalso; have h_ := of_decide_eq_true c17b1; contradiction) | skip)
     go_meet
     case rel => exact ⟨_, (rd l0 (ji18)), (by first | rfl | (simp; done) | (simp only [← hji18] <;> (first | rfl | simp)) | (simp [*]; done)), H', ⟨by have := HJ2.out; first | omega | exact Nat.le_refl _⟩, ⟨ro HO670.out⟩, ⟨bo BK662.out⟩, ⟨bo BK666.out⟩, ⟨bw⟩⟩
    have c17b0 : decide (0 < (l0.length : Int)) = false := decide_eq_false c17
    have c17b1 : decide (0 < l0.length) = false := decide_eq_false (by omega)
    clear c17
    (first | rw [c17b0] | (simp only [i64_w, i32_w]; rw [c17b0]) | skip)
    have H' := am H
    clear H
    go_wp2
    any_goals (first | (exfalso; have h_ := of_decide_eq_false c17b1; contradiction) | skip)
    go_meet
    case rel => exact ⟨_, (0), rr, H', ⟨by have := HJ2.out; first | omega | exact Nat.le_refl _⟩, ⟨ro HO670.out⟩, ⟨bo BK662.out⟩, ⟨bo BK666.out⟩, ⟨bw⟩⟩
   case rest =>
    clear HC14
    try clear c17; try clear c17b0; try clear c17b1; try clear c19b0; try clear c20b0; try clear hcz13_0; try clear hcz8_0; try clear hcz8_1; try clear hfz13_0; try clear hfz8_0; try clear hfz8_1; try clear hx671_0; try clear p671; try clear q671
    obtain ⟨kq, x7_13, rfl, HA, HJ13, HO_6, BK662, BK666, HB⟩ := hcut
    cases kq with
    | zero => exact absurd HA.out (by simp [spec_FromGaps.j1])
    | succ kj13 =>
     have H := HA.out
     clear HA
     simp only [spec_FromGaps.j1] at H
     have H' := am H
     clear H
     go_wp2
     go_loopg [6, 8] kj13 (fun kq v6 v8 w' => ∃ (x6_3 : List Int) (x8_3 : Int), v8 = .int .i64 x8_3 ∧ Aside0 (spec_FromGaps.l0 kq l0 x6_3 x7_13 x8_3 = some (r1, r2)) ∧ Aside0 (kq ≤ kj13) ∧ Aside0 (Kd.R (Kd.int .i64) 3 w' w.heap.size (fun _ => True) v6 x6_3) ∧ Aside0 (w'.heap[gb662]? = some (.cells #[(.slice none 0 0)] 26 (0, 0))) ∧ Aside0 (w'.heap[gb666]? = some (.cells #[.int .i64 t663, .int .i64 t664] 33 (0, 0))) ∧ Aside0 (Below w.heap.size w w'))
     case atStart => exact ⟨(y668), (1), rr, H', ⟨Nat.le_refl _⟩, ⟨ro HO_6.out⟩, ⟨bo BK662.out⟩, ⟨bo BK666.out⟩, ⟨bw⟩⟩
     case round =>
      clear H'
      try clear c17; try clear c17b0; try clear c17b1; try clear c19b0; try clear c20b0; try clear hcz13_0; try clear hcz8_0; try clear hcz8_1; try clear hfz13_0; try clear hfz8_0; try clear hfz8_1; try clear hx671_0; try clear p671; try clear q671
      obtain ⟨x6_3, x8_3, rfl, HA, HK3, HO_6, BK662, BK666, HB⟩ := hrel
      cases gk with
      | zero => exact absurd HA.out (by simp [spec_FromGaps.l0])
      | succ k3 =>
       have H := HA.out
       clear HA
       simp only [spec_FromGaps.l0] at H
       replace H := gi H; obtain ⟨c21b0, H⟩ | ⟨c21b0, H⟩ := H
       ·replace H := ga H; obtain ⟨t674, A22, H⟩ := H
        replace H := gb H; obtain ⟨rfl, H⟩ | ⟨rfl, H⟩ := H
        ·have H' := am H
         clear H
         go_wp2_with (first | ((with_reducible refine gate_callee (f := 117) rfl ?_); refine gl (some 41) Try.func117 #[.slice A0 l0.length c0, .int .i64 x8_3] ?_; (with_reducible refine (spec_HasNumber.calls k3 _ _ l0 x8_3 true _ ?side1 ?side2 A22.out).mono ?_); (case side1 => exact co (Kd.C_below HR0.out HB.out)); (case side2 => exact HC0.out); rintro e w' ⟨rfl, ⟨nd, rfl⟩⟩; refine ⟨_, rfl, ?_⟩))
         go_roundg k3
         case measure => have := HJ2.out; have := HJ13.out; have := HK3.out; omega
         case rel => exact ⟨(x6_3), (wrap64 (x8_3 + 1)), rr, H', ⟨by have := HJ2.out; have := HJ13.out; have := HK3.out; omega⟩, ⟨ro HO_6.out⟩, ⟨bo BK662.out⟩, ⟨bo BK666.out⟩, ⟨bw⟩⟩
        replace H := gj H; obtain ⟨c24, H⟩ | ⟨c24, H⟩ := H
        ·have c24b0 : decide (0 < (x6_3.length : Int)) = true := decide_eq_true c24
         have c24b1 : decide (0 < x6_3.length) = true := decide_eq_true (by omega)
         clear c24
         replace H := ga H; obtain ⟨t675, A25, H⟩ := H
         replace H := gd H; obtain ⟨c26b0, H⟩ := H
         replace H := gd H; obtain ⟨c27b0, H⟩ := H
         obtain ⟨bq28, hbq28⟩ : ∃ b_ : Bool, b_ = (rdOf false t675 x8_3) := ⟨_, rfl⟩
         replace H : (if bq28 = true then (spec_FromGaps.l0 k3 l0 x6_3 x7_13 (wrap64 (x8_3 + 1))) else (if x6_3.length < 17592186044416 then (spec_FromGaps.l0 k3 l0 (x6_3 ++ [x8_3]) x7_13 (wrap64 (x8_3 + 1))) else (none))) = some (r1, r2) := by rw [← hbq28] at H; exact H
         have Nbq28 := am hbq28
         clear hbq28
         replace H := gb H; obtain ⟨rfl, H⟩ | ⟨rfl, H⟩ := H
         ·have H' := am H
          clear H
          go_wp2_with (first | ((with_reducible refine gate_callee (f := 117) rfl ?_); refine gl (some 41) Try.func117 #[.slice A0 l0.length c0, .int .i64 x8_3] ?_; (with_reducible refine (spec_HasNumber.calls k3 _ _ l0 x8_3 false _ ?side1 ?side2 A22.out).mono ?_); (case side1 => exact co (Kd.C_below HR0.out HB.out)); (case side2 => exact HC0.out); rintro e w' ⟨rfl, ⟨nd, rfl⟩⟩; refine ⟨_, rfl, ?_⟩; obtain ⟨Ao30, co30, eo30⟩ := Kd.R_slice HO_6.out; subst eo30) | (go_at_call 215; (with_reducible refine (spec_l3Table.calls k3 _ _ x6_3 x8_3 t675 _ ?side1 ?side2 A25.out).mono ?_); (case side1 => exact co (Kd.R_reads' HO_6.out).2.2); (case side2 => exact (Kd.R_reads' HO_6.out).2.1); rintro e w31 ⟨v676, rfl, ho0, hb⟩; replace HO_6 := rK HO_6 hb; have HO677 := am (Kd.R_lower ho0 (below_size bw)); replace BK662 := kb BK662 hb; replace BK666 := kb BK666 hb; replace HB := am (below_step bw hb); clear hb ho0; obtain ⟨Ao32, co32, eo32⟩ := Kd.R_slice HO677.out; subst eo32; have p678 : 0 ≤ (x8_3 : Int) := of_decide_eq_true (by first | (with_reducible assumption) | assumption); have q678 : x8_3 < (t675.length : Int) := of_decide_eq_true (by first | (with_reducible assumption) | assumption); obtain ⟨ad678, e678, hx678_0⟩ := Kd.at_bool (Kd.R_reads' HO677.out).2.2 x8_3 p678 q678; (try rw [← Nbq28.out] at hx678_0); cases e678; replace p678 := eq_true p678; replace q678 := eq_true q678))
          go_roundg k3
          case measure => have := HJ2.out; have := HJ13.out; have := HK3.out; omega
          case rel => exact ⟨(x6_3), (wrap64 (x8_3 + 1)), rr, H', ⟨by have := HJ2.out; have := HJ13.out; have := HK3.out; omega⟩, ⟨ro HO_6.out⟩, ⟨bo BK662.out⟩, ⟨bo BK666.out⟩, ⟨bw⟩⟩
         by_cases c33 : x6_3.length < 17592186044416
         rotate_left
         ·rw [if_neg c33] at H
          exact absurd H (by simp)
         rw [if_pos c33] at H
         have LMc33 := am c33
         clear c33
         obtain ⟨y679, hy679⟩ : ∃ y_ : List Int, y_ = (x6_3 ++ [x8_3]) := ⟨_, rfl⟩
         replace H : (spec_FromGaps.l0 k3 l0 y679 x7_13 (wrap64 (x8_3 + 1))) = some (r1, r2) := by first | (rw [hy679]; with_reducible first | exact H | exact bs H) | (with_reducible first | exact bs H | exact H) | (rw [hy679]; exact H) | exact H
         have Ny679 := am hy679
         clear hy679
         have H' := am H
         clear H
         go_wp2_with (first | ((with_reducible refine gate_callee (f := 117) rfl ?_); refine gl (some 41) Try.func117 #[.slice A0 l0.length c0, .int .i64 x8_3] ?_; (with_reducible refine (spec_HasNumber.calls k3 _ _ l0 x8_3 false _ ?side1 ?side2 A22.out).mono ?_); (case side1 => exact co (Kd.C_below HR0.out HB.out)); (case side2 => exact HC0.out); rintro e w' ⟨rfl, ⟨nd, rfl⟩⟩; refine ⟨_, rfl, ?_⟩; obtain ⟨Ao34, co34, eo34⟩ := Kd.R_slice HO_6.out; subst eo34) | (go_at_call 215; (with_reducible refine (spec_l3Table.calls k3 _ _ x6_3 x8_3 t675 _ ?side1 ?side2 A25.out).mono ?_); (case side1 => exact co (Kd.R_reads' HO_6.out).2.2); (case side2 => exact (Kd.R_reads' HO_6.out).2.1); rintro e w35 ⟨v676, rfl, ho0, hb⟩; replace HO_6 := rK HO_6 hb; have HO677 := am (Kd.R_lower ho0 (below_size bw)); replace BK662 := kb BK662 hb; replace BK666 := kb BK666 hb; replace HB := am (below_step bw hb); clear hb ho0; obtain ⟨Ao36, co36, eo36⟩ := Kd.R_slice HO677.out; subst eo36; have p678 : 0 ≤ (x8_3 : Int) := of_decide_eq_true (by first | (with_reducible assumption) | assumption); have q678 : x8_3 < (t675.length : Int) := of_decide_eq_true (by first | (with_reducible assumption) | assumption); obtain ⟨ad678, e678, hx678_0⟩ := Kd.at_bool (Kd.R_reads' HO677.out).2.2 x8_3 p678 q678; (try rw [← Nbq28.out] at hx678_0); cases e678; replace p678 := eq_true p678; replace q678 := eq_true q678) | ((with_reducible refine gate_builtin (b := .append) (xs := #[.tmp 55, .tmp 57]) rfl ?_); (try (refine gate_guard (by rfl) ?_; dsimp only)); at_builtin; refine Kd.R_append (Kd.int .i64) (w0 := w) w.heap.size rfl (.tmp 55) (.tmp 57) 24 3 (.int .i64 0) 8 rfl Try.underlying24 info3 rfl (by decide) (by omega) (.slice Ao34 x6_3.length co34) x6_3 x8_3 [.int .i64 x8_3] (fun _ => True) (fun _ => False) rfl rfl ?aP (fun _ hk => hk.elim) ?aF ?aO ?aB ?aS ?aL ?_; (case aP => exact rfl); (case aB => exact bw); (case aF => exact (fun _ _ => trivial)); (case aO => exact (ro HO_6.out)); (case aS => exact (below_size bw)); (case aL => have := LMc33.out; omega); intro v680 w37 ho hb hg hat; rw [← Ny679.out] at ho; replace BK662 := am (blk_grown (g := gb662) (o := .cells #[.slice none 0 0] 26 (0, 0)) (bo BK662.out) hg (Kd.R_ne HO_6.out BK662.out (by decide))); replace BK666 := am (blk_grown (g := gb666) (o := .cells #[.int .i64 t663, .int .i64 t664] 33 (0, 0)) (bo BK666.out) hg (Kd.R_ne HO_6.out BK666.out (by decide))); replace HO677 := am (Kd.R_over' (ro HO677.out) (Kd.R_typed (ro HO_6.out)) (by decide) hg); replace HB := am (hb); have HO681 := am (ho); clear HO_6 ho hb hg hat))
         go_roundg k3
         case measure => have := HJ2.out; have := HJ13.out; have := HK3.out; omega
         case rel => exact ⟨(y679), (wrap64 (x8_3 + 1)), rr, H', ⟨by have := HJ2.out; have := HJ13.out; have := HK3.out; omega⟩, ⟨ro HO681.out⟩, ⟨bo BK662.out⟩, ⟨bo BK666.out⟩, ⟨bw⟩⟩
        have c24b0 : decide (0 < (x6_3.length : Int)) = false := decide_eq_false c24
        have c24b1 : decide (0 < x6_3.length) = false := decide_eq_false (by omega)
        clear c24
        by_cases c38 : x6_3.length < 17592186044416
        rotate_left
        ·rw [if_neg c38] at H
         exact absurd H (by simp)
        rw [if_pos c38] at H
        have LMc38 := am c38
        clear c38
        obtain ⟨y682, hy682⟩ : ∃ y_ : List Int, y_ = (x6_3 ++ [x8_3]) := ⟨_, rfl⟩
        replace H : (spec_FromGaps.l0 k3 l0 y682 x7_13 (wrap64 (x8_3 + 1))) = some (r1, r2) := by first | (rw [hy682]; with_reducible first | exact H | exact bs H) | (with_reducible first | exact bs H | exact H) | (rw [hy682]; exact H) | exact H
        have Ny682 := am hy682
        clear hy682
        have H' := am H
        clear H
        go_wp2_with (first | ((with_reducible refine gate_callee (f := 117) rfl ?_); refine gl (some 41) Try.func117 #[.slice A0 l0.length c0, .int .i64 x8_3] ?_; (with_reducible refine (spec_HasNumber.calls k3 _ _ l0 x8_3 false _ ?side1 ?side2 A22.out).mono ?_); (case side1 => exact co (Kd.C_below HR0.out HB.out)); (case side2 => exact HC0.out); rintro e w' ⟨rfl, ⟨nd, rfl⟩⟩; refine ⟨_, rfl, ?_⟩; obtain ⟨Ao39, co39, eo39⟩ := Kd.R_slice HO_6.out; subst eo39) | ((with_reducible refine gate_builtin (b := .append) (xs := #[.tmp 55, .tmp 57]) rfl ?_); (try (refine gate_guard (by rfl) ?_; dsimp only)); at_builtin; refine Kd.R_append (Kd.int .i64) (w0 := w) w.heap.size rfl (.tmp 55) (.tmp 57) 24 3 (.int .i64 0) 8 rfl Try.underlying24 info3 rfl (by decide) (by omega) (.slice Ao39 x6_3.length co39) x6_3 x8_3 [.int .i64 x8_3] (fun _ => True) (fun _ => False) rfl rfl ?aP (fun _ hk => hk.elim) ?aF ?aO ?aB ?aS ?aL ?_; (case aP => exact rfl); (case aB => exact bw); (case aF => exact (fun _ _ => trivial)); (case aO => exact (ro HO_6.out)); (case aS => exact (below_size bw)); (case aL => have := LMc38.out; omega); intro v683 w40 ho hb hg hat; rw [← Ny682.out] at ho; replace BK662 := am (blk_grown (g := gb662) (o := .cells #[.slice none 0 0] 26 (0, 0)) (bo BK662.out) hg (Kd.R_ne HO_6.out BK662.out (by decide))); replace BK666 := am (blk_grown (g := gb666) (o := .cells #[.int .i64 t663, .int .i64 t664] 33 (0, 0)) (bo BK666.out) hg (Kd.R_ne HO_6.out BK666.out (by decide))); replace HB := am (hb); have HO684 := am (ho); clear HO_6 ho hb hg hat))
        go_roundg k3
        case measure => have := HJ2.out; have := HJ13.out; have := HK3.out; omega
        case rel => exact ⟨(y682), (wrap64 (x8_3 + 1)), rr, H', ⟨by have := HJ2.out; have := HJ13.out; have := HK3.out; omega⟩, ⟨ro HO684.out⟩, ⟨bo BK662.out⟩, ⟨bo BK666.out⟩, ⟨bw⟩⟩
       replace H := ga H; obtain ⟨t673, A41, H⟩ := H
       replace H := gb H; obtain ⟨rfl, H⟩ | ⟨rfl, H⟩ := H
       ·simp only [Option.some.injEq, Prod.mk.injEq] at H
        obtain ⟨rfl, rfl⟩ := H
        obtain ⟨Ao43, co43, eo43⟩ := Kd.R_slice HO_6.out
        subst eo43
        go_wp2_with (first | ((with_reducible refine gate_dst (N := 9) rfl ?_); (try (refine gate_guard (by rfl) ?_; dsimp only)); refine bx 9 #[.slice none 0 0] 26 ?_; intro gb672 hg w44 hbox hb; replace HO_6 := rK HO_6 hb; have BK672 := am (hbox); have GW672 := am (gs hg : w.heap.size ≤ gb672); have GE672 := GW672; replace HB := am (below_step bw hb); have NB662_672 := nl hg BK662; have NB672_662 := ns NB662_672; replace BK662 := kb BK662 hb; have NB666_672 := nl hg BK666; have NB672_666 := ns NB666_672; replace BK666 := kb BK666 hb; clear hb hbox hg; have hnb45 := NB672_662.out; have hnc45 := NB662_672.out; have hnb46 := NB672_666.out; have hnc46 := NB666_672.out; have hcz47_0 := bc BK672 0 (.slice none 0 0); have hfz47_0 := blk_frozen BK672.out 0) | ((with_reducible refine gate_callee (f := 23) rfl ?_); refine gl (some 62) Try.func23 #[.agg #[.slice Ao43 x6_3.length co43]] ?_; (with_reducible refine (spec_IsSemigroup.calls k3 _ _ x6_3 true _ ?side1 ?side2 A41.out).mono ?_); (case side1 => refine (Kd.R_reads' (e := 3) (base := w.heap.size) (ok := fun k_ => True) (n := x6_3.length) (c := co43) ?_).2.2; exact (rF HO_6 BK672 (.slice Ao43 x6_3.length co43))); (case side2 => exact (Kd.R_reads' HO_6.out).2.1); rintro e w48 ⟨rfl, hb⟩; refine ⟨_, rfl, ?_⟩; replace HO_6 := am (Kd.R_below (rF HO_6 BK672 (.slice Ao43 x6_3.length co43)) hb); replace BK662 := kb BK662 hb; replace BK666 := kb BK666 hb; replace BK672 := am (blk_below (g := gb672) (o := .cells #[.slice Ao43 x6_3.length co43] 26 (0, 0)) (by (with_reducible repeat (first | refine blk_drewN ?_ _ | refine blk_drew ?_ | refine blk_alloc ?_ _)); refine blk_put (cs := #[.slice none 0 0]) ?_ 0 _ rfl; (with_reducible repeat (first | refine blk_drewN ?_ _ | refine blk_drew ?_ | refine blk_alloc ?_ _)); exact BK672.out) hb); replace HB := am (below_step bw hb); clear hb; have hcz49_0 := bc BK672 0 (.slice Ao43 x6_3.length co43); have hfz49_0 := blk_frozen BK672.out 0; have hnb50 := NB662_666.out; have hnc50 := NB666_662.out; have hcz51_0 := bc BK662 0 (.slice none 0 0); have hfz51_0 := blk_frozen BK662.out 0))
        refine bodyPost_ret (results_ct rfl _ _ gb662 26 #[.slice Ao43 x6_3.length co43] (0, 0) _ rfl (by (with_reducible repeat (first | refine blk_drewN ?_ _ | refine blk_drew ?_ | refine blk_alloc ?_ _)); refine blk_put (cs := #[.slice none 0 0]) ?_ 0 _ rfl; (with_reducible repeat (first | refine blk_drewN ?_ _ | refine blk_drew ?_ | refine blk_alloc ?_ _)); exact BK662.out) Try.underlying26 rfl (by kernel_rfl)) rfl ?_
        exact ⟨_, re, by (with_reducible repeat (first | apply Kd.R_alloc | apply Kd.R_drewN | apply Kd.R_drew)); exact Kd.R_mono (Kd.R_far (p := ⟨gb662, 0, none⟩) (Kd.R_types HO_6.out BK662.out (by decide)) (fun _ hk => hk.2) (.slice Ao43 x6_3.length co43)) (fun _ hk => trivial), bw⟩
       simp only [Option.some.injEq, Prod.mk.injEq] at H
       obtain ⟨rfl, rfl⟩ := H
       obtain ⟨Ao52, co52, eo52⟩ := Kd.R_slice HO_6.out
       subst eo52
       go_wp2_with (first | ((with_reducible refine gate_dst (N := 9) rfl ?_); (try (refine gate_guard (by rfl) ?_; dsimp only)); refine bx 9 #[.slice none 0 0] 26 ?_; intro gb672 hg w53 hbox hb; replace HO_6 := rK HO_6 hb; have BK672 := am (hbox); have GW672 := am (gs hg : w.heap.size ≤ gb672); have GE672 := GW672; replace HB := am (below_step bw hb); have NB662_672 := nl hg BK662; have NB672_662 := ns NB662_672; replace BK662 := kb BK662 hb; have NB666_672 := nl hg BK666; have NB672_666 := ns NB666_672; replace BK666 := kb BK666 hb; clear hb hbox hg; have hnb54 := NB672_662.out; have hnc54 := NB662_672.out; have hnb55 := NB672_666.out; have hnc55 := NB666_672.out; have hcz56_0 := bc BK672 0 (.slice none 0 0); have hfz56_0 := blk_frozen BK672.out 0) | ((with_reducible refine gate_callee (f := 23) rfl ?_); refine gl (some 62) Try.func23 #[.agg #[.slice Ao52 x6_3.length co52]] ?_; (with_reducible refine (spec_IsSemigroup.calls k3 _ _ x6_3 false _ ?side1 ?side2 A41.out).mono ?_); (case side1 => refine (Kd.R_reads' (e := 3) (base := w.heap.size) (ok := fun k_ => True) (n := x6_3.length) (c := co52) ?_).2.2; exact (rF HO_6 BK672 (.slice Ao52 x6_3.length co52))); (case side2 => exact (Kd.R_reads' HO_6.out).2.1); rintro e w57 ⟨rfl, hb⟩; refine ⟨_, rfl, ?_⟩; replace HO_6 := am (Kd.R_below (rF HO_6 BK672 (.slice Ao52 x6_3.length co52)) hb); replace BK662 := kb BK662 hb; replace BK666 := kb BK666 hb; replace BK672 := am (blk_below (g := gb672) (o := .cells #[.slice Ao52 x6_3.length co52] 26 (0, 0)) (by (with_reducible repeat (first | refine blk_drewN ?_ _ | refine blk_drew ?_ | refine blk_alloc ?_ _)); refine blk_put (cs := #[.slice none 0 0]) ?_ 0 _ rfl; (with_reducible repeat (first | refine blk_drewN ?_ _ | refine blk_drew ?_ | refine blk_alloc ?_ _)); exact BK672.out) hb); replace HB := am (below_step bw hb); clear hb; have hnb58 := NB662_666.out; have hnc58 := NB666_662.out; have hcz59_0 := bc BK662 0 (.slice none 0 0); have hfz59_0 := blk_frozen BK662.out 0))
       refine bodyPost_ret (results_ct rfl _ _ gb662 26 #[.slice none 0 0] (0, 0) _ rfl (by (with_reducible repeat (first | refine blk_drewN ?_ _ | refine blk_drew ?_ | refine blk_alloc ?_ _)); refine blk_put (cs := #[.slice none 0 0]) ?_ 0 _ rfl; (with_reducible repeat (first | refine blk_drewN ?_ _ | refine blk_drew ?_ | refine blk_alloc ?_ _)); exact BK662.out) Try.underlying26 rfl (by kernel_rfl)) rfl ?_
       exact ⟨_, re, by first | exact Kd.R_nil _ _ _ _ _ | exact Kd.N_nil _ _ _ _ _ | exact Kd.V_nil _ _ _ _ _ | exact Kd.Q_nil _ _ _ _ _ | exact Kd.S_nil _ _ _ _ _, bw⟩

end Go.Proofs.Ytkfplkdchkmgbaa.C
