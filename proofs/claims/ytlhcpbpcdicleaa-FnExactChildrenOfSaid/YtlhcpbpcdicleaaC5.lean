/- Contracts of functions of the program: spec_FromGaps, spec_l4Gaps, spec_RemoveGenerator, spec_Gaps, spec_FrobeniusOf. -/
import Derived.Test.YtlhcpbpcdicleaaC0
import Derived.Test.YtlhcpbpcdicleaaC2
import Derived.Test.YtlhcpbpcdicleaaC3
import Derived.Test.YtlhcpbpcdicleaaC4
namespace Go.Proofs.Ytlhcpbpcdicleaa.C
open Go.RowKit Go.Proofs.YtlhcpbpcdicleaaW.PrintWords Go.Proofs.YtlhcpbpcdicleaaW.PrintLast Go.Proofs.YtlhcpbpcdicleaaW.PrintMore
attribute [local go_sem] max2_int min2_int max_two min_two max_three min_three max_four min_four
set_option linter.unusedVariables false
set_option linter.unusedSimpArgs false

/-! ### spec_FromGaps: function 23 -/
mutual
def spec_FromGaps.j0 : Nat → List Int → Bool → Option (List Int × Bool)
 | 0, _, _ => none
 | k + 1, x0, x20 => if x20 = true then (some (([] : List Int), false)) else ((some (([] : List Int) : List Int)).bind fun y251 => (if (x0.length : Int) > 0 then (if 0 ≤ (wrap64 ((x0.length : Int) - 1)) then (if (wrap64 ((x0.length : Int) - 1)) < (x0.length : Int) then (spec_FromGaps.j1 k x0 y251 (rd x0 (wrap64 ((x0.length : Int) - 1)))) else (none)) else (none)) else (spec_FromGaps.j1 k x0 y251 0)))
def spec_FromGaps.j1 : Nat → List Int → List Int → Int → Option (List Int × Bool)
 | 0, _, _, _ => none
 | k + 1, x0, x6, x7 => spec_FromGaps.l0 k x0 x6 x7 1
def spec_FromGaps.l0 : Nat → List Int → List Int → Int → Int → Option (List Int × Bool)
 | 0, _, _, _, _ => none
 | k + 1, x0, x6, x7, x8 => if x8 ≤ (wrap64 ((wrap64 (2 * x7)) + 2)) then ((spec_HasNumber.f k x0 x8).bind fun t257 => (if t257 = true then (spec_FromGaps.l0 k x0 x6 x7 (wrap64 (x8 + 1))) else (if (x6.length : Int) > 0 then ((spec_l3Table.f k x6 x8).bind fun t258 => (if 0 ≤ x8 then (if x8 < (t258.length : Int) then (if rdOf false t258 x8 = true then (spec_FromGaps.l0 k x0 x6 x7 (wrap64 (x8 + 1))) else (if x6.length < 17592186044416 then (spec_FromGaps.l0 k x0 (x6 ++ [x8]) x7 (wrap64 (x8 + 1))) else (none))) else (none)) else (none))) else (if x6.length < 17592186044416 then (spec_FromGaps.l0 k x0 (x6 ++ [x8]) x7 (wrap64 (x8 + 1))) else (none))))) else ((spec_IsSemigroup.f k x6).bind fun t256 => (if t256 = true then (some (x6, true)) else (some (([] : List Int), false))))
end
def spec_FromGaps.f (k : Nat) (l0 : List Int) : Option (List Int × Bool) := (spec_GapClash.f k l0).bind fun bt246 => ((spec_l8Gaps.f k l0).bind fun t250 => (if t250 = true then (spec_FromGaps.j0 k l0 bt246.2.2) else (spec_FromGaps.j0 k l0 true)))
set_option maxHeartbeats 8000000 in
set_option maxRecDepth 100000 in
theorem spec_FromGaps.calls (k : Nat) (A0 : Option Addr) (c0 : Nat) (l0 : List Int) (r1 : List Int) (r2 : Bool) (w : World) (hr0 : Kd.C (Kd.int .i64) w A0 l0.length l0) (hc0 : l0.length ≤ c0) (h : spec_FromGaps.f k l0 = some (r1, r2)) :
  Calls Try.prog 23 #[.slice A0 l0.length c0] w fun e w' => ∃ v0_ : Value, e = .returned (.tuple #[.agg #[v0_], .bool r2]) ∧ Kd.R (Kd.int .i64) 3 w' w.heap.size (fun _ => True) v0_ r1 ∧ Below w.heap.size w w' := by
 have hu26 := Try.underlying26
 have hu54 := Try.underlying54
 have HR0 := am hr0
 have HC0 := am hc0
 clear hr0 hc0
 have HB := am (Below.refl w.heap.size w)
 have H : ((spec_GapClash.f k l0).bind fun bt246 => ((spec_l8Gaps.f k l0).bind fun t250 => (if t250 = true then (spec_FromGaps.j0 k l0 bt246.2.2) else (spec_FromGaps.j0 k l0 true)))) = some (r1, r2) := h
 clear h
 replace H := ga H; obtain ⟨⟨t246, t247, t248⟩, A2, H⟩ := H
 replace H : ((spec_l8Gaps.f k l0).bind fun t250 => (if t250 = true then (spec_FromGaps.j0 k l0 t248) else (spec_FromGaps.j0 k l0 true))) = some (r1, r2) := H
 have HC3 := am H
 clear H
 go_enter Try.func23, Try.ntmps23
 go_upto_region 2 with (first | ((with_reducible refine gate_dst (N := 2) rfl ?_); (try (refine gate_guard (by rfl) ?_; dsimp only)); refine bx 2 #[.slice none 0 0] 26 ?_; intro gb245 hg w4 hbox hb; have BK245 := am (hbox); have GW245 := am (gs hg : w.heap.size ≤ gb245); have GE245 := GW245; replace HB := am (below_step bw hb); clear hb hbox hg) | ((with_reducible refine gate_callee (f := 51) rfl ?_); refine gl (some 12) Try.func51 #[.slice A0 l0.length c0] ?_; (with_reducible refine (spec_GapClash.calls k _ _ l0 t246 t247 t248 _ ?side1 ?side2 A2.out).mono ?_); (case side1 => exact co (Kd.C_below HR0.out HB.out)); (case side2 => exact HC0.out); rintro e w5 ⟨rfl, hb⟩; refine ⟨_, rfl, ?_⟩; replace BK245 := kb BK245 hb; replace HB := am (below_step bw hb); clear hb) | ((with_reducible refine gate_dst (N := 4) rfl ?_); (try (refine gate_guard (by rfl) ?_; dsimp only)); refine bx 4 #[.int .i64 0, .int .i64 0] 54 ?_; intro gb249 hg w6 hbox hb; have BK249 := am (hbox); have GW249 := am (gs hg : w.heap.size ≤ gb249); have GE249 := GW249; replace HB := am (below_step bw hb); have NB245_249 := nl hg BK245; have NB249_245 := ns NB245_249; replace BK245 := kb BK245 hb; clear hb hbox hg; have hnb7 := NB249_245.out; have hnc7 := NB245_249.out; have hcz8_0 := bc BK249 0 (.int .i64 0); have hcz8_1 := bc BK249 1 (.int .i64 0); have hfz8_0 := blk_frozen BK249.out 0; have hfz8_1 := blk_frozen BK249.out 1))
 (try simp only [Act.put, List.setIfInBounds_toArray, List.set_cons_zero, List.set_cons_succ])
 go_cut [20] (fun v20 wc => ∃ (kq : Nat) (x20_2 : Bool), v20 = .bool x20_2 ∧ Aside0 (spec_FromGaps.j0 kq l0 x20_2 = some (r1, r2)) ∧ Aside0 (kq ≤ k) ∧ Aside0 (wc.heap[gb245]? = some (.cells #[(.slice none 0 0)] 26 (0, 0))) ∧ Aside0 (wc.heap[gb249]? = some (.cells #[.int .i64 t246, .int .i64 t247] 54 (0, 0))) ∧ Aside0 (Below w.heap.size w wc))
 case first =>
  have H := HC3.out
  clear HC3
  replace H := ga H; obtain ⟨t250, A9, H⟩ := H
  replace H := gb H; obtain ⟨rfl, H⟩ | ⟨rfl, H⟩ := H
  ·have H' := am H
   clear H
   go_wp2_with (first | ((with_reducible refine gate_callee (f := 52) rfl ?_); refine gl (some 16) Try.func52 #[.slice A0 l0.length c0] ?_; (with_reducible refine (spec_l8Gaps.calls k _ _ l0 true _ ?side1 ?side2 A9.out).mono ?_); (case side1 => exact Kd.C_below HR0.out bw); (case side2 => exact HC0.out); rintro e w' ⟨rfl, ⟨nd, rfl⟩⟩; refine ⟨_, rfl, ?_⟩))
   go_meet
   case rel => exact ⟨_, (t248), rr, H', ⟨om⟩, ⟨bf BK245.out⟩, ⟨by (with_reducible repeat (first | refine blk_drewN ?_ _ | refine blk_drew ?_ | refine blk_alloc ?_ _)); refine blk_put (cs := #[.int .i64 t246, .int .i64 0]) ?_ 1 _ rfl; (with_reducible repeat (first | refine blk_drewN ?_ _ | refine blk_drew ?_ | refine blk_alloc ?_ _)); refine blk_put (cs := #[.int .i64 0, .int .i64 0]) ?_ 0 _ rfl; (with_reducible repeat (first | refine blk_drewN ?_ _ | refine blk_drew ?_ | refine blk_alloc ?_ _)); exact BK249.out⟩, ⟨bw⟩⟩
  have H' := am H
  clear H
  go_wp2_with (first | ((with_reducible refine gate_callee (f := 52) rfl ?_); refine gl (some 16) Try.func52 #[.slice A0 l0.length c0] ?_; (with_reducible refine (spec_l8Gaps.calls k _ _ l0 false _ ?side1 ?side2 A9.out).mono ?_); (case side1 => exact Kd.C_below HR0.out bw); (case side2 => exact HC0.out); rintro e w' ⟨rfl, ⟨nd, rfl⟩⟩; refine ⟨_, rfl, ?_⟩))
  go_meet
  case rel => exact ⟨_, (true), rr, H', ⟨om⟩, ⟨bf BK245.out⟩, ⟨by (with_reducible repeat (first | refine blk_drewN ?_ _ | refine blk_drew ?_ | refine blk_alloc ?_ _)); refine blk_put (cs := #[.int .i64 t246, .int .i64 0]) ?_ 1 _ rfl; (with_reducible repeat (first | refine blk_drewN ?_ _ | refine blk_drew ?_ | refine blk_alloc ?_ _)); refine blk_put (cs := #[.int .i64 0, .int .i64 0]) ?_ 0 _ rfl; (with_reducible repeat (first | refine blk_drewN ?_ _ | refine blk_drew ?_ | refine blk_alloc ?_ _)); exact BK249.out⟩, ⟨bw⟩⟩
 case rest =>
  clear HC3
  try clear hcz8_0; try clear hcz8_1; try clear hfz8_0; try clear hfz8_1
  obtain ⟨kq, x20_2, rfl, HA, HJ2, BK245, BK249, HB⟩ := hcut
  cases kq with
  | zero => exact absurd HA.out (by simp [spec_FromGaps.j0])
  | succ kj2 =>
   have H := HA.out
   clear HA
   simp only [spec_FromGaps.j0] at H
   replace H := gb H; obtain ⟨rfl, H⟩ | ⟨rfl, H⟩ := H
   ·simp only [Option.some.injEq, Prod.mk.injEq] at H
    obtain ⟨rfl, rfl⟩ := H
    have hnb12 := NB245_249.out
    have hnc12 := NB249_245.out
    have hcz13_0 := bc BK245 0 (.slice none 0 0)
    have hfz13_0 := blk_frozen BK245.out 0
    go_wp2
    refine bodyPost_ret (results_ct rfl _ _ gb245 26 #[.slice none 0 0] (0, 0) _ rfl (by (with_reducible repeat (first | refine blk_drewN ?_ _ | refine blk_drew ?_ | refine blk_alloc ?_ _)); refine blk_put (cs := #[.slice none 0 0]) ?_ 0 _ rfl; (with_reducible repeat (first | refine blk_drewN ?_ _ | refine blk_drew ?_ | refine blk_alloc ?_ _)); exact BK245.out) Try.underlying26 rfl (by kernel_rfl)) rfl ?_
    exact ⟨_, re, by first | exact Kd.R_nil _ _ _ _ _ | exact Kd.N_nil _ _ _ _ _ | exact Kd.V_nil _ _ _ _ _ | exact Kd.Q_nil _ _ _ _ _ | exact Kd.S_nil _ _ _ _ _, bw⟩
   obtain ⟨y251, hy251⟩ : ∃ y_ : List Int, y_ = (([] : List Int)) := ⟨_, rfl⟩
   replace H : (if (l0.length : Int) > 0 then (if 0 ≤ (wrap64 ((l0.length : Int) - 1)) then (if (wrap64 ((l0.length : Int) - 1)) < (l0.length : Int) then (spec_FromGaps.j1 kj2 l0 y251 (rd l0 (wrap64 ((l0.length : Int) - 1)))) else (none)) else (none)) else (spec_FromGaps.j1 kj2 l0 y251 0)) = some (r1, r2) := by first | (rw [hy251]; with_reducible first | exact H | exact bs H) | (with_reducible first | exact bs H | exact H) | (rw [hy251]; exact H) | exact H
   have Ny251 := am hy251
   clear hy251
   have HC14 := am H
   clear H
   go_upto_if 25 with (first | ((with_reducible refine gate_dst (N := 22) rfl ?_); (try (refine gate_guard (by rfl) ?_; dsimp only)); refine Kd.R_lit (Kd.int .i64) _ 3 ?hg (N := 22) ?hd (xs := ([] : List Int)) (inner := []) (ok := fun _ => True) (okp := fun _ => True) ?hr ?hp (fun _ hk => hk) trivial (Below.refl _ _) (Nat.le_refl _) (by simp) ?_; (case hd => rfl); (case hg => rfl); (case hr => first | (go_simp; done) | (go_simp; rfl)); (case hp => exact (Reps.none _ _)); intro v252 w15 ho16 hb hg_ hnew_; clear hg_ hnew_; (first | rw [← Ny251.out] at ho16 | (simp only [Int.reduceToNat] at ho16; rw [← Ny251.out] at ho16)); have HO253 := am (Kd.R_lower ho16 (below_size bw)); replace BK245 := kb BK245 hb; replace BK249 := kb BK249 hb; replace HB := am (below_step bw hb); clear hb ho16))
   (try simp only [Act.put, List.setIfInBounds_toArray, List.set_cons_zero, List.set_cons_succ])
   go_cut [7] (fun v7 wc => ∃ (kq : Nat) (x7_13 : Int), v7 = .int .i64 x7_13 ∧ Aside0 (spec_FromGaps.j1 kq l0 y251 x7_13 = some (r1, r2)) ∧ Aside0 (kq ≤ kj2) ∧ Aside0 (Kd.R (Kd.int .i64) 3 wc w.heap.size (fun _ => True) v252 y251) ∧ Aside0 (wc.heap[gb245]? = some (.cells #[(.slice none 0 0)] 26 (0, 0))) ∧ Aside0 (wc.heap[gb249]? = some (.cells #[.int .i64 t246, .int .i64 t247] 54 (0, 0))) ∧ Aside0 (Below w.heap.size w wc))
   case first =>
    have H := HC14.out
    clear HC14
    replace H := gj H; obtain ⟨c17, H⟩ | ⟨c17, H⟩ := H
    ·have c17b0 : decide (0 < (l0.length : Int)) = true := decide_eq_true c17
     have c17b1 : decide (0 < l0.length) = true := decide_eq_true (by omega)
     clear c17
     (first | rw [c17b0] | (simp only [i64_w, i32_w]; rw [c17b0]) | skip)
     obtain ⟨ji18, hji18⟩ : ∃ j_ : Int, (wrap64 ((l0.length : Int) - 1)) = j_ := ⟨_, rfl⟩
     replace H : (if 0 ≤ (ji18) then (if (ji18) < (l0.length : Int) then (spec_FromGaps.j1 kj2 l0 y251 (rd l0 (ji18))) else (none)) else (none)) = some (r1, r2) := by first | (rw [hji18] at H; exact H) | (simp only [hji18] at H ⊢; exact H)
     have hji18w : (IntKind.i64.wrap ((l0.length : Int) - 1)) = ji18 := (i64_w _).trans hji18
     replace H := gd H; obtain ⟨c19b0, H⟩ := H
     replace H := gd H; obtain ⟨c20b0, H⟩ := H
     have H' := am H
     clear H
     obtain ⟨⟨ad254, e254, hx254_0⟩, p254, q254⟩ := pq (Kd.at_int HR0.out (ji18))
     cases e254
     replace hx254_0 := hw HB hx254_0
     go_wp2
     any_goals (first | (exfalso; have h_ := of_decide_eq_true c17b1; contradiction) | skip)
     go_meet
     case rel => exact ⟨_, (rd l0 (ji18)), (by first | rfl | (simp; done) | (simp only [← hji18] <;> (first | rfl | simp)) | (simp [*]; done)), H', ⟨by have := HJ2.out; first | omega | exact Nat.le_refl _⟩, ⟨ro HO253.out⟩, ⟨bo BK245.out⟩, ⟨bo BK249.out⟩, ⟨bw⟩⟩
    have c17b0 : decide (0 < (l0.length : Int)) = false := decide_eq_false c17
    have c17b1 : decide (0 < l0.length) = false := decide_eq_false (by omega)
    clear c17
    (first | rw [c17b0] | (simp only [i64_w, i32_w]; rw [c17b0]) | skip)
    have H' := am H
    clear H
    go_wp2
    any_goals (first | (exfalso; have h_ := of_decide_eq_false c17b1; contradiction) | skip)
    go_meet
    case rel => exact ⟨_, (0), rr, H', ⟨by have := HJ2.out; first | omega | exact Nat.le_refl _⟩, ⟨ro HO253.out⟩, ⟨bo BK245.out⟩, ⟨bo BK249.out⟩, ⟨bw⟩⟩
   case rest =>
    clear HC14
    try clear c17; try clear c17b0; try clear c17b1; try clear c19b0; try clear c20b0; try clear hcz13_0; try clear hcz8_0; try clear hcz8_1; try clear hfz13_0; try clear hfz8_0; try clear hfz8_1; try clear hx254_0; try clear p254; try clear q254
    obtain ⟨kq, x7_13, rfl, HA, HJ13, HO_6, BK245, BK249, HB⟩ := hcut
    cases kq with
    | zero => exact absurd HA.out (by simp [spec_FromGaps.j1])
    | succ kj13 =>
     have H := HA.out
     clear HA
     simp only [spec_FromGaps.j1] at H
     have H' := am H
     clear H
     go_wp2
     go_loopg [6, 8] kj13 (fun kq v6 v8 w' => ∃ (x6_3 : List Int) (x8_3 : Int), v8 = .int .i64 x8_3 ∧ Aside0 (spec_FromGaps.l0 kq l0 x6_3 x7_13 x8_3 = some (r1, r2)) ∧ Aside0 (kq ≤ kj13) ∧ Aside0 (Kd.R (Kd.int .i64) 3 w' w.heap.size (fun _ => True) v6 x6_3) ∧ Aside0 (w'.heap[gb245]? = some (.cells #[(.slice none 0 0)] 26 (0, 0))) ∧ Aside0 (w'.heap[gb249]? = some (.cells #[.int .i64 t246, .int .i64 t247] 54 (0, 0))) ∧ Aside0 (Below w.heap.size w w'))
     case atStart => exact ⟨(y251), (1), rr, H', ⟨Nat.le_refl _⟩, ⟨ro HO_6.out⟩, ⟨bo BK245.out⟩, ⟨bo BK249.out⟩, ⟨bw⟩⟩
     case round =>
      clear H'
      try clear c17; try clear c17b0; try clear c17b1; try clear c19b0; try clear c20b0; try clear hcz13_0; try clear hcz8_0; try clear hcz8_1; try clear hfz13_0; try clear hfz8_0; try clear hfz8_1; try clear hx254_0; try clear p254; try clear q254
      obtain ⟨x6_3, x8_3, rfl, HA, HK3, HO_6, BK245, BK249, HB⟩ := hrel
      cases gk with
      | zero => exact absurd HA.out (by simp [spec_FromGaps.l0])
      | succ k3 =>
       have H := HA.out
       clear HA
       simp only [spec_FromGaps.l0] at H
       replace H := gi H; obtain ⟨c21b0, H⟩ | ⟨c21b0, H⟩ := H
       ·replace H := ga H; obtain ⟨t257, A22, H⟩ := H
        replace H := gb H; obtain ⟨rfl, H⟩ | ⟨rfl, H⟩ := H
        ·have H' := am H
         clear H
         go_wp2_with (first | ((with_reducible refine gate_callee (f := 22) rfl ?_); refine gl (some 41) Try.func22 #[.slice A0 l0.length c0, .int .i64 x8_3] ?_; (with_reducible refine (spec_HasNumber.calls k3 _ _ l0 x8_3 true _ ?side1 ?side2 A22.out).mono ?_); (case side1 => exact co (Kd.C_below HR0.out HB.out)); (case side2 => exact HC0.out); rintro e w' ⟨rfl, ⟨nd, rfl⟩⟩; refine ⟨_, rfl, ?_⟩))
         go_roundg k3
         case measure => have := HJ2.out; have := HJ13.out; have := HK3.out; omega
         case rel => exact ⟨(x6_3), (wrap64 (x8_3 + 1)), rr, H', ⟨by have := HJ2.out; have := HJ13.out; have := HK3.out; omega⟩, ⟨ro HO_6.out⟩, ⟨bo BK245.out⟩, ⟨bo BK249.out⟩, ⟨bw⟩⟩
        replace H := gj H; obtain ⟨c24, H⟩ | ⟨c24, H⟩ := H
        ·have c24b0 : decide (0 < (x6_3.length : Int)) = true := decide_eq_true c24
         have c24b1 : decide (0 < x6_3.length) = true := decide_eq_true (by omega)
         clear c24
         replace H := ga H; obtain ⟨t258, A25, H⟩ := H
         replace H := gd H; obtain ⟨c26b0, H⟩ := H
         replace H := gd H; obtain ⟨c27b0, H⟩ := H
         obtain ⟨bq28, hbq28⟩ : ∃ b_ : Bool, b_ = (rdOf false t258 x8_3) := ⟨_, rfl⟩
         replace H : (if bq28 = true then (spec_FromGaps.l0 k3 l0 x6_3 x7_13 (wrap64 (x8_3 + 1))) else (if x6_3.length < 17592186044416 then (spec_FromGaps.l0 k3 l0 (x6_3 ++ [x8_3]) x7_13 (wrap64 (x8_3 + 1))) else (none))) = some (r1, r2) := by rw [← hbq28] at H; exact H
         have Nbq28 := am hbq28
         clear hbq28
         replace H := gb H; obtain ⟨rfl, H⟩ | ⟨rfl, H⟩ := H
         ·have H' := am H
          clear H
          go_wp2_with (first | ((with_reducible refine gate_callee (f := 22) rfl ?_); refine gl (some 41) Try.func22 #[.slice A0 l0.length c0, .int .i64 x8_3] ?_; (with_reducible refine (spec_HasNumber.calls k3 _ _ l0 x8_3 false _ ?side1 ?side2 A22.out).mono ?_); (case side1 => exact co (Kd.C_below HR0.out HB.out)); (case side2 => exact HC0.out); rintro e w' ⟨rfl, ⟨nd, rfl⟩⟩; refine ⟨_, rfl, ?_⟩; obtain ⟨Ao30, co30, eo30⟩ := Kd.R_slice HO_6.out; subst eo30) | (go_at_call 53; (with_reducible refine (spec_l3Table.calls k3 _ _ x6_3 x8_3 t258 _ ?side1 ?side2 A25.out).mono ?_); (case side1 => exact co (Kd.R_reads' HO_6.out).2.2); (case side2 => exact (Kd.R_reads' HO_6.out).2.1); rintro e w31 ⟨v259, rfl, ho0, hb⟩; replace HO_6 := rK HO_6 hb; have HO260 := am (Kd.R_lower ho0 (below_size bw)); replace BK245 := kb BK245 hb; replace BK249 := kb BK249 hb; replace HB := am (below_step bw hb); clear hb ho0; obtain ⟨Ao32, co32, eo32⟩ := Kd.R_slice HO260.out; subst eo32; have p261 : 0 ≤ (x8_3 : Int) := of_decide_eq_true (by first | (with_reducible assumption) | assumption); have q261 : x8_3 < (t258.length : Int) := of_decide_eq_true (by first | (with_reducible assumption) | assumption); obtain ⟨ad261, e261, hx261_0⟩ := Kd.at_bool (Kd.R_reads' HO260.out).2.2 x8_3 p261 q261; (try rw [← Nbq28.out] at hx261_0); cases e261; replace p261 := eq_true p261; replace q261 := eq_true q261))
          go_roundg k3
          case measure => have := HJ2.out; have := HJ13.out; have := HK3.out; omega
          case rel => exact ⟨(x6_3), (wrap64 (x8_3 + 1)), rr, H', ⟨by have := HJ2.out; have := HJ13.out; have := HK3.out; omega⟩, ⟨ro HO_6.out⟩, ⟨bo BK245.out⟩, ⟨bo BK249.out⟩, ⟨bw⟩⟩
         by_cases c33 : x6_3.length < 17592186044416
         rotate_left
         ·rw [if_neg c33] at H
          exact absurd H (by simp)
         rw [if_pos c33] at H
         have LMc33 := am c33
         clear c33
         obtain ⟨y262, hy262⟩ : ∃ y_ : List Int, y_ = (x6_3 ++ [x8_3]) := ⟨_, rfl⟩
         replace H : (spec_FromGaps.l0 k3 l0 y262 x7_13 (wrap64 (x8_3 + 1))) = some (r1, r2) := by first | (rw [hy262]; with_reducible first | exact H | exact bs H) | (with_reducible first | exact bs H | exact H) | (rw [hy262]; exact H) | exact H
         have Ny262 := am hy262
         clear hy262
         have H' := am H
         clear H
         go_wp2_with (first | ((with_reducible refine gate_callee (f := 22) rfl ?_); refine gl (some 41) Try.func22 #[.slice A0 l0.length c0, .int .i64 x8_3] ?_; (with_reducible refine (spec_HasNumber.calls k3 _ _ l0 x8_3 false _ ?side1 ?side2 A22.out).mono ?_); (case side1 => exact co (Kd.C_below HR0.out HB.out)); (case side2 => exact HC0.out); rintro e w' ⟨rfl, ⟨nd, rfl⟩⟩; refine ⟨_, rfl, ?_⟩; obtain ⟨Ao34, co34, eo34⟩ := Kd.R_slice HO_6.out; subst eo34) | (go_at_call 53; (with_reducible refine (spec_l3Table.calls k3 _ _ x6_3 x8_3 t258 _ ?side1 ?side2 A25.out).mono ?_); (case side1 => exact co (Kd.R_reads' HO_6.out).2.2); (case side2 => exact (Kd.R_reads' HO_6.out).2.1); rintro e w35 ⟨v259, rfl, ho0, hb⟩; replace HO_6 := rK HO_6 hb; have HO260 := am (Kd.R_lower ho0 (below_size bw)); replace BK245 := kb BK245 hb; replace BK249 := kb BK249 hb; replace HB := am (below_step bw hb); clear hb ho0; obtain ⟨Ao36, co36, eo36⟩ := Kd.R_slice HO260.out; subst eo36; have p261 : 0 ≤ (x8_3 : Int) := of_decide_eq_true (by first | (with_reducible assumption) | assumption); have q261 : x8_3 < (t258.length : Int) := of_decide_eq_true (by first | (with_reducible assumption) | assumption); obtain ⟨ad261, e261, hx261_0⟩ := Kd.at_bool (Kd.R_reads' HO260.out).2.2 x8_3 p261 q261; (try rw [← Nbq28.out] at hx261_0); cases e261; replace p261 := eq_true p261; replace q261 := eq_true q261) | ((with_reducible refine gate_builtin (b := .append) (xs := #[.tmp 55, .tmp 57]) rfl ?_); (try (refine gate_guard (by rfl) ?_; dsimp only)); at_builtin; refine Kd.R_append (Kd.int .i64) (w0 := w) w.heap.size rfl (.tmp 55) (.tmp 57) 22 3 (.int .i64 0) 8 rfl Try.underlying22 info3 rfl (by decide) (by omega) (.slice Ao34 x6_3.length co34) x6_3 x8_3 [.int .i64 x8_3] (fun _ => True) (fun _ => False) rfl rfl ?aP (fun _ hk => hk.elim) ?aF ?aO ?aB ?aS ?aL ?_; (case aP => exact rfl); (case aB => exact bw); (case aF => exact (fun _ _ => trivial)); (case aO => exact (ro HO_6.out)); (case aS => exact (below_size bw)); (case aL => have := LMc33.out; omega); intro v263 w37 ho hb hg hat; rw [← Ny262.out] at ho; replace BK245 := am (blk_grown (g := gb245) (o := .cells #[.slice none 0 0] 26 (0, 0)) (bo BK245.out) hg (Kd.R_ne HO_6.out BK245.out (by decide))); replace BK249 := am (blk_grown (g := gb249) (o := .cells #[.int .i64 t246, .int .i64 t247] 54 (0, 0)) (bo BK249.out) hg (Kd.R_ne HO_6.out BK249.out (by decide))); replace HO260 := am (Kd.R_over' (ro HO260.out) (Kd.R_typed (ro HO_6.out)) (by decide) hg); replace HB := am (hb); have HO264 := am (ho); clear HO_6 ho hb hg hat))
         go_roundg k3
         case measure => have := HJ2.out; have := HJ13.out; have := HK3.out; omega
         case rel => exact ⟨(y262), (wrap64 (x8_3 + 1)), rr, H', ⟨by have := HJ2.out; have := HJ13.out; have := HK3.out; omega⟩, ⟨ro HO264.out⟩, ⟨bo BK245.out⟩, ⟨bo BK249.out⟩, ⟨bw⟩⟩
        have c24b0 : decide (0 < (x6_3.length : Int)) = false := decide_eq_false c24
        have c24b1 : decide (0 < x6_3.length) = false := decide_eq_false (by omega)
        clear c24
        by_cases c38 : x6_3.length < 17592186044416
        rotate_left
        ·rw [if_neg c38] at H
         exact absurd H (by simp)
        rw [if_pos c38] at H
        have LMc38 := am c38
        clear c38
        obtain ⟨y265, hy265⟩ : ∃ y_ : List Int, y_ = (x6_3 ++ [x8_3]) := ⟨_, rfl⟩
        replace H : (spec_FromGaps.l0 k3 l0 y265 x7_13 (wrap64 (x8_3 + 1))) = some (r1, r2) := by first | (rw [hy265]; with_reducible first | exact H | exact bs H) | (with_reducible first | exact bs H | exact H) | (rw [hy265]; exact H) | exact H
        have Ny265 := am hy265
        clear hy265
        have H' := am H
        clear H
        go_wp2_with (first | ((with_reducible refine gate_callee (f := 22) rfl ?_); refine gl (some 41) Try.func22 #[.slice A0 l0.length c0, .int .i64 x8_3] ?_; (with_reducible refine (spec_HasNumber.calls k3 _ _ l0 x8_3 false _ ?side1 ?side2 A22.out).mono ?_); (case side1 => exact co (Kd.C_below HR0.out HB.out)); (case side2 => exact HC0.out); rintro e w' ⟨rfl, ⟨nd, rfl⟩⟩; refine ⟨_, rfl, ?_⟩; obtain ⟨Ao39, co39, eo39⟩ := Kd.R_slice HO_6.out; subst eo39) | ((with_reducible refine gate_builtin (b := .append) (xs := #[.tmp 55, .tmp 57]) rfl ?_); (try (refine gate_guard (by rfl) ?_; dsimp only)); at_builtin; refine Kd.R_append (Kd.int .i64) (w0 := w) w.heap.size rfl (.tmp 55) (.tmp 57) 22 3 (.int .i64 0) 8 rfl Try.underlying22 info3 rfl (by decide) (by omega) (.slice Ao39 x6_3.length co39) x6_3 x8_3 [.int .i64 x8_3] (fun _ => True) (fun _ => False) rfl rfl ?aP (fun _ hk => hk.elim) ?aF ?aO ?aB ?aS ?aL ?_; (case aP => exact rfl); (case aB => exact bw); (case aF => exact (fun _ _ => trivial)); (case aO => exact (ro HO_6.out)); (case aS => exact (below_size bw)); (case aL => have := LMc38.out; omega); intro v266 w40 ho hb hg hat; rw [← Ny265.out] at ho; replace BK245 := am (blk_grown (g := gb245) (o := .cells #[.slice none 0 0] 26 (0, 0)) (bo BK245.out) hg (Kd.R_ne HO_6.out BK245.out (by decide))); replace BK249 := am (blk_grown (g := gb249) (o := .cells #[.int .i64 t246, .int .i64 t247] 54 (0, 0)) (bo BK249.out) hg (Kd.R_ne HO_6.out BK249.out (by decide))); replace HB := am (hb); have HO267 := am (ho); clear HO_6 ho hb hg hat))
        go_roundg k3
        case measure => have := HJ2.out; have := HJ13.out; have := HK3.out; omega
        case rel => exact ⟨(y265), (wrap64 (x8_3 + 1)), rr, H', ⟨by have := HJ2.out; have := HJ13.out; have := HK3.out; omega⟩, ⟨ro HO267.out⟩, ⟨bo BK245.out⟩, ⟨bo BK249.out⟩, ⟨bw⟩⟩
       replace H := ga H; obtain ⟨t256, A41, H⟩ := H
       replace H := gb H; obtain ⟨rfl, H⟩ | ⟨rfl, H⟩ := H
       ·simp only [Option.some.injEq, Prod.mk.injEq] at H
        obtain ⟨rfl, rfl⟩ := H
        obtain ⟨Ao43, co43, eo43⟩ := Kd.R_slice HO_6.out
        subst eo43
        go_wp2_with (first | ((with_reducible refine gate_dst (N := 9) rfl ?_); (try (refine gate_guard (by rfl) ?_; dsimp only)); refine bx 9 #[.slice none 0 0] 26 ?_; intro gb255 hg w44 hbox hb; replace HO_6 := rK HO_6 hb; have BK255 := am (hbox); have GW255 := am (gs hg : w.heap.size ≤ gb255); have GE255 := GW255; replace HB := am (below_step bw hb); have NB245_255 := nl hg BK245; have NB255_245 := ns NB245_255; replace BK245 := kb BK245 hb; have NB249_255 := nl hg BK249; have NB255_249 := ns NB249_255; replace BK249 := kb BK249 hb; clear hb hbox hg; have hnb45 := NB255_245.out; have hnc45 := NB245_255.out; have hnb46 := NB255_249.out; have hnc46 := NB249_255.out; have hcz47_0 := bc BK255 0 (.slice none 0 0); have hfz47_0 := blk_frozen BK255.out 0) | ((with_reducible refine gate_callee (f := 21) rfl ?_); refine gl (some 62) Try.func21 #[.agg #[.slice Ao43 x6_3.length co43]] ?_; (with_reducible refine (spec_IsSemigroup.calls k3 _ _ x6_3 true _ ?side1 ?side2 A41.out).mono ?_); (case side1 => refine (Kd.R_reads' (e := 3) (base := w.heap.size) (ok := fun k_ => True) (n := x6_3.length) (c := co43) ?_).2.2; exact (rF HO_6 BK255 (.slice Ao43 x6_3.length co43))); (case side2 => exact (Kd.R_reads' HO_6.out).2.1); rintro e w48 ⟨rfl, hb⟩; refine ⟨_, rfl, ?_⟩; replace HO_6 := am (Kd.R_below (rF HO_6 BK255 (.slice Ao43 x6_3.length co43)) hb); replace BK245 := kb BK245 hb; replace BK249 := kb BK249 hb; replace BK255 := am (blk_below (g := gb255) (o := .cells #[.slice Ao43 x6_3.length co43] 26 (0, 0)) (by (with_reducible repeat (first | refine blk_drewN ?_ _ | refine blk_drew ?_ | refine blk_alloc ?_ _)); refine blk_put (cs := #[.slice none 0 0]) ?_ 0 _ rfl; (with_reducible repeat (first | refine blk_drewN ?_ _ | refine blk_drew ?_ | refine blk_alloc ?_ _)); exact BK255.out) hb); replace HB := am (below_step bw hb); clear hb; have hcz49_0 := bc BK255 0 (.slice Ao43 x6_3.length co43); have hfz49_0 := blk_frozen BK255.out 0; have hnb50 := NB245_249.out; have hnc50 := NB249_245.out; have hcz51_0 := bc BK245 0 (.slice none 0 0); have hfz51_0 := blk_frozen BK245.out 0))
        refine bodyPost_ret (results_ct rfl _ _ gb245 26 #[.slice Ao43 x6_3.length co43] (0, 0) _ rfl (by (with_reducible repeat (first | refine blk_drewN ?_ _ | refine blk_drew ?_ | refine blk_alloc ?_ _)); refine blk_put (cs := #[.slice none 0 0]) ?_ 0 _ rfl; (with_reducible repeat (first | refine blk_drewN ?_ _ | refine blk_drew ?_ | refine blk_alloc ?_ _)); exact BK245.out) Try.underlying26 rfl (by kernel_rfl)) rfl ?_
        exact ⟨_, re, by (with_reducible repeat (first | apply Kd.R_alloc | apply Kd.R_drewN | apply Kd.R_drew)); exact Kd.R_mono (Kd.R_far (p := ⟨gb245, 0, none⟩) (Kd.R_types HO_6.out BK245.out (by decide)) (fun _ hk => hk.2) (.slice Ao43 x6_3.length co43)) (fun _ hk => trivial), bw⟩
       simp only [Option.some.injEq, Prod.mk.injEq] at H
       obtain ⟨rfl, rfl⟩ := H
       obtain ⟨Ao52, co52, eo52⟩ := Kd.R_slice HO_6.out
       subst eo52
       go_wp2_with (first | ((with_reducible refine gate_dst (N := 9) rfl ?_); (try (refine gate_guard (by rfl) ?_; dsimp only)); refine bx 9 #[.slice none 0 0] 26 ?_; intro gb255 hg w53 hbox hb; replace HO_6 := rK HO_6 hb; have BK255 := am (hbox); have GW255 := am (gs hg : w.heap.size ≤ gb255); have GE255 := GW255; replace HB := am (below_step bw hb); have NB245_255 := nl hg BK245; have NB255_245 := ns NB245_255; replace BK245 := kb BK245 hb; have NB249_255 := nl hg BK249; have NB255_249 := ns NB249_255; replace BK249 := kb BK249 hb; clear hb hbox hg; have hnb54 := NB255_245.out; have hnc54 := NB245_255.out; have hnb55 := NB255_249.out; have hnc55 := NB249_255.out; have hcz56_0 := bc BK255 0 (.slice none 0 0); have hfz56_0 := blk_frozen BK255.out 0) | ((with_reducible refine gate_callee (f := 21) rfl ?_); refine gl (some 62) Try.func21 #[.agg #[.slice Ao52 x6_3.length co52]] ?_; (with_reducible refine (spec_IsSemigroup.calls k3 _ _ x6_3 false _ ?side1 ?side2 A41.out).mono ?_); (case side1 => refine (Kd.R_reads' (e := 3) (base := w.heap.size) (ok := fun k_ => True) (n := x6_3.length) (c := co52) ?_).2.2; exact (rF HO_6 BK255 (.slice Ao52 x6_3.length co52))); (case side2 => exact (Kd.R_reads' HO_6.out).2.1); rintro e w57 ⟨rfl, hb⟩; refine ⟨_, rfl, ?_⟩; replace HO_6 := am (Kd.R_below (rF HO_6 BK255 (.slice Ao52 x6_3.length co52)) hb); replace BK245 := kb BK245 hb; replace BK249 := kb BK249 hb; replace BK255 := am (blk_below (g := gb255) (o := .cells #[.slice Ao52 x6_3.length co52] 26 (0, 0)) (by (with_reducible repeat (first | refine blk_drewN ?_ _ | refine blk_drew ?_ | refine blk_alloc ?_ _)); refine blk_put (cs := #[.slice none 0 0]) ?_ 0 _ rfl; (with_reducible repeat (first | refine blk_drewN ?_ _ | refine blk_drew ?_ | refine blk_alloc ?_ _)); exact BK255.out) hb); replace HB := am (below_step bw hb); clear hb; have hnb58 := NB245_249.out; have hnc58 := NB249_245.out; have hcz59_0 := bc BK245 0 (.slice none 0 0); have hfz59_0 := blk_frozen BK245.out 0))
       refine bodyPost_ret (results_ct rfl _ _ gb245 26 #[.slice none 0 0] (0, 0) _ rfl (by (with_reducible repeat (first | refine blk_drewN ?_ _ | refine blk_drew ?_ | refine blk_alloc ?_ _)); refine blk_put (cs := #[.slice none 0 0]) ?_ 0 _ rfl; (with_reducible repeat (first | refine blk_drewN ?_ _ | refine blk_drew ?_ | refine blk_alloc ?_ _)); exact BK245.out) Try.underlying26 rfl (by kernel_rfl)) rfl ?_
       exact ⟨_, re, by first | exact Kd.R_nil _ _ _ _ _ | exact Kd.N_nil _ _ _ _ _ | exact Kd.V_nil _ _ _ _ _ | exact Kd.Q_nil _ _ _ _ _ | exact Kd.S_nil _ _ _ _ _, bw⟩


/-! ### spec_l4Gaps: function 25 -/
def spec_l4Gaps.l0 : Nat → List Int → List Bool → Int → Option (List Int)
 | 0, _, _, _ => none
 | k + 1, x3, x4, x5 => if x5 < 200 then (if 0 ≤ x5 then (if x5 < (x4.length : Int) then (if rdOf false x4 x5 = true then (spec_l4Gaps.l0 k x3 x4 (wrap64 (x5 + 1))) else (if x3.length < 17592186044416 then (spec_l4Gaps.l0 k (x3 ++ [x5]) x4 (wrap64 (x5 + 1))) else (none))) else (none)) else (none)) else (some x3)
def spec_l4Gaps.f (k : Nat) (l0_0 : List Int) : Option (List Int) := (spec_l3Table.f k l0_0 200).bind fun t272 => (spec_l4Gaps.l0 k (([] : List Int)) t272 1)
set_option maxHeartbeats 8000000 in
set_option maxRecDepth 100000 in
theorem spec_l4Gaps.calls (k : Nat) (A0_0 : Option Addr) (c0_0 : Nat) (l0_0 : List Int) (r : List Int) (w : World) (hr0_0 : Kd.C (Kd.int .i64) w A0_0 l0_0.length l0_0) (hc0_0 : l0_0.length ≤ c0_0) (h : spec_l4Gaps.f k l0_0 = some r) :
  Calls Try.prog 25 #[.agg #[.slice A0_0 l0_0.length c0_0]] w fun e w' => ∃ v0_ : Value, e = .returned (v0_) ∧ Kd.R (Kd.int .i64) 3 w' w.heap.size (fun _ => True) v0_ r ∧ Below w.heap.size w w' := by
 have hu26 := Try.underlying26
 have HR0_0 := am hr0_0
 have HC0_0 := am hc0_0
 clear hr0_0 hc0_0
 have HB := am (Below.refl w.heap.size w)
 have H : ((spec_l3Table.f k l0_0 200).bind fun t272 => (spec_l4Gaps.l0 k (([] : List Int)) t272 1)) = some r := h
 clear h
 obtain ⟨y269, hy269⟩ : ∃ y_ : List Int, y_ = (([] : List Int)) := ⟨_, rfl⟩
 replace H : ((spec_l3Table.f k l0_0 200).bind fun t272 => (spec_l4Gaps.l0 k y269 t272 1)) = some r := by first | (rw [hy269]; with_reducible first | exact H | exact bs H) | (with_reducible first | exact bs H | exact H) | (rw [hy269]; exact H) | exact H
 have Ny269 := am hy269
 clear hy269
 replace H := ga H; obtain ⟨t272, A2, H⟩ := H
 have H' := am H
 clear H
 go_enter Try.func25, Try.ntmps25
 go_wp2_with (first | ((with_reducible refine gate_dst (N := 1) rfl ?_); refine bx 1 #[.slice A0_0 l0_0.length c0_0] 26 ?_; intro gb268 hg w3 hbox hb; have BK268 := am (hbox); have GW268 := am (gs hg : w.heap.size ≤ gb268); have GE268 := GW268; replace HB := am (below_step bw hb); clear hb hbox hg) | ((with_reducible refine gate_dst (N := 6) rfl ?_); refine Kd.R_lit (Kd.int .i64) _ 3 ?hg (N := 6) ?hd (xs := ([] : List Int)) (inner := []) (ok := fun _ => True) (okp := fun _ => True) ?hr ?hp (fun _ hk => hk) trivial (Below.refl _ _) (Nat.le_refl _) (by simp) ?_; (case hd => rfl); (case hg => rfl); (case hr => first | (go_simp; done) | (go_simp; rfl)); (case hp => exact (Reps.none _ _)); intro v270 w4 ho5 hb hg_ hnew_; clear hg_ hnew_; (first | rw [← Ny269.out] at ho5 | (simp only [Int.reduceToNat] at ho5; rw [← Ny269.out] at ho5)); have HO271 := am (Kd.R_lower ho5 (below_size bw)); replace BK268 := kb BK268 hb; replace HB := am (below_step bw hb); clear hb ho5; have hcz6_0 := bc BK268 0 (.slice A0_0 l0_0.length c0_0); have hfz6_0 := blk_frozen BK268.out 0) | ((with_reducible refine gate_callee (f := 53) rfl ?_); refine gl (some 9) Try.func53 #[.slice A0_0 l0_0.length c0_0, .int .i64 200] ?_; (with_reducible refine (spec_l3Table.calls k _ _ l0_0 200 t272 _ ?side1 ?side2 A2.out).mono ?_); (case side1 => exact co (Kd.C_below HR0_0.out HB.out)); (case side2 => exact HC0_0.out); rintro e w7 ⟨v273, rfl, ho0, hb⟩; refine ⟨_, rfl, ?_⟩; replace HO271 := rK HO271 hb; have HO274 := am (Kd.R_lower ho0 (below_size bw)); replace BK268 := kb BK268 hb; replace HB := am (below_step bw hb); clear hb ho0))
 go_loopg [3, 5] k (fun kq v3 v5 w' => ∃ (x3_1 : List Int) (x5_1 : Int), v5 = .int .i64 x5_1 ∧ Aside0 (spec_l4Gaps.l0 kq x3_1 t272 x5_1 = some r) ∧ Aside0 (kq ≤ k) ∧ Aside0 (Kd.R (Kd.int .i64) 3 w' w.heap.size (fun _ => True) v3 x3_1) ∧ Aside0 (Kd.R Kd.bool 4 w' w.heap.size (fun _ => True) v273 t272) ∧ Aside0 (w'.heap[gb268]? = some (.cells #[(.slice A0_0 l0_0.length c0_0)] 26 (0, 0))) ∧ Aside0 (Below w.heap.size w w'))
 case atStart => exact ⟨(y269), (1), rr, H', ⟨Nat.le_refl _⟩, ⟨ro HO271.out⟩, ⟨ro HO274.out⟩, ⟨bo BK268.out⟩, ⟨bw⟩⟩
 case round =>
  clear H'
  try clear hcz6_0; try clear hfz6_0
  obtain ⟨x3_1, x5_1, rfl, HA, HK1, HO_3, HO_4, BK268, HB⟩ := hrel
  cases gk with
  | zero => exact absurd HA.out (by simp [spec_l4Gaps.l0])
  | succ k1 =>
   have H := HA.out
   clear HA
   simp only [spec_l4Gaps.l0] at H
   replace H := gi H; obtain ⟨c8b0, H⟩ | ⟨c8b0, H⟩ := H
   ·replace H := gd H; obtain ⟨c9b0, H⟩ := H
    replace H := gd H; obtain ⟨c10b0, H⟩ := H
    obtain ⟨bq11, hbq11⟩ : ∃ b_ : Bool, b_ = (rdOf false t272 x5_1) := ⟨_, rfl⟩
    replace H : (if bq11 = true then (spec_l4Gaps.l0 k1 x3_1 t272 (wrap64 (x5_1 + 1))) else (if x3_1.length < 17592186044416 then (spec_l4Gaps.l0 k1 (x3_1 ++ [x5_1]) t272 (wrap64 (x5_1 + 1))) else (none))) = some r := by rw [← hbq11] at H; exact H
    have Nbq11 := am hbq11
    clear hbq11
    replace H := gb H; obtain ⟨rfl, H⟩ | ⟨rfl, H⟩ := H
    ·have H' := am H
     clear H
     obtain ⟨Ao13, co13, eo13⟩ := Kd.R_slice HO_4.out
     subst eo13
     obtain ⟨⟨ad275, e275, hx275_0⟩, p275, q275⟩ := pq (Kd.at_bool (Kd.R_reads' HO_4.out).2.2 x5_1)
     (try rw [← Nbq11.out] at hx275_0)
     cases e275
     go_wp2
     go_roundg k1
     case measure => have := HK1.out; omega
     case rel => exact ⟨(x3_1), (wrap64 (x5_1 + 1)), rr, H', ⟨by have := HK1.out; omega⟩, ⟨ro HO_3.out⟩, ⟨ro HO_4.out⟩, ⟨bo BK268.out⟩, ⟨bw⟩⟩
    by_cases c14 : x3_1.length < 17592186044416
    rotate_left
    ·rw [if_neg c14] at H
     exact absurd H (by simp)
    rw [if_pos c14] at H
    have LMc14 := am c14
    clear c14
    obtain ⟨y276, hy276⟩ : ∃ y_ : List Int, y_ = (x3_1 ++ [x5_1]) := ⟨_, rfl⟩
    replace H : (spec_l4Gaps.l0 k1 y276 t272 (wrap64 (x5_1 + 1))) = some r := by first | (rw [hy276]; with_reducible first | exact H | exact bs H) | (with_reducible first | exact bs H | exact H) | (rw [hy276]; exact H) | exact H
    have Ny276 := am hy276
    clear hy276
    have H' := am H
    clear H
    obtain ⟨Ao15, co15, eo15⟩ := Kd.R_slice HO_4.out
    subst eo15
    obtain ⟨⟨ad275, e275, hx275_0⟩, p275, q275⟩ := pq (Kd.at_bool (Kd.R_reads' HO_4.out).2.2 x5_1)
    (try rw [← Nbq11.out] at hx275_0)
    cases e275
    go_wp2_with (first | ((with_reducible refine gate_builtin (b := .append) (xs := #[.tmp 19, .tmp 21]) rfl ?_); at_builtin; refine Kd.R_append (Kd.int .i64) (w0 := w) w.heap.size rfl (.tmp 19) (.tmp 21) 22 3 (.int .i64 0) 8 rfl Try.underlying22 info3 rfl (by decide) (by omega) u3 x3_1 x5_1 [.int .i64 x5_1] (fun _ => True) (fun _ => False) rfl rfl ?aP (fun _ hk => hk.elim) ?aF ?aO ?aB ?aS ?aL ?_; (case aP => exact rfl); (case aB => exact bw); (case aF => exact (fun _ _ => trivial)); (case aO => exact (ro HO_3.out)); (case aS => exact (below_size bw)); (case aL => have := LMc14.out; omega); intro v277 w16 ho hb hg hat; rw [← Ny276.out] at ho; replace HO_4 := am (Kd.R_over' (ro HO_4.out) (Kd.R_typed (ro HO_3.out)) (by decide) hg); replace BK268 := am (blk_grown (g := gb268) (o := .cells #[.slice A0_0 l0_0.length c0_0] 26 (0, 0)) (bo BK268.out) hg (Kd.R_ne HO_3.out BK268.out (by decide))); replace HB := am (hb); have HO278 := am (ho); clear HO_3 ho hb hg hat))
    go_roundg k1
    case measure => have := HK1.out; omega
    case rel => exact ⟨(y276), (wrap64 (x5_1 + 1)), rr, H', ⟨by have := HK1.out; omega⟩, ⟨ro HO278.out⟩, ⟨ro HO_4.out⟩, ⟨bo BK268.out⟩, ⟨bw⟩⟩
   obtain rfl := Option.some.inj H
   go_wp2
   go_ret
   exact ⟨_, re, ro HO_3.out, bw⟩


/-! ### spec_RemoveGenerator: function 7 -/
def spec_RemoveGenerator.j0 : Nat → Int → Bool → List Int → Option (List Int × Bool)
 | 0, _, _, _ => none
 | k + 1, x1, x17, x280000 => if x17 = true then (some (([] : List Int), false)) else ((spec_l4Gaps.f k x280000).bind fun t283 => (if t283.length < 17592186044416 then ((spec_SortList.f k (t283 ++ [x1])).bind fun t289 => ((spec_FromGaps.f k t289).bind fun bt292 => (some (bt292.1, bt292.2)))) else (none)))
def spec_RemoveGenerator.f (k : Nat) (l0_0 : List Int) (a1 : Int) : Option (List Int × Bool) := (spec_IsSemigroup.f k l0_0).bind fun t281 => (if t281 = true then ((spec_HasNumber.f k l0_0 a1).bind fun t282 => (spec_RemoveGenerator.j0 k a1 (!t282) l0_0)) else (spec_RemoveGenerator.j0 k a1 true l0_0))
set_option maxHeartbeats 8000000 in
set_option maxRecDepth 100000 in
theorem spec_RemoveGenerator.calls (k : Nat) (A0_0 : Option Addr) (c0_0 : Nat) (l0_0 : List Int) (a1 : Int) (r1 : List Int) (r2 : Bool) (w : World) (hr0_0 : Kd.C (Kd.int .i64) w A0_0 l0_0.length l0_0) (hc0_0 : l0_0.length ≤ c0_0) (h : spec_RemoveGenerator.f k l0_0 a1 = some (r1, r2)) :
  Calls Try.prog 7 #[.agg #[.slice A0_0 l0_0.length c0_0], .int .i64 a1] w fun e w' => ∃ v0_ : Value, e = .returned (.tuple #[.agg #[v0_], .bool r2]) ∧ Kd.R (Kd.int .i64) 3 w' w.heap.size (fun _ => True) v0_ r1 ∧ Below w.heap.size w w' := by
 have hu26 := Try.underlying26
 have HR0_0 := am hr0_0
 have HC0_0 := am hc0_0
 clear hr0_0 hc0_0
 have HB := am (Below.refl w.heap.size w)
 have H : ((spec_IsSemigroup.f k l0_0).bind fun t281 => (if t281 = true then ((spec_HasNumber.f k l0_0 a1).bind fun t282 => (spec_RemoveGenerator.j0 k a1 (!t282) l0_0)) else (spec_RemoveGenerator.j0 k a1 true l0_0))) = some (r1, r2) := h
 clear h
 have HC3 := am H
 clear H
 go_enter Try.func7, Try.ntmps7
 go_upto_region 1 with (first | ((with_reducible refine gate_dst (N := 2) rfl ?_); refine bx 2 #[.slice A0_0 l0_0.length c0_0] 26 ?_; intro gb279 hg w4 hbox hb; have BK279 := am (hbox); have GW279 := am (gs hg : w.heap.size ≤ gb279); have GE279 := GW279; replace HB := am (below_step bw hb); clear hb hbox hg) | ((with_reducible refine gate_dst (N := 4) rfl ?_); refine bx 4 #[.slice none 0 0] 26 ?_; intro gb280 hg w5 hbox hb; have BK280 := am (hbox); have GW280 := am (gs hg : w.heap.size ≤ gb280); have GE280 := GW280; replace HB := am (below_step bw hb); have NB279_280 := nl hg BK279; have NB280_279 := ns NB279_280; replace BK279 := kb BK279 hb; clear hb hbox hg))
 (try simp only [Act.put, List.setIfInBounds_toArray, List.set_cons_zero, List.set_cons_succ])
 go_cut [17] (fun v17 wc => ∃ (kq : Nat) (x17_2 : Bool), v17 = .bool x17_2 ∧ Aside0 (spec_RemoveGenerator.j0 kq a1 x17_2 l0_0 = some (r1, r2)) ∧ Aside0 (kq ≤ k) ∧ Aside0 (wc.heap[gb279]? = some (.cells #[(.slice A0_0 l0_0.length c0_0)] 26 (0, 0))) ∧ Aside0 (wc.heap[gb280]? = some (.cells #[(.slice none 0 0)] 26 (0, 0))) ∧ Aside0 (Below w.heap.size w wc))
 case first =>
  have H := HC3.out
  clear HC3
  replace H := ga H; obtain ⟨t281, A6, H⟩ := H
  replace H := gb H; obtain ⟨rfl, H⟩ | ⟨rfl, H⟩ := H
  ·replace H := ga H; obtain ⟨t282, A8, H⟩ := H
   have H' := am H
   clear H
   have hnb9 := NB279_280.out
   have hnc9 := NB280_279.out
   have hcz10_0 := bc BK279 0 (.slice A0_0 l0_0.length c0_0)
   have hfz10_0 := blk_frozen BK279.out 0
   go_wp2_with (first | ((with_reducible refine gate_callee (f := 21) rfl ?_); refine gl (some 9) Try.func21 #[.agg #[.slice A0_0 l0_0.length c0_0]] ?_; (with_reducible refine (spec_IsSemigroup.calls k _ _ l0_0 true _ ?side1 ?side2 A6.out).mono ?_); (case side1 => exact co (Kd.C_below HR0_0.out HB.out)); (case side2 => exact HC0_0.out); rintro e w11 ⟨rfl, hb⟩; refine ⟨_, rfl, ?_⟩; replace BK279 := kb BK279 hb; replace BK280 := kb BK280 hb; replace HB := am (below_step bw hb); clear hb; have hcz12_0 := bc BK279 0 (.slice A0_0 l0_0.length c0_0); have hfz12_0 := blk_frozen BK279.out 0) | (go_at_call 22; (with_reducible refine (spec_HasNumber.calls k _ _ l0_0 a1 t282 _ ?side1 ?side2 A8.out).mono ?_); (case side1 => exact co (Kd.C_below HR0_0.out HB.out)); (case side2 => exact HC0_0.out); rintro e w' ⟨rfl, ⟨nd, rfl⟩⟩))
   go_meet
   case rel => exact ⟨_, (!t282), rr, H', ⟨om⟩, ⟨bo BK279.out⟩, ⟨bo BK280.out⟩, ⟨bw⟩⟩
  have H' := am H
  clear H
  have hnb13 := NB279_280.out
  have hnc13 := NB280_279.out
  have hcz14_0 := bc BK279 0 (.slice A0_0 l0_0.length c0_0)
  have hfz14_0 := blk_frozen BK279.out 0
  go_wp2_with (first | ((with_reducible refine gate_callee (f := 21) rfl ?_); refine gl (some 9) Try.func21 #[.agg #[.slice A0_0 l0_0.length c0_0]] ?_; (with_reducible refine (spec_IsSemigroup.calls k _ _ l0_0 false _ ?side1 ?side2 A6.out).mono ?_); (case side1 => exact co (Kd.C_below HR0_0.out HB.out)); (case side2 => exact HC0_0.out); rintro e w15 ⟨rfl, hb⟩; refine ⟨_, rfl, ?_⟩; replace BK279 := kb BK279 hb; replace BK280 := kb BK280 hb; replace HB := am (below_step bw hb); clear hb))
  go_meet
  case rel => exact ⟨_, (true), rr, H', ⟨om⟩, ⟨bo BK279.out⟩, ⟨bo BK280.out⟩, ⟨bw⟩⟩
 case rest =>
  clear HC3
  try clear hcz10_0; try clear hcz12_0; try clear hcz14_0; try clear hfz10_0; try clear hfz12_0; try clear hfz14_0
  obtain ⟨kq, x17_2, rfl, HA, HJ2, BK279, BK280, HB⟩ := hcut
  cases kq with
  | zero => exact absurd HA.out (by simp [spec_RemoveGenerator.j0])
  | succ kj2 =>
   have H := HA.out
   clear HA
   simp only [spec_RemoveGenerator.j0] at H
   replace H := gb H; obtain ⟨rfl, H⟩ | ⟨rfl, H⟩ := H
   ·simp only [Option.some.injEq, Prod.mk.injEq] at H
    obtain ⟨rfl, rfl⟩ := H
    have hnb17 := NB280_279.out
    have hnc17 := NB279_280.out
    have hcz18_0 := bc BK280 0 (.slice none 0 0)
    have hfz18_0 := blk_frozen BK280.out 0
    go_wp2
    refine bodyPost_ret (results_ct rfl _ _ gb280 26 #[.slice none 0 0] (0, 0) _ rfl (by (with_reducible repeat (first | refine blk_drewN ?_ _ | refine blk_drew ?_ | refine blk_alloc ?_ _)); refine blk_put (cs := #[.slice none 0 0]) ?_ 0 _ rfl; (with_reducible repeat (first | refine blk_drewN ?_ _ | refine blk_drew ?_ | refine blk_alloc ?_ _)); exact BK280.out) Try.underlying26 rfl (by kernel_rfl)) rfl ?_
    exact ⟨_, re, by first | exact Kd.R_nil _ _ _ _ _ | exact Kd.N_nil _ _ _ _ _ | exact Kd.V_nil _ _ _ _ _ | exact Kd.Q_nil _ _ _ _ _ | exact Kd.S_nil _ _ _ _ _, bw⟩
   replace H := ga H; obtain ⟨t283, A19, H⟩ := H
   by_cases c20 : t283.length < 17592186044416
   rotate_left
   ·rw [if_neg c20] at H
    exact absurd H (by simp)
   rw [if_pos c20] at H
   have LMc20 := am c20
   clear c20
   obtain ⟨y286, hy286⟩ : ∃ y_ : List Int, y_ = (t283 ++ [a1]) := ⟨_, rfl⟩
   replace H : ((spec_SortList.f kj2 y286).bind fun t289 => ((spec_FromGaps.f kj2 t289).bind fun bt292 => (some (bt292.1, bt292.2)))) = some (r1, r2) := by first | (rw [hy286]; with_reducible first | exact H | exact bs H) | (with_reducible first | exact bs H | exact H) | (rw [hy286]; exact H) | exact H
   have Ny286 := am hy286
   clear hy286
   replace H := ga H; obtain ⟨t289, A21, H⟩ := H
   replace H := ga H; obtain ⟨⟨t292, t295⟩, A22, H⟩ := H
   replace H : (some (t292, t295)) = some (r1, r2) := H
   simp only [Option.some.injEq, Prod.mk.injEq] at H
   obtain ⟨rfl, rfl⟩ := H
   have hnb23 := NB279_280.out
   have hnc23 := NB280_279.out
   have hcz24_0 := bc BK279 0 (.slice A0_0 l0_0.length c0_0)
   have hfz24_0 := blk_frozen BK279.out 0
   go_wp2_with (first | ((with_reducible refine gate_callee (f := 25) rfl ?_); refine gl (some 21) Try.func25 #[.agg #[.slice A0_0 l0_0.length c0_0]] ?_; (with_reducible refine (spec_l4Gaps.calls kj2 _ _ l0_0 t283 _ ?side1 ?side2 A19.out).mono ?_); (case side1 => exact co (Kd.C_below HR0_0.out HB.out)); (case side2 => exact HC0_0.out); rintro e w25 ⟨v284, rfl, ho0, hb⟩; refine ⟨_, rfl, ?_⟩; have HO285 := am (Kd.R_lower ho0 (below_size bw)); replace BK279 := kb BK279 hb; replace BK280 := kb BK280 hb; replace HB := am (below_step bw hb); clear hb ho0) | ((with_reducible refine gate_builtin (b := .append) (xs := #[.tmp 21, .tmp 23]) rfl ?_); at_builtin; refine Kd.R_append (Kd.int .i64) (w0 := w) w.heap.size rfl (.tmp 21) (.tmp 23) 22 3 (.int .i64 0) 8 rfl Try.underlying22 info3 rfl (by decide) (by omega) v284 t283 a1 [.int .i64 a1] (fun _ => True) (fun _ => False) rfl rfl ?aP (fun _ hk => hk.elim) ?aF ?aO ?aB ?aS ?aL ?_; (case aP => exact rfl); (case aB => exact bw); (case aF => exact (fun _ _ => trivial)); (case aO => exact (ro HO285.out)); (case aS => exact (below_size bw)); (case aL => have := LMc20.out; omega); intro v287 w26 ho hb hg hat; rw [← Ny286.out] at ho; replace BK279 := am (blk_grown (g := gb279) (o := .cells #[.slice A0_0 l0_0.length c0_0] 26 (0, 0)) (bo BK279.out) hg (Kd.R_ne HO285.out BK279.out (by decide))); replace BK280 := am (blk_grown (g := gb280) (o := .cells #[.slice none 0 0] 26 (0, 0)) (bo BK280.out) hg (Kd.R_ne HO285.out BK280.out (by decide))); replace HB := am (hb); have HO288 := am (ho); clear HO285 ho hb hg hat; obtain ⟨Ao27, co27, eo27⟩ := Kd.R_slice HO288.out; subst eo27) | ((with_reducible refine gate_callee (f := 24) rfl ?_); refine gl (some 25) Try.func24 #[.slice Ao27 y286.length co27] ?_; (with_reducible refine (spec_SortList.calls kj2 _ _ y286 t289 _ ?side1 ?side2 A21.out).mono ?_); (case side1 => exact co (Kd.R_reads' HO288.out).2.2); (case side2 => exact (Kd.R_reads' HO288.out).2.1); rintro e w28 ⟨v290, rfl, ho0, hb⟩; refine ⟨_, rfl, ?_⟩; have HO291 := am (Kd.R_lower (Kd.R_new' ho0 (Kd.R_lt (ro HO288.out))) (below_size bw)); replace HO288 := am (Kd.R_elder' (ro HO288.out) (Kd.R_base ho0) hb); replace BK279 := kb BK279 hb; replace BK280 := kb BK280 hb; replace HB := am (below_step bw hb); clear hb ho0; obtain ⟨Ao29, co29, eo29⟩ := Kd.R_slice HO291.out; subst eo29) | ((with_reducible refine gate_callee (f := 23) rfl ?_); refine gl (some 26) Try.func23 #[.slice Ao29 t289.length co29] ?_; (with_reducible refine (spec_FromGaps.calls kj2 _ _ t289 t292 t295 _ ?side1 ?side2 A22.out).mono ?_); (case side1 => exact co (Kd.R_reads' HO291.out).2.2); (case side2 => exact (Kd.R_reads' HO291.out).2.1); rintro e w30 ⟨v293, rfl, ho0, hb⟩; refine ⟨_, rfl, ?_⟩; have HO294 := am (Kd.R_lower (Kd.R_new' (Kd.R_new' ho0 (Kd.R_lt (ro HO288.out))) (Kd.R_lt (ro HO291.out))) (below_size bw)); replace HO288 := am (Kd.R_elder' (ro HO288.out) (Kd.R_base ho0) hb); replace HO291 := am (Kd.R_elder' (ro HO291.out) (Kd.R_base ho0) hb); replace BK279 := kb BK279 hb; replace BK280 := kb BK280 hb; replace HB := am (below_step bw hb); clear hb ho0) | ((with_reducible refine gate_dst (N := 6) rfl ?_); refine bx 6 #[.slice none 0 0] 26 ?_; intro gb296 hg w31 hbox hb; replace HO288 := rK HO288 hb; replace HO291 := rK HO291 hb; replace HO294 := rK HO294 hb; have BK296 := am (hbox); have GW296 := am (gs hg : w.heap.size ≤ gb296); have GE296 := GW296; replace HB := am (below_step bw hb); have NB279_296 := nl hg BK279; have NB296_279 := ns NB279_296; replace BK279 := kb BK279 hb; have NB280_296 := nl hg BK280; have NB296_280 := ns NB280_296; replace BK280 := kb BK280 hb; clear hb hbox hg; obtain ⟨Ao32, co32, eo32⟩ := Kd.R_slice HO294.out; subst eo32; have hnb33 := NB296_279.out; have hnc33 := NB279_296.out; have hnb34 := NB296_280.out; have hnc34 := NB280_296.out; have hcz35_0 := bc BK296 0 (.slice none 0 0); have hfz35_0 := blk_frozen BK296.out 0; have hcz36_0 := bc BK280 0 (.slice none 0 0); have hfz36_0 := blk_frozen BK280.out 0))
   refine bodyPost_ret (results_ct rfl _ _ gb280 26 #[.slice Ao32 t292.length co32] (0, 0) _ rfl (by (with_reducible repeat (first | refine blk_drewN ?_ _ | refine blk_drew ?_ | refine blk_alloc ?_ _)); refine blk_put (cs := #[.slice none 0 0]) ?_ 0 _ rfl; (with_reducible repeat (first | refine blk_drewN ?_ _ | refine blk_drew ?_ | refine blk_alloc ?_ _)); refine blk_far ?_ NB280_296.out _; (with_reducible repeat (first | refine blk_drewN ?_ _ | refine blk_drew ?_ | refine blk_alloc ?_ _)); exact BK280.out) Try.underlying26 rfl (by kernel_rfl)) rfl ?_
   exact ⟨_, re, by (with_reducible repeat (first | apply Kd.R_alloc | apply Kd.R_drewN | apply Kd.R_drew)); exact Kd.R_mono (Kd.R_far (p := ⟨gb280, 0, none⟩) (Kd.R_far (p := ⟨gb296, 0, none⟩) (Kd.R_types (Kd.R_types HO294.out BK296.out (by decide)) BK280.out (by decide)) (fun _ hk => by first | exact hk.1.2 | simp_all) (.slice Ao32 t292.length co32)) (fun _ hk => hk.2) (.slice Ao32 t292.length co32)) (fun _ hk => trivial), bw⟩


/-! ### spec_Gaps: function 67 -/
def spec_Gaps.f (k : Nat) (l0_0 : List Int) : Option (List Int) := (spec_IsSemigroup.f k l0_0).bind fun t298 => (if t298 = true then ((spec_l4Gaps.f k l0_0).bind fun t299 => (some t299)) else (some (([] : List Int))))
set_option maxHeartbeats 8000000 in
set_option maxRecDepth 100000 in
theorem spec_Gaps.calls (k : Nat) (A0_0 : Option Addr) (c0_0 : Nat) (l0_0 : List Int) (r : List Int) (w : World) (hr0_0 : Kd.C (Kd.int .i64) w A0_0 l0_0.length l0_0) (hc0_0 : l0_0.length ≤ c0_0) (h : spec_Gaps.f k l0_0 = some r) :
  Calls Try.prog 67 #[.agg #[.slice A0_0 l0_0.length c0_0]] w fun e w' => ∃ v0_ : Value, e = .returned (v0_) ∧ Kd.R (Kd.int .i64) 3 w' w.heap.size (fun _ => True) v0_ r ∧ Below w.heap.size w w' := by
 have hu26 := Try.underlying26
 have HR0_0 := am hr0_0
 have HC0_0 := am hc0_0
 clear hr0_0 hc0_0
 have HB := am (Below.refl w.heap.size w)
 have H : ((spec_IsSemigroup.f k l0_0).bind fun t298 => (if t298 = true then ((spec_l4Gaps.f k l0_0).bind fun t299 => (some t299)) else (some (([] : List Int))))) = some r := h
 clear h
 replace H := ga H; obtain ⟨t298, A2, H⟩ := H
 replace H := gb H; obtain ⟨rfl, H⟩ | ⟨rfl, H⟩ := H
 ·replace H := ga H; obtain ⟨t299, A4, H⟩ := H
  obtain rfl := Option.some.inj H
  go_enter Try.func67, Try.ntmps67
  go_wp2_with (first | ((with_reducible refine gate_dst (N := 1) rfl ?_); refine bx 1 #[.slice A0_0 l0_0.length c0_0] 26 ?_; intro gb297 hg w5 hbox hb; have BK297 := am (hbox); have GW297 := am (gs hg : w.heap.size ≤ gb297); have GE297 := GW297; replace HB := am (below_step bw hb); clear hb hbox hg; have hcz6_0 := bc BK297 0 (.slice A0_0 l0_0.length c0_0); have hfz6_0 := blk_frozen BK297.out 0) | ((with_reducible refine gate_callee (f := 21) rfl ?_); refine gl (some 4) Try.func21 #[.agg #[.slice A0_0 l0_0.length c0_0]] ?_; (with_reducible refine (spec_IsSemigroup.calls k _ _ l0_0 true _ ?side1 ?side2 A2.out).mono ?_); (case side1 => exact co (Kd.C_below HR0_0.out HB.out)); (case side2 => exact HC0_0.out); rintro e w7 ⟨rfl, hb⟩; refine ⟨_, rfl, ?_⟩; replace BK297 := kb BK297 hb; replace HB := am (below_step bw hb); clear hb; have hcz8_0 := bc BK297 0 (.slice A0_0 l0_0.length c0_0); have hfz8_0 := blk_frozen BK297.out 0) | ((with_reducible refine gate_callee (f := 25) rfl ?_); refine gl (some 8) Try.func25 #[.agg #[.slice A0_0 l0_0.length c0_0]] ?_; (with_reducible refine (spec_l4Gaps.calls k _ _ l0_0 t299 _ ?side1 ?side2 A4.out).mono ?_); (case side1 => exact co (Kd.C_below HR0_0.out HB.out)); (case side2 => exact HC0_0.out); rintro e w9 ⟨v300, rfl, ho0, hb⟩; refine ⟨_, rfl, ?_⟩; have HO301 := am (Kd.R_lower ho0 (below_size bw)); replace BK297 := kb BK297 hb; replace HB := am (below_step bw hb); clear hb ho0))
  go_ret
  exact ⟨_, re, ro HO301.out, bw⟩
 obtain ⟨y302, hy302⟩ : ∃ y_ : List Int, y_ = (([] : List Int)) := ⟨_, rfl⟩
 replace H : (some y302) = some r := by first | (rw [hy302]; with_reducible first | exact H | exact bs H) | (with_reducible first | exact bs H | exact H) | (rw [hy302]; exact H) | exact H
 have Ny302 := am hy302
 clear hy302
 obtain rfl := Option.some.inj H
 go_enter Try.func67, Try.ntmps67
 go_wp2_with (first | ((with_reducible refine gate_dst (N := 1) rfl ?_); refine bx 1 #[.slice A0_0 l0_0.length c0_0] 26 ?_; intro gb297 hg w10 hbox hb; have BK297 := am (hbox); have GW297 := am (gs hg : w.heap.size ≤ gb297); have GE297 := GW297; replace HB := am (below_step bw hb); clear hb hbox hg; have hcz11_0 := bc BK297 0 (.slice A0_0 l0_0.length c0_0); have hfz11_0 := blk_frozen BK297.out 0) | ((with_reducible refine gate_callee (f := 21) rfl ?_); refine gl (some 4) Try.func21 #[.agg #[.slice A0_0 l0_0.length c0_0]] ?_; (with_reducible refine (spec_IsSemigroup.calls k _ _ l0_0 false _ ?side1 ?side2 A2.out).mono ?_); (case side1 => exact co (Kd.C_below HR0_0.out HB.out)); (case side2 => exact HC0_0.out); rintro e w12 ⟨rfl, hb⟩; refine ⟨_, rfl, ?_⟩; replace BK297 := kb BK297 hb; replace HB := am (below_step bw hb); clear hb) | ((with_reducible refine gate_dst (N := 6) rfl ?_); refine Kd.R_lit (Kd.int .i64) _ 3 ?hg (N := 6) ?hd (xs := ([] : List Int)) (inner := []) (ok := fun _ => True) (okp := fun _ => True) ?hr ?hp (fun _ hk => hk) trivial (Below.refl _ _) (Nat.le_refl _) (by simp) ?_; (case hd => rfl); (case hg => rfl); (case hr => first | (go_simp; done) | (go_simp; rfl)); (case hp => exact (Reps.none _ _)); intro v303 w13 ho14 hb hg_ hnew_; clear hg_ hnew_; (first | rw [← Ny302.out] at ho14 | (simp only [Int.reduceToNat] at ho14; rw [← Ny302.out] at ho14)); have HO304 := am (Kd.R_lower ho14 (below_size bw)); replace BK297 := kb BK297 hb; replace HB := am (below_step bw hb); clear hb ho14))
 go_ret
 exact ⟨_, re, ro HO304.out, bw⟩


/-! ### spec_FrobeniusOf: function 35 -/
def spec_FrobeniusOf.f (k : Nat) (l0_0 : List Int) : Option (Int) := (spec_Gaps.f k l0_0).bind fun t306 => (if (t306.length : Int) = 0 then (some (-1)) else (if 0 ≤ (wrap64 ((t306.length : Int) - 1)) then (if (wrap64 ((t306.length : Int) - 1)) < (t306.length : Int) then (some (rd t306 (wrap64 ((t306.length : Int) - 1)))) else (none)) else (none)))
set_option maxHeartbeats 8000000 in
set_option maxRecDepth 100000 in
theorem spec_FrobeniusOf.calls (k : Nat) (A0_0 : Option Addr) (c0_0 : Nat) (l0_0 : List Int) (r : Int) (w : World) (hr0_0 : Kd.C (Kd.int .i64) w A0_0 l0_0.length l0_0) (hc0_0 : l0_0.length ≤ c0_0) (h : spec_FrobeniusOf.f k l0_0 = some r) :
  Calls Try.prog 35 #[.agg #[.slice A0_0 l0_0.length c0_0]] w fun e w' => e = .returned (.int .i64 r) ∧ Below w.heap.size w w' := by
 have hu26 := Try.underlying26
 have HR0_0 := am hr0_0
 have HC0_0 := am hc0_0
 clear hr0_0 hc0_0
 have HB := am (Below.refl w.heap.size w)
 have H : ((spec_Gaps.f k l0_0).bind fun t306 => (if (t306.length : Int) = 0 then (some (-1)) else (if 0 ≤ (wrap64 ((t306.length : Int) - 1)) then (if (wrap64 ((t306.length : Int) - 1)) < (t306.length : Int) then (some (rd t306 (wrap64 ((t306.length : Int) - 1)))) else (none)) else (none)))) = some r := h
 clear h
 replace H := ga H; obtain ⟨t306, A2, H⟩ := H
 by_cases c3 : (t306.length : Int) = 0
 ·rw [if_pos c3] at H
  have c3b0 : ((t306.length : Int) == 0) = true := beq_iff_eq.mpr c3
  have c3b1 : ((t306.length : Int) != 0) = false := bne_eq_false_iff_eq.mpr c3
  clear c3
  obtain rfl := Option.some.inj H
  go_enter Try.func35, Try.ntmps35
  go_wp2_with (first | ((with_reducible refine gate_dst (N := 1) rfl ?_); refine bx 1 #[.slice A0_0 l0_0.length c0_0] 26 ?_; intro gb305 hg w4 hbox hb; have BK305 := am (hbox); have GW305 := am (gs hg : w.heap.size ≤ gb305); have GE305 := GW305; replace HB := am (below_step bw hb); clear hb hbox hg; have hcz5_0 := bc BK305 0 (.slice A0_0 l0_0.length c0_0); have hfz5_0 := blk_frozen BK305.out 0) | ((with_reducible refine gate_callee (f := 67) rfl ?_); refine gl (some 5) Try.func67 #[.agg #[.slice A0_0 l0_0.length c0_0]] ?_; (with_reducible refine (spec_Gaps.calls k _ _ l0_0 t306 _ ?side1 ?side2 A2.out).mono ?_); (case side1 => exact co (Kd.C_below HR0_0.out HB.out)); (case side2 => exact HC0_0.out); rintro e w6 ⟨v307, rfl, ho0, hb⟩; refine ⟨_, rfl, ?_⟩; have HO308 := am (Kd.R_lower ho0 (below_size bw)); replace BK305 := kb BK305 hb; replace HB := am (below_step bw hb); clear hb ho0; obtain ⟨Ao7, co7, eo7⟩ := Kd.R_slice HO308.out; subst eo7))
  go_ret
  exact ⟨re, bw⟩
 rw [if_neg c3] at H
 have c3b0 : ((t306.length : Int) == 0) = false := beq_eq_false_iff_ne.mpr c3
 have c3b1 : ((t306.length : Int) != 0) = true := bne_iff_ne.mpr c3
 have c3b2 : ¬ (t306 = []) := fun h_ => c3 (by rw [h_]; rfl)
 obtain ⟨ji8, hji8⟩ : ∃ j_ : Int, (wrap64 ((t306.length : Int) - 1)) = j_ := ⟨_, rfl⟩
 replace H : (if 0 ≤ (ji8) then (if (ji8) < (t306.length : Int) then (some (rd t306 (ji8))) else (none)) else (none)) = some r := by first | (rw [hji8] at H; exact H) | (simp only [hji8] at H ⊢; exact H)
 (try rw [hji8] at A2)
 have hji8w : (IntKind.i64.wrap ((t306.length : Int) - 1)) = ji8 := (i64_w _).trans hji8
 replace H := gd H; obtain ⟨c9b0, H⟩ := H
 replace H := gd H; obtain ⟨c10b0, H⟩ := H
 obtain rfl := Option.some.inj H
 go_enter Try.func35, Try.ntmps35
 go_wp2_with (first | ((with_reducible refine gate_dst (N := 1) rfl ?_); refine bx 1 #[.slice A0_0 l0_0.length c0_0] 26 ?_; intro gb305 hg w11 hbox hb; have BK305 := am (hbox); have GW305 := am (gs hg : w.heap.size ≤ gb305); have GE305 := GW305; replace HB := am (below_step bw hb); clear hb hbox hg; have hcz12_0 := bc BK305 0 (.slice A0_0 l0_0.length c0_0); have hfz12_0 := blk_frozen BK305.out 0) | ((with_reducible refine gate_callee (f := 67) rfl ?_); refine gl (some 5) Try.func67 #[.agg #[.slice A0_0 l0_0.length c0_0]] ?_; (with_reducible refine (spec_Gaps.calls k _ _ l0_0 t306 _ ?side1 ?side2 A2.out).mono ?_); (case side1 => exact co (Kd.C_below HR0_0.out HB.out)); (case side2 => exact HC0_0.out); rintro e w13 ⟨v307, rfl, ho0, hb⟩; refine ⟨_, rfl, ?_⟩; have HO308 := am (Kd.R_lower ho0 (below_size bw)); replace BK305 := kb BK305 hb; replace HB := am (below_step bw hb); clear hb ho0; obtain ⟨Ao14, co14, eo14⟩ := Kd.R_slice HO308.out; subst eo14; have p309 : 0 ≤ ((ji8) : Int) := of_decide_eq_true (by first | (with_reducible assumption) | assumption); have q309 : (ji8) < (t306.length : Int) := of_decide_eq_true (by first | (with_reducible assumption) | assumption); obtain ⟨ad309, e309, hx309_0⟩ := Kd.at_int (Kd.R_reads' HO308.out).2.2 (ji8) p309 q309; cases e309; replace p309 := eq_true p309; replace q309 := eq_true q309))
 go_ret
 exact ⟨by first | rfl | (simp [errW_none, errW_some] <;> rfl) | (simp only [← hji8]; first | rfl | (simp [errW_none, errW_some] <;> rfl)) | (simp [*, errW_none, errW_some] <;> rfl), bw⟩

end Go.Proofs.Ytlhcpbpcdicleaa.C
