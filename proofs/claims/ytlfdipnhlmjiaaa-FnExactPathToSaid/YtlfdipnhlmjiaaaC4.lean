/- Contracts of functions of the program: spec_FromGaps, spec_l19Without, spec_ParentOf, spec_l3Copy, spec_PathTo, impl_within, impl_allWithin, impl_IsAscending. -/
import Derived.Test.YtlfdipnhlmjiaaaC0
import Derived.Test.YtlfdipnhlmjiaaaC1
import Derived.Test.YtlfdipnhlmjiaaaC3
namespace Go.Proofs.Ytlfdipnhlmjiaaa.C
open Go.RowKit Go.Proofs.YtlfdipnhlmjiaaaW.PrintWords Go.Proofs.YtlfdipnhlmjiaaaW.PrintLast Go.Proofs.YtlfdipnhlmjiaaaW.PrintMore
attribute [local go_sem] max2_int min2_int max_two min_two max_three min_three max_four min_four
set_option linter.unusedVariables false
set_option linter.unusedSimpArgs false

/-! ### spec_FromGaps: function 74 -/
mutual
def spec_FromGaps.j0 : Nat → List Int → Bool → Option (List Int × Bool)
 | 0, _, _ => none
 | k + 1, x0, x20 => if x20 = true then (some (([] : List Int), false)) else ((some (([] : List Int) : List Int)).bind fun y275 => (if (x0.length : Int) > 0 then (if 0 ≤ (wrap64 ((x0.length : Int) - 1)) then (if (wrap64 ((x0.length : Int) - 1)) < (x0.length : Int) then (spec_FromGaps.j1 k x0 y275 (rd x0 (wrap64 ((x0.length : Int) - 1)))) else (none)) else (none)) else (spec_FromGaps.j1 k x0 y275 0)))
def spec_FromGaps.j1 : Nat → List Int → List Int → Int → Option (List Int × Bool)
 | 0, _, _, _ => none
 | k + 1, x0, x6, x7 => spec_FromGaps.l0 k x0 x6 x7 1
def spec_FromGaps.l0 : Nat → List Int → List Int → Int → Int → Option (List Int × Bool)
 | 0, _, _, _, _ => none
 | k + 1, x0, x6, x7, x8 => if x8 ≤ (wrap64 ((wrap64 (2 * x7)) + 2)) then ((spec_HasNumber.f k x0 x8).bind fun t281 => (if t281 = true then (spec_FromGaps.l0 k x0 x6 x7 (wrap64 (x8 + 1))) else (if (x6.length : Int) > 0 then ((spec_l3Table.f k x6 x8).bind fun t282 => (if 0 ≤ x8 then (if x8 < (t282.length : Int) then (if rdOf false t282 x8 = true then (spec_FromGaps.l0 k x0 x6 x7 (wrap64 (x8 + 1))) else (if x6.length < 17592186044416 then (spec_FromGaps.l0 k x0 (x6 ++ [x8]) x7 (wrap64 (x8 + 1))) else (none))) else (none)) else (none))) else (if x6.length < 17592186044416 then (spec_FromGaps.l0 k x0 (x6 ++ [x8]) x7 (wrap64 (x8 + 1))) else (none))))) else ((spec_IsSemigroup.f k x6).bind fun t280 => (if t280 = true then (some (x6, true)) else (some (([] : List Int), false))))
end
def spec_FromGaps.f (k : Nat) (l0 : List Int) : Option (List Int × Bool) := (spec_GapClash.f k l0).bind fun bt270 => ((spec_l8Gaps.f k l0).bind fun t274 => (if t274 = true then (spec_FromGaps.j0 k l0 bt270.2.2) else (spec_FromGaps.j0 k l0 true)))
set_option maxHeartbeats 8000000 in
set_option maxRecDepth 100000 in
theorem spec_FromGaps.calls (k : Nat) (A0 : Option Addr) (c0 : Nat) (l0 : List Int) (r1 : List Int) (r2 : Bool) (w : World) (hr0 : Kd.C (Kd.int .i64) w A0 l0.length l0) (hc0 : l0.length ≤ c0) (h : spec_FromGaps.f k l0 = some (r1, r2)) :
  Calls Try.prog 74 #[.slice A0 l0.length c0] w fun e w' => ∃ v0_ : Value, e = .returned (.tuple #[.agg #[v0_], .bool r2]) ∧ Kd.R (Kd.int .i64) 3 w' w.heap.size (fun _ => True) v0_ r1 ∧ Below w.heap.size w w' := by
 have hu27 := Try.underlying27
 have hu94 := Try.underlying94
 have HR0 := am hr0
 have HC0 := am hc0
 clear hr0 hc0
 have HB := am (Below.refl w.heap.size w)
 have H : ((spec_GapClash.f k l0).bind fun bt270 => ((spec_l8Gaps.f k l0).bind fun t274 => (if t274 = true then (spec_FromGaps.j0 k l0 bt270.2.2) else (spec_FromGaps.j0 k l0 true)))) = some (r1, r2) := h
 clear h
 replace H := ga H; obtain ⟨⟨t270, t271, t272⟩, A2, H⟩ := H
 replace H : ((spec_l8Gaps.f k l0).bind fun t274 => (if t274 = true then (spec_FromGaps.j0 k l0 t272) else (spec_FromGaps.j0 k l0 true))) = some (r1, r2) := H
 have HC3 := am H
 clear H
 go_enter Try.func74, Try.ntmps74
 go_upto_region 2 with (first | ((with_reducible refine gate_dst (N := 2) rfl ?_); (try (refine gate_guard (by rfl) ?_; dsimp only)); refine bx 2 #[.slice none 0 0] 27 ?_; intro gb269 hg w4 hbox hb; have BK269 := am (hbox); have GW269 := am (gs hg : w.heap.size ≤ gb269); have GE269 := GW269; replace HB := am (below_step bw hb); clear hb hbox hg) | ((with_reducible refine gate_callee (f := 124) rfl ?_); refine gl (some 12) Try.func124 #[.slice A0 l0.length c0] ?_; (with_reducible refine (spec_GapClash.calls k _ _ l0 t270 t271 t272 _ ?side1 ?side2 A2.out).mono ?_); (case side1 => exact co (Kd.C_below HR0.out HB.out)); (case side2 => exact HC0.out); rintro e w5 ⟨rfl, hb⟩; refine ⟨_, rfl, ?_⟩; replace BK269 := kb BK269 hb; replace HB := am (below_step bw hb); clear hb) | ((with_reducible refine gate_dst (N := 4) rfl ?_); (try (refine gate_guard (by rfl) ?_; dsimp only)); refine bx 4 #[.int .i64 0, .int .i64 0] 94 ?_; intro gb273 hg w6 hbox hb; have BK273 := am (hbox); have GW273 := am (gs hg : w.heap.size ≤ gb273); have GE273 := GW273; replace HB := am (below_step bw hb); have NB269_273 := nl hg BK269; have NB273_269 := ns NB269_273; replace BK269 := kb BK269 hb; clear hb hbox hg; have hnb7 := NB273_269.out; have hnc7 := NB269_273.out; have hcz8_0 := bc BK273 0 (.int .i64 0); have hcz8_1 := bc BK273 1 (.int .i64 0); have hfz8_0 := blk_frozen BK273.out 0; have hfz8_1 := blk_frozen BK273.out 1))
 (try simp only [Act.put, List.setIfInBounds_toArray, List.set_cons_zero, List.set_cons_succ])
 go_cut [20] (fun v20 wc => ∃ (kq : Nat) (x20_2 : Bool), v20 = .bool x20_2 ∧ Aside0 (spec_FromGaps.j0 kq l0 x20_2 = some (r1, r2)) ∧ Aside0 (kq ≤ k) ∧ Aside0 (wc.heap[gb269]? = some (.cells #[(.slice none 0 0)] 27 (0, 0))) ∧ Aside0 (wc.heap[gb273]? = some (.cells #[.int .i64 t270, .int .i64 t271] 94 (0, 0))) ∧ Aside0 (Below w.heap.size w wc))
 case first =>
  have H := HC3.out
  clear HC3
  replace H := ga H; obtain ⟨t274, A9, H⟩ := H
  replace H := gb H; obtain ⟨rfl, H⟩ | ⟨rfl, H⟩ := H
  ·have H' := am H
   clear H
   go_wp2_with (first | ((with_reducible refine gate_callee (f := 125) rfl ?_); refine gl (some 16) Try.func125 #[.slice A0 l0.length c0] ?_; (with_reducible refine (spec_l8Gaps.calls k _ _ l0 true _ ?side1 ?side2 A9.out).mono ?_); (case side1 => exact Kd.C_below HR0.out bw); (case side2 => exact HC0.out); rintro e w' ⟨rfl, ⟨nd, rfl⟩⟩; refine ⟨_, rfl, ?_⟩))
   go_meet
   case rel => exact ⟨_, (t272), rr, H', ⟨om⟩, ⟨bf BK269.out⟩, ⟨by (with_reducible repeat (first | refine blk_drewN ?_ _ | refine blk_drew ?_ | refine blk_alloc ?_ _)); refine blk_put (cs := #[.int .i64 t270, .int .i64 0]) ?_ 1 _ rfl; (with_reducible repeat (first | refine blk_drewN ?_ _ | refine blk_drew ?_ | refine blk_alloc ?_ _)); refine blk_put (cs := #[.int .i64 0, .int .i64 0]) ?_ 0 _ rfl; (with_reducible repeat (first | refine blk_drewN ?_ _ | refine blk_drew ?_ | refine blk_alloc ?_ _)); exact BK273.out⟩, ⟨bw⟩⟩
  have H' := am H
  clear H
  go_wp2_with (first | ((with_reducible refine gate_callee (f := 125) rfl ?_); refine gl (some 16) Try.func125 #[.slice A0 l0.length c0] ?_; (with_reducible refine (spec_l8Gaps.calls k _ _ l0 false _ ?side1 ?side2 A9.out).mono ?_); (case side1 => exact Kd.C_below HR0.out bw); (case side2 => exact HC0.out); rintro e w' ⟨rfl, ⟨nd, rfl⟩⟩; refine ⟨_, rfl, ?_⟩))
  go_meet
  case rel => exact ⟨_, (true), rr, H', ⟨om⟩, ⟨bf BK269.out⟩, ⟨by (with_reducible repeat (first | refine blk_drewN ?_ _ | refine blk_drew ?_ | refine blk_alloc ?_ _)); refine blk_put (cs := #[.int .i64 t270, .int .i64 0]) ?_ 1 _ rfl; (with_reducible repeat (first | refine blk_drewN ?_ _ | refine blk_drew ?_ | refine blk_alloc ?_ _)); refine blk_put (cs := #[.int .i64 0, .int .i64 0]) ?_ 0 _ rfl; (with_reducible repeat (first | refine blk_drewN ?_ _ | refine blk_drew ?_ | refine blk_alloc ?_ _)); exact BK273.out⟩, ⟨bw⟩⟩
 case rest =>
  clear HC3
  try clear hcz8_0; try clear hcz8_1; try clear hfz8_0; try clear hfz8_1
  obtain ⟨kq, x20_2, rfl, HA, HJ2, BK269, BK273, HB⟩ := hcut
  cases kq with
  | zero => exact absurd HA.out (by simp [spec_FromGaps.j0])
  | succ kj2 =>
   have H := HA.out
   clear HA
   simp only [spec_FromGaps.j0] at H
   replace H := gb H; obtain ⟨rfl, H⟩ | ⟨rfl, H⟩ := H
   ·simp only [Option.some.injEq, Prod.mk.injEq] at H
    obtain ⟨rfl, rfl⟩ := H
    have hnb12 := NB269_273.out
    have hnc12 := NB273_269.out
    have hcz13_0 := bc BK269 0 (.slice none 0 0)
    have hfz13_0 := blk_frozen BK269.out 0
    go_wp2
    refine bodyPost_ret (results_ct rfl _ _ gb269 27 #[.slice none 0 0] (0, 0) _ rfl (by (with_reducible repeat (first | refine blk_drewN ?_ _ | refine blk_drew ?_ | refine blk_alloc ?_ _)); refine blk_put (cs := #[.slice none 0 0]) ?_ 0 _ rfl; (with_reducible repeat (first | refine blk_drewN ?_ _ | refine blk_drew ?_ | refine blk_alloc ?_ _)); exact BK269.out) Try.underlying27 rfl (by kernel_rfl)) rfl ?_
    exact ⟨_, re, by first | exact Kd.R_nil _ _ _ _ _ | exact Kd.N_nil _ _ _ _ _ | exact Kd.V_nil _ _ _ _ _ | exact Kd.Q_nil _ _ _ _ _ | exact Kd.S_nil _ _ _ _ _, bw⟩
   obtain ⟨y275, hy275⟩ : ∃ y_ : List Int, y_ = (([] : List Int)) := ⟨_, rfl⟩
   replace H : (if (l0.length : Int) > 0 then (if 0 ≤ (wrap64 ((l0.length : Int) - 1)) then (if (wrap64 ((l0.length : Int) - 1)) < (l0.length : Int) then (spec_FromGaps.j1 kj2 l0 y275 (rd l0 (wrap64 ((l0.length : Int) - 1)))) else (none)) else (none)) else (spec_FromGaps.j1 kj2 l0 y275 0)) = some (r1, r2) := by first | (rw [hy275]; with_reducible first | exact H | exact bs H) | (with_reducible first | exact bs H | exact H) | (rw [hy275]; exact H) | exact H
   have Ny275 := am hy275
   clear hy275
   have HC14 := am H
   clear H
   go_upto_if 25 with (first | ((with_reducible refine gate_dst (N := 22) rfl ?_); (try (refine gate_guard (by rfl) ?_; dsimp only)); refine Kd.R_lit (Kd.int .i64) _ 3 ?hg (N := 22) ?hd (xs := ([] : List Int)) (inner := []) (ok := fun _ => True) (okp := fun _ => True) ?hr ?hp (fun _ hk => hk) trivial (Below.refl _ _) (Nat.le_refl _) (by simp) ?_; (case hd => rfl); (case hg => rfl); (case hr => first | (go_simp; done) | (go_simp; rfl)); (case hp => exact (Reps.none _ _)); intro v276 w15 ho16 hb hg_ hnew_; clear hg_ hnew_; (first | rw [← Ny275.out] at ho16 | (simp only [Int.reduceToNat] at ho16; rw [← Ny275.out] at ho16)); have HO277 := am (Kd.R_lower ho16 (below_size bw)); replace BK269 := kb BK269 hb; replace BK273 := kb BK273 hb; replace HB := am (below_step bw hb); clear hb ho16))
   (try simp only [Act.put, List.setIfInBounds_toArray, List.set_cons_zero, List.set_cons_succ])
   go_cut [7] (fun v7 wc => ∃ (kq : Nat) (x7_13 : Int), v7 = .int .i64 x7_13 ∧ Aside0 (spec_FromGaps.j1 kq l0 y275 x7_13 = some (r1, r2)) ∧ Aside0 (kq ≤ kj2) ∧ Aside0 (Kd.R (Kd.int .i64) 3 wc w.heap.size (fun _ => True) v276 y275) ∧ Aside0 (wc.heap[gb269]? = some (.cells #[(.slice none 0 0)] 27 (0, 0))) ∧ Aside0 (wc.heap[gb273]? = some (.cells #[.int .i64 t270, .int .i64 t271] 94 (0, 0))) ∧ Aside0 (Below w.heap.size w wc))
   case first =>
    have H := HC14.out
    clear HC14
    replace H := gj H; obtain ⟨c17, H⟩ | ⟨c17, H⟩ := H
    ·have c17b0 : decide (0 < (l0.length : Int)) = true := decide_eq_true c17
     have c17b1 : decide (0 < l0.length) = true := decide_eq_true (by omega)
     clear c17
     (first | rw [c17b0] | (simp only [i64_w, i32_w]; rw [c17b0]) | skip)
     obtain ⟨ji18, hji18⟩ : ∃ j_ : Int, (wrap64 ((l0.length : Int) - 1)) = j_ := ⟨_, rfl⟩
     replace H : (if 0 ≤ (ji18) then (if (ji18) < (l0.length : Int) then (spec_FromGaps.j1 kj2 l0 y275 (rd l0 (ji18))) else (none)) else (none)) = some (r1, r2) := by first | (rw [hji18] at H; exact H) | (simp only [hji18] at H ⊢; exact H)
     have hji18w : (IntKind.i64.wrap ((l0.length : Int) - 1)) = ji18 := (i64_w _).trans hji18
     replace H := gd H; obtain ⟨c19b0, H⟩ := H
     replace H := gd H; obtain ⟨c20b0, H⟩ := H
     have H' := am H
     clear H
     obtain ⟨⟨ad278, e278, hx278_0⟩, p278, q278⟩ := pq (Kd.at_int HR0.out (ji18))
     cases e278
     replace hx278_0 := hw HB hx278_0
     go_wp2
     any_goals (first | (exfalso; have h_ := of_decide_eq_true c17b1; contradiction) | skip)
     go_meet
     case rel => exact ⟨_, (rd l0 (ji18)), (by first | rfl | (simp; done) | (simp only [← hji18] <;> (first | rfl | simp)) | (simp [*]; done)), H', ⟨by have := HJ2.out; first | omega | exact Nat.le_refl _⟩, ⟨ro HO277.out⟩, ⟨bo BK269.out⟩, ⟨bo BK273.out⟩, ⟨bw⟩⟩
    have c17b0 : decide (0 < (l0.length : Int)) = false := decide_eq_false c17
    have c17b1 : decide (0 < l0.length) = false := decide_eq_false (by omega)
    clear c17
    (first | rw [c17b0] | (simp only [i64_w, i32_w]; rw [c17b0]) | skip)
    have H' := am H
    clear H
    go_wp2
    any_goals (first | (exfalso; have h_ := of_decide_eq_false c17b1; contradiction) | skip)
    go_meet
    case rel => exact ⟨_, (0), rr, H', ⟨by have := HJ2.out; first | omega | exact Nat.le_refl _⟩, ⟨ro HO277.out⟩, ⟨bo BK269.out⟩, ⟨bo BK273.out⟩, ⟨bw⟩⟩
   case rest =>
    clear HC14
    try clear c17; try clear c17b0; try clear c17b1; try clear c19b0; try clear c20b0; try clear hcz13_0; try clear hcz8_0; try clear hcz8_1; try clear hfz13_0; try clear hfz8_0; try clear hfz8_1; try clear hx278_0; try clear p278; try clear q278
    obtain ⟨kq, x7_13, rfl, HA, HJ13, HO_6, BK269, BK273, HB⟩ := hcut
    cases kq with
    | zero => exact absurd HA.out (by simp [spec_FromGaps.j1])
    | succ kj13 =>
     have H := HA.out
     clear HA
     simp only [spec_FromGaps.j1] at H
     have H' := am H
     clear H
     go_wp2
     go_loopg [6, 8] kj13 (fun kq v6 v8 w' => ∃ (x6_3 : List Int) (x8_3 : Int), v8 = .int .i64 x8_3 ∧ Aside0 (spec_FromGaps.l0 kq l0 x6_3 x7_13 x8_3 = some (r1, r2)) ∧ Aside0 (kq ≤ kj13) ∧ Aside0 (Kd.R (Kd.int .i64) 3 w' w.heap.size (fun _ => True) v6 x6_3) ∧ Aside0 (w'.heap[gb269]? = some (.cells #[(.slice none 0 0)] 27 (0, 0))) ∧ Aside0 (w'.heap[gb273]? = some (.cells #[.int .i64 t270, .int .i64 t271] 94 (0, 0))) ∧ Aside0 (Below w.heap.size w w'))
     case atStart => exact ⟨(y275), (1), rr, H', ⟨Nat.le_refl _⟩, ⟨ro HO_6.out⟩, ⟨bo BK269.out⟩, ⟨bo BK273.out⟩, ⟨bw⟩⟩
     case round =>
      clear H'
      try clear c17; try clear c17b0; try clear c17b1; try clear c19b0; try clear c20b0; try clear hcz13_0; try clear hcz8_0; try clear hcz8_1; try clear hfz13_0; try clear hfz8_0; try clear hfz8_1; try clear hx278_0; try clear p278; try clear q278
      obtain ⟨x6_3, x8_3, rfl, HA, HK3, HO_6, BK269, BK273, HB⟩ := hrel
      cases gk with
      | zero => exact absurd HA.out (by simp [spec_FromGaps.l0])
      | succ k3 =>
       have H := HA.out
       clear HA
       simp only [spec_FromGaps.l0] at H
       replace H := gi H; obtain ⟨c21b0, H⟩ | ⟨c21b0, H⟩ := H
       ·replace H := ga H; obtain ⟨t281, A22, H⟩ := H
        replace H := gb H; obtain ⟨rfl, H⟩ | ⟨rfl, H⟩ := H
        ·have H' := am H
         clear H
         go_wp2_with (first | ((with_reducible refine gate_callee (f := 98) rfl ?_); refine gl (some 41) Try.func98 #[.slice A0 l0.length c0, .int .i64 x8_3] ?_; (with_reducible refine (spec_HasNumber.calls k3 _ _ l0 x8_3 true _ ?side1 ?side2 A22.out).mono ?_); (case side1 => exact co (Kd.C_below HR0.out HB.out)); (case side2 => exact HC0.out); rintro e w' ⟨rfl, ⟨nd, rfl⟩⟩; refine ⟨_, rfl, ?_⟩))
         go_roundg k3
         case measure => have := HJ2.out; have := HJ13.out; have := HK3.out; omega
         case rel => exact ⟨(x6_3), (wrap64 (x8_3 + 1)), rr, H', ⟨by have := HJ2.out; have := HJ13.out; have := HK3.out; omega⟩, ⟨ro HO_6.out⟩, ⟨bo BK269.out⟩, ⟨bo BK273.out⟩, ⟨bw⟩⟩
        replace H := gj H; obtain ⟨c24, H⟩ | ⟨c24, H⟩ := H
        ·have c24b0 : decide (0 < (x6_3.length : Int)) = true := decide_eq_true c24
         have c24b1 : decide (0 < x6_3.length) = true := decide_eq_true (by omega)
         clear c24
         replace H := ga H; obtain ⟨t282, A25, H⟩ := H
         replace H := gd H; obtain ⟨c26b0, H⟩ := H
         replace H := gd H; obtain ⟨c27b0, H⟩ := H
         obtain ⟨bq28, hbq28⟩ : ∃ b_ : Bool, b_ = (rdOf false t282 x8_3) := ⟨_, rfl⟩
         replace H : (if bq28 = true then (spec_FromGaps.l0 k3 l0 x6_3 x7_13 (wrap64 (x8_3 + 1))) else (if x6_3.length < 17592186044416 then (spec_FromGaps.l0 k3 l0 (x6_3 ++ [x8_3]) x7_13 (wrap64 (x8_3 + 1))) else (none))) = some (r1, r2) := by rw [← hbq28] at H; exact H
         have Nbq28 := am hbq28
         clear hbq28
         replace H := gb H; obtain ⟨rfl, H⟩ | ⟨rfl, H⟩ := H
         ·have H' := am H
          clear H
          go_wp2_with (first | ((with_reducible refine gate_callee (f := 98) rfl ?_); refine gl (some 41) Try.func98 #[.slice A0 l0.length c0, .int .i64 x8_3] ?_; (with_reducible refine (spec_HasNumber.calls k3 _ _ l0 x8_3 false _ ?side1 ?side2 A22.out).mono ?_); (case side1 => exact co (Kd.C_below HR0.out HB.out)); (case side2 => exact HC0.out); rintro e w' ⟨rfl, ⟨nd, rfl⟩⟩; refine ⟨_, rfl, ?_⟩; obtain ⟨Ao30, co30, eo30⟩ := Kd.R_slice HO_6.out; subst eo30) | (go_at_call 123; (with_reducible refine (spec_l3Table.calls k3 _ _ x6_3 x8_3 t282 _ ?side1 ?side2 A25.out).mono ?_); (case side1 => exact co (Kd.R_reads' HO_6.out).2.2); (case side2 => exact (Kd.R_reads' HO_6.out).2.1); rintro e w31 ⟨v283, rfl, ho0, hb⟩; replace HO_6 := rK HO_6 hb; have HO284 := am (Kd.R_lower ho0 (below_size bw)); replace BK269 := kb BK269 hb; replace BK273 := kb BK273 hb; replace HB := am (below_step bw hb); clear hb ho0; obtain ⟨Ao32, co32, eo32⟩ := Kd.R_slice HO284.out; subst eo32; have p285 : 0 ≤ (x8_3 : Int) := of_decide_eq_true (by first | (with_reducible assumption) | assumption); have q285 : x8_3 < (t282.length : Int) := of_decide_eq_true (by first | (with_reducible assumption) | assumption); obtain ⟨ad285, e285, hx285_0⟩ := Kd.at_bool (Kd.R_reads' HO284.out).2.2 x8_3 p285 q285; (try rw [← Nbq28.out] at hx285_0); cases e285; replace p285 := eq_true p285; replace q285 := eq_true q285))
          go_roundg k3
          case measure => have := HJ2.out; have := HJ13.out; have := HK3.out; omega
          case rel => exact ⟨(x6_3), (wrap64 (x8_3 + 1)), rr, H', ⟨by have := HJ2.out; have := HJ13.out; have := HK3.out; omega⟩, ⟨ro HO_6.out⟩, ⟨bo BK269.out⟩, ⟨bo BK273.out⟩, ⟨bw⟩⟩
         by_cases c33 : x6_3.length < 17592186044416
         rotate_left
         ·rw [if_neg c33] at H
          exact absurd H (by simp)
         rw [if_pos c33] at H
         have LMc33 := am c33
         clear c33
         obtain ⟨y286, hy286⟩ : ∃ y_ : List Int, y_ = (x6_3 ++ [x8_3]) := ⟨_, rfl⟩
         replace H : (spec_FromGaps.l0 k3 l0 y286 x7_13 (wrap64 (x8_3 + 1))) = some (r1, r2) := by first | (rw [hy286]; with_reducible first | exact H | exact bs H) | (with_reducible first | exact bs H | exact H) | (rw [hy286]; exact H) | exact H
         have Ny286 := am hy286
         clear hy286
         have H' := am H
         clear H
         go_wp2_with (first | ((with_reducible refine gate_callee (f := 98) rfl ?_); refine gl (some 41) Try.func98 #[.slice A0 l0.length c0, .int .i64 x8_3] ?_; (with_reducible refine (spec_HasNumber.calls k3 _ _ l0 x8_3 false _ ?side1 ?side2 A22.out).mono ?_); (case side1 => exact co (Kd.C_below HR0.out HB.out)); (case side2 => exact HC0.out); rintro e w' ⟨rfl, ⟨nd, rfl⟩⟩; refine ⟨_, rfl, ?_⟩; obtain ⟨Ao34, co34, eo34⟩ := Kd.R_slice HO_6.out; subst eo34) | (go_at_call 123; (with_reducible refine (spec_l3Table.calls k3 _ _ x6_3 x8_3 t282 _ ?side1 ?side2 A25.out).mono ?_); (case side1 => exact co (Kd.R_reads' HO_6.out).2.2); (case side2 => exact (Kd.R_reads' HO_6.out).2.1); rintro e w35 ⟨v283, rfl, ho0, hb⟩; replace HO_6 := rK HO_6 hb; have HO284 := am (Kd.R_lower ho0 (below_size bw)); replace BK269 := kb BK269 hb; replace BK273 := kb BK273 hb; replace HB := am (below_step bw hb); clear hb ho0; obtain ⟨Ao36, co36, eo36⟩ := Kd.R_slice HO284.out; subst eo36; have p285 : 0 ≤ (x8_3 : Int) := of_decide_eq_true (by first | (with_reducible assumption) | assumption); have q285 : x8_3 < (t282.length : Int) := of_decide_eq_true (by first | (with_reducible assumption) | assumption); obtain ⟨ad285, e285, hx285_0⟩ := Kd.at_bool (Kd.R_reads' HO284.out).2.2 x8_3 p285 q285; (try rw [← Nbq28.out] at hx285_0); cases e285; replace p285 := eq_true p285; replace q285 := eq_true q285) | ((with_reducible refine gate_builtin (b := .append) (xs := #[.tmp 55, .tmp 57]) rfl ?_); (try (refine gate_guard (by rfl) ?_; dsimp only)); at_builtin; refine Kd.R_append (Kd.int .i64) (w0 := w) w.heap.size rfl (.tmp 55) (.tmp 57) 22 3 (.int .i64 0) 8 rfl Try.underlying22 info3 rfl (by decide) (by omega) (.slice Ao34 x6_3.length co34) x6_3 x8_3 [.int .i64 x8_3] (fun _ => True) (fun _ => False) rfl rfl ?aP (fun _ hk => hk.elim) ?aF ?aO ?aB ?aS ?aL ?_; (case aP => exact rfl); (case aB => exact bw); (case aF => exact (fun _ _ => trivial)); (case aO => exact (ro HO_6.out)); (case aS => exact (below_size bw)); (case aL => have := LMc33.out; omega); intro v287 w37 ho hb hg hat; rw [← Ny286.out] at ho; replace BK269 := am (blk_grown (g := gb269) (o := .cells #[.slice none 0 0] 27 (0, 0)) (bo BK269.out) hg (Kd.R_ne HO_6.out BK269.out (by decide))); replace BK273 := am (blk_grown (g := gb273) (o := .cells #[.int .i64 t270, .int .i64 t271] 94 (0, 0)) (bo BK273.out) hg (Kd.R_ne HO_6.out BK273.out (by decide))); replace HO284 := am (Kd.R_over' (ro HO284.out) (Kd.R_typed (ro HO_6.out)) (by decide) hg); replace HB := am (hb); have HO288 := am (ho); clear HO_6 ho hb hg hat))
         go_roundg k3
         case measure => have := HJ2.out; have := HJ13.out; have := HK3.out; omega
         case rel => exact ⟨(y286), (wrap64 (x8_3 + 1)), rr, H', ⟨by have := HJ2.out; have := HJ13.out; have := HK3.out; omega⟩, ⟨ro HO288.out⟩, ⟨bo BK269.out⟩, ⟨bo BK273.out⟩, ⟨bw⟩⟩
        have c24b0 : decide (0 < (x6_3.length : Int)) = false := decide_eq_false c24
        have c24b1 : decide (0 < x6_3.length) = false := decide_eq_false (by omega)
        clear c24
        by_cases c38 : x6_3.length < 17592186044416
        rotate_left
        ·rw [if_neg c38] at H
         exact absurd H (by simp)
        rw [if_pos c38] at H
        have LMc38 := am c38
        clear c38
        obtain ⟨y289, hy289⟩ : ∃ y_ : List Int, y_ = (x6_3 ++ [x8_3]) := ⟨_, rfl⟩
        replace H : (spec_FromGaps.l0 k3 l0 y289 x7_13 (wrap64 (x8_3 + 1))) = some (r1, r2) := by first | (rw [hy289]; with_reducible first | exact H | exact bs H) | (with_reducible first | exact bs H | exact H) | (rw [hy289]; exact H) | exact H
        have Ny289 := am hy289
        clear hy289
        have H' := am H
        clear H
        go_wp2_with (first | ((with_reducible refine gate_callee (f := 98) rfl ?_); refine gl (some 41) Try.func98 #[.slice A0 l0.length c0, .int .i64 x8_3] ?_; (with_reducible refine (spec_HasNumber.calls k3 _ _ l0 x8_3 false _ ?side1 ?side2 A22.out).mono ?_); (case side1 => exact co (Kd.C_below HR0.out HB.out)); (case side2 => exact HC0.out); rintro e w' ⟨rfl, ⟨nd, rfl⟩⟩; refine ⟨_, rfl, ?_⟩; obtain ⟨Ao39, co39, eo39⟩ := Kd.R_slice HO_6.out; subst eo39) | ((with_reducible refine gate_builtin (b := .append) (xs := #[.tmp 55, .tmp 57]) rfl ?_); (try (refine gate_guard (by rfl) ?_; dsimp only)); at_builtin; refine Kd.R_append (Kd.int .i64) (w0 := w) w.heap.size rfl (.tmp 55) (.tmp 57) 22 3 (.int .i64 0) 8 rfl Try.underlying22 info3 rfl (by decide) (by omega) (.slice Ao39 x6_3.length co39) x6_3 x8_3 [.int .i64 x8_3] (fun _ => True) (fun _ => False) rfl rfl ?aP (fun _ hk => hk.elim) ?aF ?aO ?aB ?aS ?aL ?_; (case aP => exact rfl); (case aB => exact bw); (case aF => exact (fun _ _ => trivial)); (case aO => exact (ro HO_6.out)); (case aS => exact (below_size bw)); (case aL => have := LMc38.out; omega); intro v290 w40 ho hb hg hat; rw [← Ny289.out] at ho; replace BK269 := am (blk_grown (g := gb269) (o := .cells #[.slice none 0 0] 27 (0, 0)) (bo BK269.out) hg (Kd.R_ne HO_6.out BK269.out (by decide))); replace BK273 := am (blk_grown (g := gb273) (o := .cells #[.int .i64 t270, .int .i64 t271] 94 (0, 0)) (bo BK273.out) hg (Kd.R_ne HO_6.out BK273.out (by decide))); replace HB := am (hb); have HO291 := am (ho); clear HO_6 ho hb hg hat))
        go_roundg k3
        case measure => have := HJ2.out; have := HJ13.out; have := HK3.out; omega
        case rel => exact ⟨(y289), (wrap64 (x8_3 + 1)), rr, H', ⟨by have := HJ2.out; have := HJ13.out; have := HK3.out; omega⟩, ⟨ro HO291.out⟩, ⟨bo BK269.out⟩, ⟨bo BK273.out⟩, ⟨bw⟩⟩
       replace H := ga H; obtain ⟨t280, A41, H⟩ := H
       replace H := gb H; obtain ⟨rfl, H⟩ | ⟨rfl, H⟩ := H
       ·simp only [Option.some.injEq, Prod.mk.injEq] at H
        obtain ⟨rfl, rfl⟩ := H
        obtain ⟨Ao43, co43, eo43⟩ := Kd.R_slice HO_6.out
        subst eo43
        go_wp2_with (first | ((with_reducible refine gate_dst (N := 9) rfl ?_); (try (refine gate_guard (by rfl) ?_; dsimp only)); refine bx 9 #[.slice none 0 0] 27 ?_; intro gb279 hg w44 hbox hb; replace HO_6 := rK HO_6 hb; have BK279 := am (hbox); have GW279 := am (gs hg : w.heap.size ≤ gb279); have GE279 := GW279; replace HB := am (below_step bw hb); have NB269_279 := nl hg BK269; have NB279_269 := ns NB269_279; replace BK269 := kb BK269 hb; have NB273_279 := nl hg BK273; have NB279_273 := ns NB273_279; replace BK273 := kb BK273 hb; clear hb hbox hg; have hnb45 := NB279_269.out; have hnc45 := NB269_279.out; have hnb46 := NB279_273.out; have hnc46 := NB273_279.out; have hcz47_0 := bc BK279 0 (.slice none 0 0); have hfz47_0 := blk_frozen BK279.out 0) | ((with_reducible refine gate_callee (f := 58) rfl ?_); refine gl (some 62) Try.func58 #[.agg #[.slice Ao43 x6_3.length co43]] ?_; (with_reducible refine (spec_IsSemigroup.calls k3 _ _ x6_3 true _ ?side1 ?side2 A41.out).mono ?_); (case side1 => refine (Kd.R_reads' (e := 3) (base := w.heap.size) (ok := fun k_ => True) (n := x6_3.length) (c := co43) ?_).2.2; exact (rF HO_6 BK279 (.slice Ao43 x6_3.length co43))); (case side2 => exact (Kd.R_reads' HO_6.out).2.1); rintro e w48 ⟨rfl, hb⟩; refine ⟨_, rfl, ?_⟩; replace HO_6 := am (Kd.R_below (rF HO_6 BK279 (.slice Ao43 x6_3.length co43)) hb); replace BK269 := kb BK269 hb; replace BK273 := kb BK273 hb; replace BK279 := am (blk_below (g := gb279) (o := .cells #[.slice Ao43 x6_3.length co43] 27 (0, 0)) (by (with_reducible repeat (first | refine blk_drewN ?_ _ | refine blk_drew ?_ | refine blk_alloc ?_ _)); refine blk_put (cs := #[.slice none 0 0]) ?_ 0 _ rfl; (with_reducible repeat (first | refine blk_drewN ?_ _ | refine blk_drew ?_ | refine blk_alloc ?_ _)); exact BK279.out) hb); replace HB := am (below_step bw hb); clear hb; have hcz49_0 := bc BK279 0 (.slice Ao43 x6_3.length co43); have hfz49_0 := blk_frozen BK279.out 0; have hnb50 := NB269_273.out; have hnc50 := NB273_269.out; have hcz51_0 := bc BK269 0 (.slice none 0 0); have hfz51_0 := blk_frozen BK269.out 0))
        refine bodyPost_ret (results_ct rfl _ _ gb269 27 #[.slice Ao43 x6_3.length co43] (0, 0) _ rfl (by (with_reducible repeat (first | refine blk_drewN ?_ _ | refine blk_drew ?_ | refine blk_alloc ?_ _)); refine blk_put (cs := #[.slice none 0 0]) ?_ 0 _ rfl; (with_reducible repeat (first | refine blk_drewN ?_ _ | refine blk_drew ?_ | refine blk_alloc ?_ _)); exact BK269.out) Try.underlying27 rfl (by kernel_rfl)) rfl ?_
        exact ⟨_, re, by (with_reducible repeat (first | apply Kd.R_alloc | apply Kd.R_drewN | apply Kd.R_drew)); exact Kd.R_mono (Kd.R_far (p := ⟨gb269, 0, none⟩) (Kd.R_types HO_6.out BK269.out (by decide)) (fun _ hk => hk.2) (.slice Ao43 x6_3.length co43)) (fun _ hk => trivial), bw⟩
       simp only [Option.some.injEq, Prod.mk.injEq] at H
       obtain ⟨rfl, rfl⟩ := H
       obtain ⟨Ao52, co52, eo52⟩ := Kd.R_slice HO_6.out
       subst eo52
       go_wp2_with (first | ((with_reducible refine gate_dst (N := 9) rfl ?_); (try (refine gate_guard (by rfl) ?_; dsimp only)); refine bx 9 #[.slice none 0 0] 27 ?_; intro gb279 hg w53 hbox hb; replace HO_6 := rK HO_6 hb; have BK279 := am (hbox); have GW279 := am (gs hg : w.heap.size ≤ gb279); have GE279 := GW279; replace HB := am (below_step bw hb); have NB269_279 := nl hg BK269; have NB279_269 := ns NB269_279; replace BK269 := kb BK269 hb; have NB273_279 := nl hg BK273; have NB279_273 := ns NB273_279; replace BK273 := kb BK273 hb; clear hb hbox hg; have hnb54 := NB279_269.out; have hnc54 := NB269_279.out; have hnb55 := NB279_273.out; have hnc55 := NB273_279.out; have hcz56_0 := bc BK279 0 (.slice none 0 0); have hfz56_0 := blk_frozen BK279.out 0) | ((with_reducible refine gate_callee (f := 58) rfl ?_); refine gl (some 62) Try.func58 #[.agg #[.slice Ao52 x6_3.length co52]] ?_; (with_reducible refine (spec_IsSemigroup.calls k3 _ _ x6_3 false _ ?side1 ?side2 A41.out).mono ?_); (case side1 => refine (Kd.R_reads' (e := 3) (base := w.heap.size) (ok := fun k_ => True) (n := x6_3.length) (c := co52) ?_).2.2; exact (rF HO_6 BK279 (.slice Ao52 x6_3.length co52))); (case side2 => exact (Kd.R_reads' HO_6.out).2.1); rintro e w57 ⟨rfl, hb⟩; refine ⟨_, rfl, ?_⟩; replace HO_6 := am (Kd.R_below (rF HO_6 BK279 (.slice Ao52 x6_3.length co52)) hb); replace BK269 := kb BK269 hb; replace BK273 := kb BK273 hb; replace BK279 := am (blk_below (g := gb279) (o := .cells #[.slice Ao52 x6_3.length co52] 27 (0, 0)) (by (with_reducible repeat (first | refine blk_drewN ?_ _ | refine blk_drew ?_ | refine blk_alloc ?_ _)); refine blk_put (cs := #[.slice none 0 0]) ?_ 0 _ rfl; (with_reducible repeat (first | refine blk_drewN ?_ _ | refine blk_drew ?_ | refine blk_alloc ?_ _)); exact BK279.out) hb); replace HB := am (below_step bw hb); clear hb; have hnb58 := NB269_273.out; have hnc58 := NB273_269.out; have hcz59_0 := bc BK269 0 (.slice none 0 0); have hfz59_0 := blk_frozen BK269.out 0))
       refine bodyPost_ret (results_ct rfl _ _ gb269 27 #[.slice none 0 0] (0, 0) _ rfl (by (with_reducible repeat (first | refine blk_drewN ?_ _ | refine blk_drew ?_ | refine blk_alloc ?_ _)); refine blk_put (cs := #[.slice none 0 0]) ?_ 0 _ rfl; (with_reducible repeat (first | refine blk_drewN ?_ _ | refine blk_drew ?_ | refine blk_alloc ?_ _)); exact BK269.out) Try.underlying27 rfl (by kernel_rfl)) rfl ?_
       exact ⟨_, re, by first | exact Kd.R_nil _ _ _ _ _ | exact Kd.N_nil _ _ _ _ _ | exact Kd.V_nil _ _ _ _ _ | exact Kd.Q_nil _ _ _ _ _ | exact Kd.S_nil _ _ _ _ _, bw⟩


/-! ### spec_l19Without: function 77 -/
def spec_l19Without.l0 : Nat → List Int → Int → List Int → Int → Option (List Int)
 | 0, _, _, _, _ => none
 | k + 1, x0, x1, x5, x6 => if x6 < (x0.length : Int) then (if 0 ≤ x6 then (if (rd x0 x6) = x1 then (spec_l19Without.l0 k x0 x1 x5 (wrap64 (x6 + 1))) else (if x5.length < 17592186044416 then (spec_l19Without.l0 k x0 x1 (x5 ++ [rd x0 x6]) (wrap64 (x6 + 1))) else (none))) else (none)) else (some x5)
def spec_l19Without.f (k : Nat) (l0 : List Int) (a1 : Int) : Option (List Int) := spec_l19Without.l0 k l0 a1 (([] : List Int)) 0
set_option maxHeartbeats 8000000 in
set_option maxRecDepth 100000 in
theorem spec_l19Without.calls (k : Nat) (A0 : Option Addr) (c0 : Nat) (l0 : List Int) (a1 : Int) (r : List Int) (w : World) (hr0 : Kd.C (Kd.int .i64) w A0 l0.length l0) (hc0 : l0.length ≤ c0) (h : spec_l19Without.f k l0 a1 = some r) :
  Calls Try.prog 77 #[.slice A0 l0.length c0, .int .i64 a1] w fun e w' => ∃ v0_ : Value, e = .returned (v0_) ∧ Kd.R (Kd.int .i64) 3 w' w.heap.size (fun _ => True) v0_ r ∧ Below w.heap.size w w' := by
 have HR0 := am hr0
 have HC0 := am hc0
 clear hr0 hc0
 have HB := am (Below.refl w.heap.size w)
 have H : (spec_l19Without.l0 k l0 a1 (([] : List Int)) 0) = some r := h
 clear h
 obtain ⟨y292, hy292⟩ : ∃ y_ : List Int, y_ = (([] : List Int)) := ⟨_, rfl⟩
 replace H : (spec_l19Without.l0 k l0 a1 y292 0) = some r := by first | (rw [hy292]; with_reducible first | exact H | exact bs H) | (with_reducible first | exact bs H | exact H) | (rw [hy292]; exact H) | exact H
 have Ny292 := am hy292
 clear hy292
 have H' := am H
 clear H
 go_enter Try.func77, Try.ntmps77
 go_wp2_with (first | ((with_reducible refine gate_dst (N := 7) rfl ?_); refine Kd.R_lit (Kd.int .i64) _ 3 ?hg (N := 7) ?hd (xs := ([] : List Int)) (inner := []) (ok := fun _ => True) (okp := fun _ => True) ?hr ?hp (fun _ hk => hk) trivial (Below.refl _ _) (Nat.le_refl _) (by simp) ?_; (case hd => rfl); (case hg => rfl); (case hr => first | (go_simp; done) | (go_simp; rfl)); (case hp => exact (Reps.none _ _)); intro v293 w3 ho4 hb hg_ hnew_; clear hg_ hnew_; (first | rw [← Ny292.out] at ho4 | (simp only [Int.reduceToNat] at ho4; rw [← Ny292.out] at ho4)); have HO294 := am (Kd.R_lower ho4 (below_size bw)); replace HB := am (below_step bw hb); clear hb ho4))
 go_loopg [5, 6] k (fun kq v5 v6 w' => ∃ (x5_1 : List Int) (x6_1 : Int), v6 = .int .i64 x6_1 ∧ Aside0 (spec_l19Without.l0 kq l0 a1 x5_1 x6_1 = some r) ∧ Aside0 (kq ≤ k) ∧ Aside0 (Kd.R (Kd.int .i64) 3 w' w.heap.size (fun _ => True) v5 x5_1) ∧ Aside0 (Below w.heap.size w w'))
 case atStart => exact ⟨(y292), (0), rr, H', ⟨Nat.le_refl _⟩, ⟨ro HO294.out⟩, ⟨bw⟩⟩
 case round =>
  clear H'
  obtain ⟨x5_1, x6_1, rfl, HA, HK1, HO_5, HB⟩ := hrel
  cases gk with
  | zero => exact absurd HA.out (by simp [spec_l19Without.l0])
  | succ k1 =>
   have H := HA.out
   clear HA
   simp only [spec_l19Without.l0] at H
   replace H := gi H; obtain ⟨c5b0, H⟩ | ⟨c5b0, H⟩ := H
   ·replace H := gd H; obtain ⟨c6b0, H⟩ := H
    by_cases c7 : (rd l0 x6_1) = a1
    ·rw [if_pos c7] at H
     have c7b0 : ((rd l0 x6_1) == a1) = true := beq_iff_eq.mpr c7
     have c7b1 : ((rd l0 x6_1) != a1) = false := bne_eq_false_iff_eq.mpr c7
     clear c7
     have H' := am H
     clear H
     obtain ⟨⟨ad295, e295, hx295_0⟩, p295, q295⟩ := pq (Kd.at_int HR0.out x6_1)
     cases e295
     replace hx295_0 := hw HB hx295_0
     go_wp2
     go_roundg k1
     case measure => have := HK1.out; omega
     case rel => exact ⟨(x5_1), (wrap64 (x6_1 + 1)), rr, H', ⟨by have := HK1.out; omega⟩, ⟨ro HO_5.out⟩, ⟨bw⟩⟩
    rw [if_neg c7] at H
    have c7b0 : ((rd l0 x6_1) == a1) = false := beq_eq_false_iff_ne.mpr c7
    have c7b1 : ((rd l0 x6_1) != a1) = true := bne_iff_ne.mpr c7
    by_cases c8 : x5_1.length < 17592186044416
    rotate_left
    ·rw [if_neg c8] at H
     exact absurd H (by simp)
    rw [if_pos c8] at H
    have LMc8 := am c8
    clear c8
    obtain ⟨y297, hy297⟩ : ∃ y_ : List Int, y_ = (x5_1 ++ [rd l0 x6_1]) := ⟨_, rfl⟩
    replace H : (spec_l19Without.l0 k1 l0 a1 y297 (wrap64 (x6_1 + 1))) = some r := by first | (rw [hy297]; with_reducible first | exact H | exact bs H) | (with_reducible first | exact bs H | exact H) | (rw [hy297]; exact H) | exact H
    have Ny297 := am hy297
    clear hy297
    have H' := am H
    clear H
    obtain ⟨⟨ad295, e295, hx295_0⟩, p295, q295⟩ := pq (Kd.at_int HR0.out x6_1)
    cases e295
    replace hx295_0 := hw HB hx295_0
    obtain ⟨⟨ad296, e296, hx296_0⟩, p296, q296⟩ := pq (Kd.at_int HR0.out x6_1)
    obtain rfl : ad295 = ad296 := (by injection e296)
    replace hx296_0 := hw HB hx296_0
    go_wp2_with (first | ((with_reducible refine gate_builtin (b := .append) (xs := #[.tmp 20, .tmp 25]) rfl ?_); at_builtin; refine Kd.R_append (Kd.int .i64) (w0 := w) w.heap.size rfl (.tmp 20) (.tmp 25) 22 3 (.int .i64 0) 8 rfl Try.underlying22 info3 rfl (by decide) (by omega) u5 x5_1 (rd l0 x6_1) [.int .i64 (rd l0 x6_1)] (fun _ => True) (fun _ => False) rfl rfl ?aP (fun _ hk => hk.elim) ?aF ?aO ?aB ?aS ?aL ?_; (case aP => exact rfl); (case aB => exact bw); (case aF => exact (fun _ _ => trivial)); (case aO => exact (ro HO_5.out)); (case aS => exact (below_size bw)); (case aL => have := LMc8.out; omega); intro v298 w9 ho hb hg hat; rw [← Ny297.out] at ho; replace HB := am (hb); have HO299 := am (ho); clear HO_5 ho hb hg hat))
    go_roundg k1
    case measure => have := HK1.out; omega
    case rel => exact ⟨(y297), (wrap64 (x6_1 + 1)), rr, H', ⟨by have := HK1.out; omega⟩, ⟨ro HO299.out⟩, ⟨bw⟩⟩
   obtain rfl := Option.some.inj H
   go_wp2
   go_ret
   exact ⟨_, re, ro HO_5.out, bw⟩


/-! ### spec_ParentOf: function 28 -/
def spec_ParentOf.f (k : Nat) (l0_0 : List Int) : Option (List Int × Bool) := (spec_FrobeniusOf.f k l0_0).bind fun t302 => (if t302 < 1 then (some (([] : List Int), false)) else ((spec_l4Gaps.f k l0_0).bind fun t303 => ((spec_l19Without.f k t303 t302).bind fun t306 => ((spec_FromGaps.f k t306).bind fun bt309 => (some (bt309.1, bt309.2))))))
set_option maxHeartbeats 8000000 in
set_option maxRecDepth 100000 in
theorem spec_ParentOf.calls (k : Nat) (A0_0 : Option Addr) (c0_0 : Nat) (l0_0 : List Int) (r1 : List Int) (r2 : Bool) (w : World) (hr0_0 : Kd.C (Kd.int .i64) w A0_0 l0_0.length l0_0) (hc0_0 : l0_0.length ≤ c0_0) (h : spec_ParentOf.f k l0_0 = some (r1, r2)) :
  Calls Try.prog 28 #[.agg #[.slice A0_0 l0_0.length c0_0]] w fun e w' => ∃ v0_ : Value, e = .returned (.tuple #[.agg #[v0_], .bool r2]) ∧ Kd.R (Kd.int .i64) 3 w' w.heap.size (fun _ => True) v0_ r1 ∧ Below w.heap.size w w' := by
 have hu27 := Try.underlying27
 have HR0_0 := am hr0_0
 have HC0_0 := am hc0_0
 clear hr0_0 hc0_0
 have HB := am (Below.refl w.heap.size w)
 have H : ((spec_FrobeniusOf.f k l0_0).bind fun t302 => (if t302 < 1 then (some (([] : List Int), false)) else ((spec_l4Gaps.f k l0_0).bind fun t303 => ((spec_l19Without.f k t303 t302).bind fun t306 => ((spec_FromGaps.f k t306).bind fun bt309 => (some (bt309.1, bt309.2))))))) = some (r1, r2) := h
 clear h
 replace H := ga H; obtain ⟨t302, A2, H⟩ := H
 replace H := gi H; obtain ⟨c3b0, H⟩ | ⟨c3b0, H⟩ := H
 ·simp only [Option.some.injEq, Prod.mk.injEq] at H
  obtain ⟨rfl, rfl⟩ := H
  go_enter Try.func28, Try.ntmps28
  go_wp2_with (first | ((with_reducible refine gate_dst (N := 1) rfl ?_); refine bx 1 #[.slice A0_0 l0_0.length c0_0] 27 ?_; intro gb300 hg w4 hbox hb; have BK300 := am (hbox); have GW300 := am (gs hg : w.heap.size ≤ gb300); have GE300 := GW300; replace HB := am (below_step bw hb); clear hb hbox hg) | ((with_reducible refine gate_dst (N := 2) rfl ?_); refine bx 2 #[.slice none 0 0] 27 ?_; intro gb301 hg w5 hbox hb; have BK301 := am (hbox); have GW301 := am (gs hg : w.heap.size ≤ gb301); have GE301 := GW301; replace HB := am (below_step bw hb); have NB300_301 := nl hg BK300; have NB301_300 := ns NB300_301; replace BK300 := kb BK300 hb; clear hb hbox hg; have hnb6 := NB300_301.out; have hnc6 := NB301_300.out; have hcz7_0 := bc BK300 0 (.slice A0_0 l0_0.length c0_0); have hfz7_0 := blk_frozen BK300.out 0) | ((with_reducible refine gate_callee (f := 65) rfl ?_); refine gl (some 8) Try.func65 #[.agg #[.slice A0_0 l0_0.length c0_0]] ?_; (with_reducible refine (spec_FrobeniusOf.calls k _ _ l0_0 t302 _ ?side1 ?side2 A2.out).mono ?_); (case side1 => exact co (Kd.C_below HR0_0.out HB.out)); (case side2 => exact HC0_0.out); rintro e w8 ⟨rfl, hb⟩; refine ⟨_, rfl, ?_⟩; replace BK300 := kb BK300 hb; replace BK301 := kb BK301 hb; replace HB := am (below_step bw hb); clear hb; have hcz9_0 := bc BK301 0 (.slice none 0 0); have hfz9_0 := blk_frozen BK301.out 0))
  refine bodyPost_ret (results_ct rfl _ _ gb301 27 #[.slice none 0 0] (0, 0) _ rfl (by (with_reducible repeat (first | refine blk_drewN ?_ _ | refine blk_drew ?_ | refine blk_alloc ?_ _)); refine blk_put (cs := #[.slice none 0 0]) ?_ 0 _ rfl; (with_reducible repeat (first | refine blk_drewN ?_ _ | refine blk_drew ?_ | refine blk_alloc ?_ _)); exact BK301.out) Try.underlying27 rfl (by kernel_rfl)) rfl ?_
  exact ⟨_, re, by first | exact Kd.R_nil _ _ _ _ _ | exact Kd.N_nil _ _ _ _ _ | exact Kd.V_nil _ _ _ _ _ | exact Kd.Q_nil _ _ _ _ _ | exact Kd.S_nil _ _ _ _ _, bw⟩
 replace H := ga H; obtain ⟨t303, A10, H⟩ := H
 replace H := ga H; obtain ⟨t306, A11, H⟩ := H
 replace H := ga H; obtain ⟨⟨t309, t312⟩, A12, H⟩ := H
 replace H : (some (t309, t312)) = some (r1, r2) := H
 simp only [Option.some.injEq, Prod.mk.injEq] at H
 obtain ⟨rfl, rfl⟩ := H
 go_enter Try.func28, Try.ntmps28
 go_wp2_with (first | ((with_reducible refine gate_dst (N := 1) rfl ?_); refine bx 1 #[.slice A0_0 l0_0.length c0_0] 27 ?_; intro gb300 hg w13 hbox hb; have BK300 := am (hbox); have GW300 := am (gs hg : w.heap.size ≤ gb300); have GE300 := GW300; replace HB := am (below_step bw hb); clear hb hbox hg) | ((with_reducible refine gate_dst (N := 2) rfl ?_); refine bx 2 #[.slice none 0 0] 27 ?_; intro gb301 hg w14 hbox hb; have BK301 := am (hbox); have GW301 := am (gs hg : w.heap.size ≤ gb301); have GE301 := GW301; replace HB := am (below_step bw hb); have NB300_301 := nl hg BK300; have NB301_300 := ns NB300_301; replace BK300 := kb BK300 hb; clear hb hbox hg; have hnb15 := NB300_301.out; have hnc15 := NB301_300.out; have hcz16_0 := bc BK300 0 (.slice A0_0 l0_0.length c0_0); have hfz16_0 := blk_frozen BK300.out 0) | ((with_reducible refine gate_callee (f := 65) rfl ?_); refine gl (some 8) Try.func65 #[.agg #[.slice A0_0 l0_0.length c0_0]] ?_; (with_reducible refine (spec_FrobeniusOf.calls k _ _ l0_0 t302 _ ?side1 ?side2 A2.out).mono ?_); (case side1 => exact co (Kd.C_below HR0_0.out HB.out)); (case side2 => exact HC0_0.out); rintro e w17 ⟨rfl, hb⟩; refine ⟨_, rfl, ?_⟩; replace BK300 := kb BK300 hb; replace BK301 := kb BK301 hb; replace HB := am (below_step bw hb); clear hb; have hcz18_0 := bc BK300 0 (.slice A0_0 l0_0.length c0_0); have hfz18_0 := blk_frozen BK300.out 0) | ((with_reducible refine gate_callee (f := 78) rfl ?_); refine gl (some 14) Try.func78 #[.agg #[.slice A0_0 l0_0.length c0_0]] ?_; (with_reducible refine (spec_l4Gaps.calls k _ _ l0_0 t303 _ ?side1 ?side2 A10.out).mono ?_); (case side1 => exact co (Kd.C_below HR0_0.out HB.out)); (case side2 => exact HC0_0.out); rintro e w19 ⟨v304, rfl, ho0, hb⟩; refine ⟨_, rfl, ?_⟩; have HO305 := am (Kd.R_lower ho0 (below_size bw)); replace BK300 := kb BK300 hb; replace BK301 := kb BK301 hb; replace HB := am (below_step bw hb); clear hb ho0; obtain ⟨Ao20, co20, eo20⟩ := Kd.R_slice HO305.out; subst eo20) | ((with_reducible refine gate_callee (f := 77) rfl ?_); refine gl (some 16) Try.func77 #[.slice Ao20 t303.length co20, .int .i64 t302] ?_; (with_reducible refine (spec_l19Without.calls k _ _ t303 t302 t306 _ ?side1 ?side2 A11.out).mono ?_); (case side1 => exact co (Kd.R_reads' HO305.out).2.2); (case side2 => exact (Kd.R_reads' HO305.out).2.1); rintro e w21 ⟨v307, rfl, ho0, hb⟩; refine ⟨_, rfl, ?_⟩; have HO308 := am (Kd.R_lower (Kd.R_new' ho0 (Kd.R_lt (ro HO305.out))) (below_size bw)); replace HO305 := am (Kd.R_elder' (ro HO305.out) (Kd.R_base ho0) hb); replace BK300 := kb BK300 hb; replace BK301 := kb BK301 hb; replace HB := am (below_step bw hb); clear hb ho0; obtain ⟨Ao22, co22, eo22⟩ := Kd.R_slice HO308.out; subst eo22) | ((with_reducible refine gate_callee (f := 74) rfl ?_); refine gl (some 17) Try.func74 #[.slice Ao22 t306.length co22] ?_; (with_reducible refine (spec_FromGaps.calls k _ _ t306 t309 t312 _ ?side1 ?side2 A12.out).mono ?_); (case side1 => exact co (Kd.R_reads' HO308.out).2.2); (case side2 => exact (Kd.R_reads' HO308.out).2.1); rintro e w23 ⟨v310, rfl, ho0, hb⟩; refine ⟨_, rfl, ?_⟩; have HO311 := am (Kd.R_lower (Kd.R_new' (Kd.R_new' ho0 (Kd.R_lt (ro HO305.out))) (Kd.R_lt (ro HO308.out))) (below_size bw)); replace HO305 := am (Kd.R_elder' (ro HO305.out) (Kd.R_base ho0) hb); replace HO308 := am (Kd.R_elder' (ro HO308.out) (Kd.R_base ho0) hb); replace BK300 := kb BK300 hb; replace BK301 := kb BK301 hb; replace HB := am (below_step bw hb); clear hb ho0) | ((with_reducible refine gate_dst (N := 5) rfl ?_); refine bx 5 #[.slice none 0 0] 27 ?_; intro gb313 hg w24 hbox hb; replace HO305 := rK HO305 hb; replace HO308 := rK HO308 hb; replace HO311 := rK HO311 hb; have BK313 := am (hbox); have GW313 := am (gs hg : w.heap.size ≤ gb313); have GE313 := GW313; replace HB := am (below_step bw hb); have NB300_313 := nl hg BK300; have NB313_300 := ns NB300_313; replace BK300 := kb BK300 hb; have NB301_313 := nl hg BK301; have NB313_301 := ns NB301_313; replace BK301 := kb BK301 hb; clear hb hbox hg; obtain ⟨Ao25, co25, eo25⟩ := Kd.R_slice HO311.out; subst eo25; have hnb26 := NB313_300.out; have hnc26 := NB300_313.out; have hnb27 := NB313_301.out; have hnc27 := NB301_313.out; have hcz28_0 := bc BK313 0 (.slice none 0 0); have hfz28_0 := blk_frozen BK313.out 0; have hcz29_0 := bc BK301 0 (.slice none 0 0); have hfz29_0 := blk_frozen BK301.out 0))
 refine bodyPost_ret (results_ct rfl _ _ gb301 27 #[.slice Ao25 t309.length co25] (0, 0) _ rfl (by (with_reducible repeat (first | refine blk_drewN ?_ _ | refine blk_drew ?_ | refine blk_alloc ?_ _)); refine blk_put (cs := #[.slice none 0 0]) ?_ 0 _ rfl; (with_reducible repeat (first | refine blk_drewN ?_ _ | refine blk_drew ?_ | refine blk_alloc ?_ _)); refine blk_far ?_ NB301_313.out _; (with_reducible repeat (first | refine blk_drewN ?_ _ | refine blk_drew ?_ | refine blk_alloc ?_ _)); exact BK301.out) Try.underlying27 rfl (by kernel_rfl)) rfl ?_
 exact ⟨_, re, by (with_reducible repeat (first | apply Kd.R_alloc | apply Kd.R_drewN | apply Kd.R_drew)); exact Kd.R_mono (Kd.R_far (p := ⟨gb301, 0, none⟩) (Kd.R_far (p := ⟨gb313, 0, none⟩) (Kd.R_types (Kd.R_types HO311.out BK313.out (by decide)) BK301.out (by decide)) (fun _ hk => by first | exact hk.1.2 | simp_all) (.slice Ao25 t309.length co25)) (fun _ hk => hk.2) (.slice Ao25 t309.length co25)) (fun _ hk => trivial), bw⟩


/-! ### spec_l3Copy: function 85 -/
def spec_l3Copy.f (l0_0 : List Int) : Option (List Int) := (some (([] : List Int) : List Int)).bind fun y316 => (if y316.length + l0_0.length < 17592186044416 then (some (y316 ++ l0_0)) else (none))
set_option maxHeartbeats 8000000 in
set_option maxRecDepth 100000 in
theorem spec_l3Copy.calls (A0_0 : Option Addr) (c0_0 : Nat) (l0_0 : List Int) (r : List Int) (w : World) (hr0_0 : Kd.C (Kd.int .i64) w A0_0 l0_0.length l0_0) (hc0_0 : l0_0.length ≤ c0_0) (h : spec_l3Copy.f l0_0 = some r) :
  Calls Try.prog 85 #[.agg #[.slice A0_0 l0_0.length c0_0]] w fun e w' => ∃ v0_ : Value, e = .returned (.agg #[v0_]) ∧ Kd.R (Kd.int .i64) 3 w' w.heap.size (fun _ => True) v0_ r ∧ Below w.heap.size w w' := by
 have hu27 := Try.underlying27
 have HR0_0 := am hr0_0
 have HC0_0 := am hc0_0
 clear hr0_0 hc0_0
 have HB := am (Below.refl w.heap.size w)
 have H : ((some (([] : List Int) : List Int)).bind fun y316 => (if y316.length + l0_0.length < 17592186044416 then (some (y316 ++ l0_0)) else (none))) = some r := h
 clear h
 obtain ⟨y316, hy316⟩ : ∃ y_ : List Int, y_ = (([] : List Int)) := ⟨_, rfl⟩
 replace H : (if y316.length + l0_0.length < 17592186044416 then (some (y316 ++ l0_0)) else (none)) = some r := by first | (rw [hy316]; with_reducible first | exact H | exact bs H) | (with_reducible first | exact bs H | exact H) | (rw [hy316]; exact H) | exact H
 have Ny316 := am hy316
 clear hy316
 by_cases c2 : y316.length + l0_0.length < 17592186044416
 rotate_left
 ·rw [if_neg c2] at H
  exact absurd H (by simp)
 rw [if_pos c2] at H
 have LMc2 := am c2
 clear c2
 obtain ⟨y319, hy319⟩ : ∃ y_ : List Int, y_ = (y316 ++ l0_0) := ⟨_, rfl⟩
 replace H : (some y319) = some r := by first | (rw [hy319]; with_reducible first | exact H | exact bs H) | (with_reducible first | exact bs H | exact H) | (rw [hy319]; exact H) | exact H
 have Ny319 := am hy319
 clear hy319
 obtain rfl := Option.some.inj H
 go_enter Try.func85, Try.ntmps85
 go_wp2_with (first | ((with_reducible refine gate_dst (N := 1) rfl ?_); refine bx 1 #[.slice A0_0 l0_0.length c0_0] 27 ?_; intro gb314 hg w3 hbox hb; have BK314 := am (hbox); have GW314 := am (gs hg : w.heap.size ≤ gb314); have GE314 := GW314; replace HB := am (below_step bw hb); clear hb hbox hg) | ((with_reducible refine gate_dst (N := 2) rfl ?_); refine bx 2 #[.slice none 0 0] 27 ?_; intro gb315 hg w4 hbox hb; have BK315 := am (hbox); have GW315 := am (gs hg : w.heap.size ≤ gb315); have GE315 := GW315; replace HB := am (below_step bw hb); have NB314_315 := nl hg BK314; have NB315_314 := ns NB314_315; replace BK314 := kb BK314 hb; clear hb hbox hg) | ((with_reducible refine gate_dst (N := 3) rfl ?_); refine Kd.R_lit (Kd.int .i64) _ 3 ?hg (N := 3) ?hd (xs := ([] : List Int)) (inner := []) (ok := fun _ => True) (okp := fun _ => True) ?hr ?hp (fun _ hk => hk) trivial (Below.refl _ _) (Nat.le_refl _) (by simp) ?_; (case hd => rfl); (case hg => rfl); (case hr => first | (go_simp; done) | (go_simp; rfl)); (case hp => exact (Reps.none _ _)); intro v317 w5 ho6 hb hg_ hnew_; clear hg_ hnew_; (first | rw [← Ny316.out] at ho6 | (simp only [Int.reduceToNat] at ho6; rw [← Ny316.out] at ho6)); have HO318 := am (Kd.R_lower ho6 (below_size bw)); replace BK314 := kb BK314 hb; replace BK315 := kb BK315 hb; replace HB := am (below_step bw hb); clear hb ho6; have hnb7 := NB314_315.out; have hnc7 := NB315_314.out; have hcz8_0 := bc BK314 0 (.slice A0_0 l0_0.length c0_0); have hfz8_0 := blk_frozen BK314.out 0) | ((with_reducible refine gate_builtin (b := .append) (xs := #[.tmp 3, .tmp 5]) rfl ?_); at_builtin; refine Kd.R_append_rows (Kd.int .i64) (w0 := w) w.heap.size rfl (.tmp 3) (.tmp 5) 22 3 (.int .i64 0) 8 rfl Try.underlying22 info3 rfl (by decide) (by omega) v317 y316 l0_0 _ _ _ (fun _ => True) (fun _ => False) rfl rfl ?aO ?aR (fun _ _ h => h) (fun _ h => h.elim) ?aF ?aB ?aS ?aL ?_; (case aR => exact co (Kd.C_below HR0_0.out HB.out)); (case aB => exact bw); (case aF => exact (fun _ _ => trivial)); (case aO => exact (ro HO318.out)); (case aS => exact (below_size bw)); (case aL => have := LMc2.out; omega); intro v320 w9 ho hb hg hat; rw [← Ny319.out] at ho; replace BK314 := am (blk_grown (g := gb314) (o := .cells #[.slice A0_0 l0_0.length c0_0] 27 (0, 0)) (bo BK314.out) hg (Kd.R_ne HO318.out BK314.out (by decide))); replace BK315 := am (blk_grown (g := gb315) (o := .cells #[.slice none 0 0] 27 (0, 0)) (bo BK315.out) hg (Kd.R_ne HO318.out BK315.out (by decide))); replace HB := am (hb); have HO321 := am (ho); clear HO318 ho hb hg hat; obtain ⟨Ao10, co10, eo10⟩ := Kd.R_slice HO321.out; subst eo10; have hcz11_0 := bc BK315 0 (.slice none 0 0); have hfz11_0 := blk_frozen BK315.out 0))
 refine bodyPost_ret (results_cell_row rfl _ _ gb315 27 #[.slice Ao10 y319.length co10] (0, 0) _ rfl (by (with_reducible repeat (first | refine blk_drewN ?_ _ | refine blk_drew ?_ | refine blk_alloc ?_ _)); refine blk_put (cs := #[.slice none 0 0]) ?_ 0 _ rfl; (with_reducible repeat (first | refine blk_drewN ?_ _ | refine blk_drew ?_ | refine blk_alloc ?_ _)); exact BK315.out) Try.underlying27 rfl (by kernel_rfl)) rfl ?_
 exact ⟨_, re, by (with_reducible repeat (first | apply Kd.R_alloc | apply Kd.R_drewN | apply Kd.R_drew)); exact Kd.R_mono (Kd.R_far (p := ⟨gb315, 0, none⟩) (Kd.R_types HO321.out BK315.out (by decide)) (fun _ hk => hk.2) (.slice Ao10 y319.length co10)) (fun _ hk => trivial), bw⟩


/-! ### spec_PathTo: function 37 -/
mutual
def spec_PathTo.l0 : Nat → List (S27) → Option ((List (S27)) × Bool)
 | 0, _ => none
 | k + 1, x4 => if 0 < (x4.length : Int) then ((spec_ParentOf.f k ((rd_T27 x4 0).f0)).bind fun bt334 => (if bt334.2 = true then (spec_PathTo.j1 k x4 bt334.2 false bt334.1) else ((spec_FrobeniusOf.f k ((rd_T27 x4 0).f0)).bind fun t340 => (spec_PathTo.j1 k x4 bt334.2 (decide (t340 ≥ 0)) bt334.1)))) else (none)
def spec_PathTo.j1 : Nat → List (S27) → Bool → Bool → List Int → Option ((List (S27)) × Bool)
 | 0, _, _, _, _ => none
 | k + 1, x4, x6, x29, x339000 => if x29 = true then (some ((([] : List (S27))), false)) else (if x6 = true then ((some (([(⟨x339000⟩ : S27)] : List (S27)) : List (S27))).bind fun y344 => (if y344.length + x4.length < 5864062014805 then (spec_PathTo.l0 k (y344 ++ x4)) else (none))) else (some (x4, true)))
end
def spec_PathTo.f (k : Nat) (l0_0 : List Int) : Option ((List (S27)) × Bool) := (spec_IsSemigroup.f k l0_0).bind fun t323 => (if t323 = true then ((spec_l3Copy.f l0_0).bind fun t327 => (spec_PathTo.l0 k (([(⟨t327⟩ : S27)] : List (S27))))) else (some ((([] : List (S27))), false)))
set_option maxHeartbeats 8000000 in
set_option maxRecDepth 100000 in
theorem spec_PathTo.calls (k : Nat) (A0_0 : Option Addr) (c0_0 : Nat) (l0_0 : List Int) (r1 : List (S27)) (r2 : Bool) (w : World) (hr0_0 : Kd.C (Kd.int .i64) w A0_0 l0_0.length l0_0) (hc0_0 : l0_0.length ≤ c0_0) (h : spec_PathTo.f k l0_0 = some (r1, r2)) :
  Calls Try.prog 37 #[.agg #[.slice A0_0 l0_0.length c0_0]] w fun e w' => ∃ v0_ : Value, e = .returned (.tuple #[v0_, .bool r2]) ∧ Kd.N k27 27 w' w.heap.size (fun k_ => (w.heap.size ≤ k_)) v0_ r1 ∧ Below w.heap.size w w' := by
 have hu27 := Try.underlying27
 have HR0_0 := am hr0_0
 have HC0_0 := am hc0_0
 clear hr0_0 hc0_0
 have HB := am (Below.refl w.heap.size w)
 have H : ((spec_IsSemigroup.f k l0_0).bind fun t323 => (if t323 = true then ((spec_l3Copy.f l0_0).bind fun t327 => (spec_PathTo.l0 k (([(⟨t327⟩ : S27)] : List (S27))))) else (some ((([] : List (S27))), false)))) = some (r1, r2) := h
 clear h
 replace H := ga H; obtain ⟨t323, A2, H⟩ := H
 replace H := gb H; obtain ⟨rfl, H⟩ | ⟨rfl, H⟩ := H
 ·replace H := ga H; obtain ⟨t327, A4, H⟩ := H
  obtain ⟨y330, hy330⟩ : ∃ y_ : List (S27), y_ = (([(⟨t327⟩ : S27)] : List (S27))) := ⟨_, rfl⟩
  replace H : (spec_PathTo.l0 k y330) = some (r1, r2) := by first | (rw [hy330]; with_reducible first | exact H | exact bs H) | (with_reducible first | exact bs H | exact H) | (rw [hy330]; exact H) | exact H
  have Ny330 := am hy330
  clear hy330
  have H' := am H
  clear H
  go_enter Try.func37, Try.ntmps37
  go_wp2_with (first | ((with_reducible refine gate_dst (N := 1) rfl ?_); refine bx 1 #[.slice A0_0 l0_0.length c0_0] 27 ?_; intro gb322 hg w5 hbox hb; have BK322 := am (hbox); have GW322 := am (gs hg : w.heap.size ≤ gb322); have GE322 := GW322; replace HB := am (below_step bw hb); clear hb hbox hg; have hcz6_0 := bc BK322 0 (.slice A0_0 l0_0.length c0_0); have hfz6_0 := blk_frozen BK322.out 0) | ((with_reducible refine gate_callee (f := 58) rfl ?_); refine gl (some 8) Try.func58 #[.agg #[.slice A0_0 l0_0.length c0_0]] ?_; (with_reducible refine (spec_IsSemigroup.calls k _ _ l0_0 true _ ?side1 ?side2 A2.out).mono ?_); (case side1 => exact co (Kd.C_below HR0_0.out HB.out)); (case side2 => exact HC0_0.out); rintro e w7 ⟨rfl, hb⟩; refine ⟨_, rfl, ?_⟩; replace BK322 := kb BK322 hb; replace HB := am (below_step bw hb); clear hb; have hcz8_0 := bc BK322 0 (.slice A0_0 l0_0.length c0_0); have hfz8_0 := blk_frozen BK322.out 0) | ((with_reducible refine gate_callee (f := 85) rfl ?_); refine gl (some 12) Try.func85 #[.agg #[.slice A0_0 l0_0.length c0_0]] ?_; (with_reducible refine (spec_l3Copy.calls _ _ l0_0 t327 _ ?side1 ?side2 A4.out).mono ?_); (case side1 => exact co (Kd.C_below HR0_0.out HB.out)); (case side2 => exact HC0_0.out); rintro e w9 ⟨v328, rfl, ho0, hb⟩; refine ⟨_, rfl, ?_⟩; have HO329 := am (Kd.R_lower (Kd.R_newM (M := fun k_ => (w.heap.size ≤ k_)) ho0 (below_size bw) (fun k_ h_ => h_)) (below_size bw)); replace BK322 := kb BK322 hb; replace HB := am (below_step bw hb); clear hb ho0; obtain ⟨Ao10, co10, eo10⟩ := Kd.R_slice HO329.out; subst eo10) | ((with_reducible refine gate_dst (N := 13) rfl ?_); refine Kd.N_lit k27 _ 27 ?hg (N' := 13) ?hd (xs := ([(⟨t327⟩ : S27)] : List (S27))) (inner := [.slice Ao10 t327.length co10]) (ok := (fun k_ => (w.heap.size ≤ k_) ∧ k_ ≠ gb322)) (okp := (fun k_ => (w.heap.size ≤ k_) ∧ k_ ≠ gb322)) ?hr ?hp (fun _ hk => hk) ((show ∀ k_, w9.heap.size ≤ k_ → (fun k_ => (w.heap.size ≤ k_) ∧ k_ ≠ gb322) k_ from fun k_ hk => ⟨(Nat.le_trans (below_size bw) hk), Kd.freshB (g := gb322) (o := .cells #[.slice A0_0 l0_0.length c0_0] 27 (0, 0)) (bo BK322.out) k_ hk⟩) _ (Nat.le_refl _)) (Below.refl _ _) (Nat.le_refl _) (by simp) ?_; (case hd => rfl); (case hg => rfl); (case hr => first | (go_simp; done) | (go_simp; rfl)); (case hp => exact (Reps.one (show Kd.FK k27 _ _ (⟨t327⟩ : S27) [.slice Ao10 t327.length co10] from (k27_mkF _ _ (⟨t327⟩ : S27) (Kd.R_reads' (Kd.R_mono (ok' := (fun k_ => (w.heap.size ≤ k_) ∧ k_ ≠ gb322)) (Kd.R_types (HO329.out) BK322.out (by decide)) (fun k_ hk => ⟨hk.1.1, hk.2⟩))).2.1 (Kd.R_F (Kd.R_mono (ok' := (fun k_ => (w.heap.size ≤ k_) ∧ k_ ≠ gb322)) (Kd.R_types (HO329.out) BK322.out (by decide)) (fun k_ hk => ⟨hk.1.1, hk.2⟩))))) (Reps.none _ _))); intro v331 w11 ho12 hb hg_ hnew_; clear hg_ hnew_; (first | rw [← Ny330.out] at ho12 | (simp only [Int.reduceToNat] at ho12; rw [← Ny330.out] at ho12)); have HO332 := am (Kd.N_lower ho12 (below_size bw)); replace BK322 := kb BK322 hb; replace HB := am (below_step bw hb); clear HO329 hb ho12))
  go_loopg [4] k (fun kq v4 w' => ∃ (x4_1 : List (S27)), Aside0 (spec_PathTo.l0 kq x4_1 = some (r1, r2)) ∧ Aside0 (kq ≤ k) ∧ Aside0 (Kd.N k27 27 w' w.heap.size (fun k_ => (w.heap.size ≤ k_) ∧ k_ ≠ gb322) v4 x4_1) ∧ Aside0 (w'.heap[gb322]? = some (.cells #[(.slice A0_0 l0_0.length c0_0)] 27 (0, 0))) ∧ Aside0 (Below w.heap.size w w'))
  case atStart => exact ⟨(y330), H', ⟨Nat.le_refl _⟩, ⟨no HO332.out⟩, ⟨bo BK322.out⟩, ⟨bw⟩⟩
  case round =>
   clear H'
   try clear hcz6_0; try clear hcz8_0; try clear hfz6_0; try clear hfz8_0
   obtain ⟨x4_1, HA, HK1, HO_4, BK322, HB⟩ := hrel
   cases gk with
   | zero => exact absurd HA.out (by simp [spec_PathTo.l0])
   | succ k1 =>
    have H := HA.out
    clear HA
    simp only [spec_PathTo.l0] at H
    replace H := gp H; obtain ⟨c13, H⟩ := H
    have c13b0 : decide (0 < (x4_1.length : Int)) = true := decide_eq_true c13
    have c13b1 : decide (0 < x4_1.length) = true := decide_eq_true (by omega)
    clear c13
    replace H := ga H; obtain ⟨⟨t334, t337⟩, A14, H⟩ := H
    replace H : (if t337 = true then (spec_PathTo.j1 k1 x4_1 t337 false t334) else ((spec_FrobeniusOf.f k1 ((rd_T27 x4_1 0).f0)).bind fun t340 => (spec_PathTo.j1 k1 x4_1 t337 (decide (t340 ≥ 0)) t334))) = some (r1, r2) := H
    have HC15 := am H
    clear H
    obtain ⟨Ao16, co16, eo16⟩ := Kd.N_slice HO_4.out
    subst eo16
    have p333 : 0 ≤ (0 : Int) := (by omega)
    have q333 : 0 < (x4_1.length : Int) := of_decide_eq_true (by first | (with_reducible assumption) | assumption)
    obtain ⟨ad333, A333_0, c333_0, e333, hx333_0, hl333_0, hi333_0⟩ := at_T27 (Kd.N_reads' HO_4.out).2.2 0 p333 q333
    cases e333
    obtain ⟨ce333, hce333, hMe333, hcc333⟩ := Kd.N_get HO_4.out z27 0 p333 (by first | exact q333 | exact of_decide_eq_true (by first | (with_reducible assumption) | assumption) | (have e_ := (Kd.N_reads' HO_4.out).1; omega))
    obtain ⟨ua333_0, uc333_0, rfl, ul333_0, ge333_0⟩ := k27_openF hMe333
    have hv333_0 := hcc333 0 _ rfl
    rw [Nat.add_zero, show (k27).sz = 1 from rfl, Nat.mul_one] at hv333_0
    replace hv333_0 := Option.some.inj (hv333_0.symm.trans hx333_0)
    injection hv333_0 with hva_ hvn_ hvc_
    rw [hva_] at ge333_0
    rw [hvc_] at ul333_0
    have HL333_0 := am (show Kd.V (Kd.int .i64) 3 _ w.heap.size _ _ ((rd_T27 x4_1 0).f0) from Kd.V_mk ul333_0 ge333_0)
    clear hva_ hvn_ hvc_ ge333_0 ul333_0
    clear hcc333 hce333
    have qi333 : (0 < x4_1.length) = True := eq_true (by omega)
    (try rw [show ((0 : Int)).toNat = 0 from rfl] at hx333_0)
    (try rw [Addr.add_zero'] at hx333_0)
    have HR333_0 := am hi333_0
    have HC333_0 := am hl333_0
    clear hi333_0 hl333_0
    replace p333 := eq_true p333
    replace q333 := eq_true q333
    go_upto_region 5 with (first | ((with_reducible refine gate_callee (f := 28) rfl ?_); refine gl (some 18) Try.func28 #[.agg #[.slice A333_0 ((rd_T27 x4_1 0).f0).length c333_0]] ?_; (with_reducible refine (spec_ParentOf.calls k1 _ _ ((rd_T27 x4_1 0).f0) t334 t337 _ ?side1 ?side2 A14.out).mono ?_); (case side1 => repeat (first | exact (by repeat (first | (with_reducible exact HR333_0.out) | (with_reducible refine Kd.C_alloc ?_ _) | (with_reducible refine Kd.C_drewN ?_ _) | (with_reducible refine Kd.C_drew ?_) | exact HR333_0.out)) | (with_reducible refine Kd.C_alloc ?_ _) | (with_reducible refine Kd.C_drewN ?_ _) | (with_reducible refine Kd.C_drew ?_))); (case side2 => exact HC333_0.out); rintro e w17 ⟨v335, rfl, ho0, hb⟩; refine ⟨_, rfl, ?_⟩; replace HO_4 := am (Kd.N_elder' (no HO_4.out) (Kd.R_base ho0) hb); replace HL333_0 := am (Kd.V_elder' (by (with_reducible repeat (first | apply Kd.V_alloc | apply Kd.V_drewN | apply Kd.V_drew)); exact HL333_0.out) (Kd.R_base ho0) hb); have HO336 := am (Kd.R_lower (Kd.R_newM (M := fun k_ => (w.heap.size ≤ k_)) ho0 (below_size bw) (fun k_ h_ => h_)) (below_size bw)); replace BK322 := kb BK322 hb; replace HR333_0 := am (Kd.C_below (by repeat (first | (with_reducible exact HR333_0.out) | (with_reducible refine Kd.C_alloc ?_ _) | (with_reducible refine Kd.C_drewN ?_ _) | (with_reducible refine Kd.C_drew ?_) | exact HR333_0.out)) hb); replace HB := am (below_step bw hb); clear hb ho0) | ((with_reducible refine gate_dst (N := 5) rfl ?_); refine bx 5 #[.slice none 0 0] 27 ?_; intro gb338 hg w18 hbox hb; replace HO_4 := am (Kd.N_below (Kd.N_elderB (no HO_4.out) gb338 (Nat.le_of_eq hg.symm)) hb); replace HL333_0 := am (Kd.V_below (Kd.V_elderB (by (with_reducible repeat (first | apply Kd.V_alloc | apply Kd.V_drewN | apply Kd.V_drew)); exact HL333_0.out) gb338 (Nat.le_of_eq hg.symm)) hb); replace HO336 := rK HO336 hb; replace HR333_0 := am (Kd.C_below (by repeat (first | (with_reducible exact HR333_0.out) | (with_reducible refine Kd.C_alloc ?_ _) | (with_reducible refine Kd.C_drewN ?_ _) | (with_reducible refine Kd.C_drew ?_) | exact HR333_0.out)) hb); have BK338 := am (hbox); have GW338 := am (gs hg : w.heap.size ≤ gb338); have GE338 := GW338; replace HB := am (below_step bw hb); have NB322_338 := nl hg BK322; have NB338_322 := ns NB322_338; replace BK322 := kb BK322 hb; clear hb hbox hg; obtain ⟨Ao19, co19, eo19⟩ := Kd.R_slice HO336.out; subst eo19; have hnb20 := NB338_322.out; have hnc20 := NB322_338.out; have hcz21_0 := bc BK338 0 (.slice none 0 0); have hfz21_0 := blk_frozen BK338.out 0) | ((with_reducible refine gate_store (t := 27) (p := 5) rfl ?_); refine store_event (t := 27) (p := 5) (v := ?vo_w22) (w1 := (w18.setCell ⟨gb338, 0, none⟩ (.slice Ao19 t334.length co19))) ?hg ?ho ?hn ?hr ?_; (case ho => rfl); (case hg => rfl); (case hn => rfl); (case hr => first | (go_simp; done) | (go_simp; rfl)); intro w22 hw; have n0_ : Aside0 (Kd.N k27 27 w22 w.heap.size (fun k_ => (w.heap.size ≤ k_) ∧ nb k_ Ao19 t334 co19 ∧ k_ ≠ gb322 ∧ k_ ≠ gb338) (.slice (some ad333) x4_1.length co16) x4_1) := ⟨(by rw [hw]; exact (by (with_reducible repeat (first | apply Kd.N_alloc | apply Kd.N_drewN | apply Kd.N_drew)); exact Kd.N_mono (Kd.N_far (p := ⟨gb338, 0, none⟩) (Kd.N_mono HO_4.out (fun k_ hk => (⟨hk, hk.2⟩ : _ ∧ k_ ≠ gb338))) (fun _ hk => hk.2) (.slice Ao19 t334.length co19)) (fun _ hk => ⟨hk.1.1.1.1, ⟨hk.1.1.2, ⟨hk.1.1.1.2, hk.1.2⟩⟩⟩)))⟩; have n1_ : Aside0 (Kd.V (Kd.int .i64) 3 w22 w.heap.size (fun k_ => (w.heap.size ≤ k_) ∧ some k_ ≠ (.slice (some ad333) x4_1.length co16 : Value).ownBlock ∧ nb k_ Ao19 t334 co19 ∧ k_ ≠ gb322 ∧ k_ ≠ gb338) (.slice A333_0 ((rd_T27 x4_1 0).f0).length c333_0) ((rd_T27 x4_1 0).f0)) := ⟨(by rw [hw]; exact (by (with_reducible repeat (first | apply Kd.V_alloc | apply Kd.V_drewN | apply Kd.V_drew)); exact Kd.V_mono (Kd.V_far (p := ⟨gb338, 0, none⟩) (Kd.V_mono HL333_0.out (fun k_ hk => (⟨hk, hk.2⟩ : _ ∧ k_ ≠ gb338))) (fun _ hk => hk.2) (.slice Ao19 t334.length co19)) (fun _ hk => ⟨hk.1.1.1.1.1, ⟨hk.1.1.1.2, ⟨hk.1.1.2, ⟨hk.1.1.1.1.2, hk.1.2⟩⟩⟩⟩)))⟩; have n2_ : Aside0 (Kd.R (Kd.int .i64) 3 w22 w.heap.size (fun k_ => (w.heap.size ≤ k_)) (.slice Ao19 t334.length co19) t334) := ⟨(by rw [hw]; exact (by (with_reducible repeat (first | apply Kd.R_alloc | apply Kd.R_drewN | apply Kd.R_drew)); exact Kd.R_mono (Kd.R_far (p := ⟨gb338, 0, none⟩) (Kd.R_types HO336.out BK338.out (by decide)) (fun _ hk => hk.2) (.slice Ao19 t334.length co19)) (fun _ hk => by first | exact hk.1.1 | simp_all)))⟩; have n3_ : Aside0 (w22.heap[gb322]? = some (.cells #[.slice A0_0 l0_0.length c0_0] 27 (0, 0))) := ⟨(by rw [hw]; exact (bf BK322.out))⟩; have n4_ : Aside0 (w22.heap[gb338]? = some (.cells #[.slice Ao19 t334.length co19] 27 (0, 0))) := ⟨(by rw [hw]; exact (by (with_reducible repeat (first | refine blk_drewN ?_ _ | refine blk_drew ?_ | refine blk_alloc ?_ _)); refine blk_put (cs := #[.slice none 0 0]) ?_ 0 _ rfl; (with_reducible repeat (first | refine blk_drewN ?_ _ | refine blk_drew ?_ | refine blk_alloc ?_ _)); exact BK338.out))⟩; have n5_ : Aside0 (Below w.heap.size w w22) := ⟨(by rw [hw]; exact bw)⟩; clear hw HO_4 HL333_0 HO336 BK322 BK338 HB; have HO_4 := n0_; have HL333_0 := n1_; have HO336 := n2_; have BK322 := n3_; have BK338 := n4_; have HB := n5_; clear n0_ n1_ n2_ n3_ n4_ n5_))
    (try simp only [Act.put, List.setIfInBounds_toArray, List.set_cons_zero, List.set_cons_succ])
    go_cut [29] (fun v29 wc => ∃ (kq : Nat) (x29_14 : Bool), v29 = .bool x29_14 ∧ Aside0 (spec_PathTo.j1 kq x4_1 t337 x29_14 t334 = some (r1, r2)) ∧ Aside0 (kq ≤ k1) ∧ Aside0 (Kd.N k27 27 wc w.heap.size (fun k_ => (w.heap.size ≤ k_) ∧ nb k_ Ao19 t334 co19 ∧ k_ ≠ gb322 ∧ k_ ≠ gb338) (.slice (some ad333) x4_1.length co16) x4_1) ∧ Aside0 (Kd.R (Kd.int .i64) 3 wc w.heap.size (fun k_ => (w.heap.size ≤ k_)) (.slice Ao19 t334.length co19) t334) ∧ Aside0 (wc.heap[gb322]? = some (.cells #[(.slice A0_0 l0_0.length c0_0)] 27 (0, 0))) ∧ Aside0 (wc.heap[gb338]? = some (.cells #[(.slice Ao19 t334.length co19)] 27 (0, 0))) ∧ Aside0 (Below w.heap.size w wc))
    case first =>
     have H := HC15.out
     clear HC15
     replace H := gb H; obtain ⟨rfl, H⟩ | ⟨rfl, H⟩ := H
     ·have H' := am H
      clear H
      go_wp2
      any_goals (first | (exfalso; have h_ := of_decide_eq_true c13b1; contradiction) | skip)
      go_meet
      case rel => exact ⟨_, (false), rr, H', ⟨by have := HK1.out; first | omega | exact Nat.le_refl _⟩, ⟨no HO_4.out⟩, ⟨ro HO336.out⟩, ⟨bo BK322.out⟩, ⟨bo BK338.out⟩, ⟨bw⟩⟩
     replace H := ga H; obtain ⟨t340, A24, H⟩ := H
     have H' := am H
     clear H
     have p339 : 0 ≤ (0 : Int) := (by omega)
     have q339 : 0 < (x4_1.length : Int) := of_decide_eq_true (by first | (with_reducible assumption) | assumption)
     obtain ⟨ad339, A339_0, c339_0, e339, hx339_0, hl339_0, hi339_0⟩ := at_T27 (Kd.N_reads' HO_4.out).2.2 0 p339 q339
     obtain rfl : ad333 = ad339 := (by injection e339)
     obtain ⟨ce339, hce339, hMe339, hcc339⟩ := Kd.N_get HO_4.out z27 0 p339 (by first | exact q339 | exact of_decide_eq_true (by first | (with_reducible assumption) | assumption) | (have e_ := (Kd.N_reads' HO_4.out).1; omega))
     obtain ⟨ua339_0, uc339_0, rfl, ul339_0, ge339_0⟩ := k27_openF hMe339
     have hv339_0 := hcc339 0 _ rfl
     rw [Nat.add_zero, show (k27).sz = 1 from rfl, Nat.mul_one] at hv339_0
     replace hv339_0 := Option.some.inj (hv339_0.symm.trans hx339_0)
     injection hv339_0 with hva_ hvn_ hvc_
     rw [hva_] at ge339_0
     rw [hvc_] at ul339_0
     have HL339_0 := am (show Kd.V (Kd.int .i64) 3 _ w.heap.size _ _ ((rd_T27 x4_1 0).f0) from Kd.V_mk ul339_0 ge339_0)
     clear hva_ hvn_ hvc_ ge339_0 ul339_0
     clear hcc339 hce339
     have qi339 : (0 < x4_1.length) = True := eq_true (by omega)
     (try rw [show ((0 : Int)).toNat = 0 from rfl] at hx339_0)
     (try rw [Addr.add_zero'] at hx339_0)
     have HR339_0 := am hi339_0
     have HC339_0 := am hl339_0
     clear hi339_0 hl339_0
     replace p339 := eq_true p339
     replace q339 := eq_true q339
     go_wp2_with (first | (go_at_call 65; (with_reducible refine (spec_FrobeniusOf.calls k1 _ _ ((rd_T27 x4_1 0).f0) t340 _ ?side1 ?side2 A24.out).mono ?_); (case side1 => repeat (first | exact (by repeat (first | (with_reducible exact HR339_0.out) | (with_reducible refine Kd.C_alloc ?_ _) | (with_reducible refine Kd.C_drewN ?_ _) | (with_reducible refine Kd.C_drew ?_) | exact HR339_0.out)) | (with_reducible refine Kd.C_alloc ?_ _) | (with_reducible refine Kd.C_drewN ?_ _) | (with_reducible refine Kd.C_drew ?_))); (case side2 => exact HC339_0.out); rintro e w25 ⟨rfl, hb⟩; replace HO_4 := nK HO_4 hb; replace HL333_0 := am (Kd.V_below (by (with_reducible repeat (first | apply Kd.V_alloc | apply Kd.V_drewN | apply Kd.V_drew)); exact HL333_0.out) hb); replace HO336 := rK HO336 hb; replace HL339_0 := am (Kd.V_below (by (with_reducible repeat (first | apply Kd.V_alloc | apply Kd.V_drewN | apply Kd.V_drew)); exact HL339_0.out) hb); replace BK322 := kb BK322 hb; replace BK338 := kb BK338 hb; replace HR339_0 := am (Kd.C_below (by repeat (first | (with_reducible exact HR339_0.out) | (with_reducible refine Kd.C_alloc ?_ _) | (with_reducible refine Kd.C_drewN ?_ _) | (with_reducible refine Kd.C_drew ?_) | exact HR339_0.out)) hb); replace HB := am (below_step bw hb); clear hb))
     go_meet
     case rel => exact ⟨_, (decide (t340 ≥ 0)), rr, H', ⟨by have := HK1.out; first | omega | exact Nat.le_refl _⟩, ⟨no HO_4.out⟩, ⟨ro HO336.out⟩, ⟨bo BK322.out⟩, ⟨bo BK338.out⟩, ⟨bw⟩⟩
    case rest =>
     clear HC15
     try clear c13; try clear c13b0; try clear c13b1; try clear hcz21_0; try clear hcz6_0; try clear hcz8_0; try clear hfz21_0; try clear hfz6_0; try clear hfz8_0; try clear hx333_0; try clear hx339_0; try clear p333; try clear p339; try clear q333; try clear q339
     obtain ⟨kq, x29_14, rfl, HA, HJ14, HO_4, HO_339000, BK322, BK338, HB⟩ := hcut
     cases kq with
     | zero => exact absurd HA.out (by simp [spec_PathTo.j1])
     | succ kj14 =>
      have H := HA.out
      clear HA
      simp only [spec_PathTo.j1] at H
      replace H := gb H; obtain ⟨rfl, H⟩ | ⟨rfl, H⟩ := H
      ·obtain ⟨y341, hy341⟩ : ∃ y_ : List (S27), y_ = (([] : List (S27))) := ⟨_, rfl⟩
       replace H : (some (y341, false)) = some (r1, r2) := by first | (rw [hy341]; with_reducible first | exact H | exact bs H) | (with_reducible first | exact bs H | exact H) | (rw [hy341]; exact H) | exact H
       have Ny341 := am hy341
       clear hy341
       simp only [Option.some.injEq, Prod.mk.injEq] at H
       obtain ⟨rfl, rfl⟩ := H
       go_wp2_with (first | ((with_reducible refine gate_dst (N := 30) rfl ?_); refine Kd.N_lit k27 _ 27 ?hg (N' := 30) ?hd (xs := ([] : List (S27))) (inner := []) (ok := (fun k_ => (w.heap.size ≤ k_) ∧ some k_ ≠ (.slice (some ad333) x4_1.length co16 : Value).ownBlock ∧ nb k_ Ao19 t334 co19 ∧ k_ ≠ gb322 ∧ k_ ≠ gb338)) (okp := (fun k_ => (w.heap.size ≤ k_) ∧ some k_ ≠ (.slice (some ad333) x4_1.length co16 : Value).ownBlock ∧ nb k_ Ao19 t334 co19 ∧ k_ ≠ gb322 ∧ k_ ≠ gb338)) ?hr ?hp (fun _ hk => hk) ((show ∀ k_, wc.heap.size ≤ k_ → (fun k_ => (w.heap.size ≤ k_) ∧ some k_ ≠ (.slice (some ad333) x4_1.length co16 : Value).ownBlock ∧ nb k_ Ao19 t334 co19 ∧ k_ ≠ gb322 ∧ k_ ≠ gb338) k_ from fun k_ hk => ⟨(Nat.le_trans (below_size bw) hk), Kd.fresh' (Kd.N_lt (no HO_4.out)) k_ hk, Kd.fresh' (Kd.R_lt (ro HO_339000.out)) k_ hk, Kd.freshB (g := gb322) (o := .cells #[.slice A0_0 l0_0.length c0_0] 27 (0, 0)) (bo BK322.out) k_ hk, Kd.freshB (g := gb338) (o := .cells #[.slice Ao19 t334.length co19] 27 (0, 0)) (bo BK338.out) k_ hk⟩) _ (Nat.le_refl _)) (Below.refl _ _) (Nat.le_refl _) (by simp) ?_; (case hd => rfl); (case hg => rfl); (case hr => first | (go_simp; done) | (go_simp; rfl)); (case hp => exact (Reps.none _ _)); intro v342 w27 ho28 hb hg_ hnew_; clear hg_ hnew_; (first | rw [← Ny341.out] at ho28 | (simp only [Int.reduceToNat] at ho28; rw [← Ny341.out] at ho28)); replace HO_4 := am (Kd.N_elder' (no HO_4.out) (Kd.N_base ho28) hb); replace HO_339000 := rK HO_339000 hb; have HO343 := am (Kd.N_lower ho28 (below_size bw)); replace BK322 := kb BK322 hb; replace BK338 := kb BK338 hb; replace HB := am (below_step bw hb); clear hb ho28))
       go_ret2
       exact ⟨_, re, by (with_reducible repeat (first | apply Kd.N_alloc | apply Kd.N_drewN | apply Kd.N_drew)); exact Kd.N_mono HO343.out (fun _ hk => hk.1), bw⟩
      replace H := gb H; obtain ⟨rfl, H⟩ | ⟨rfl, H⟩ := H
      ·obtain ⟨y344, hy344⟩ : ∃ y_ : List (S27), y_ = (([(⟨t334⟩ : S27)] : List (S27))) := ⟨_, rfl⟩
       replace H : (if y344.length + x4_1.length < 5864062014805 then (spec_PathTo.l0 kj14 (y344 ++ x4_1)) else (none)) = some (r1, r2) := by first | (rw [hy344]; with_reducible first | exact H | exact bs H) | (with_reducible first | exact bs H | exact H) | (rw [hy344]; exact H) | exact H
       have Ny344 := am hy344
       clear hy344
       by_cases c30 : y344.length + x4_1.length < 5864062014805
       rotate_left
       ·rw [if_neg c30] at H
        exact absurd H (by simp)
       rw [if_pos c30] at H
       have LMc30 := am c30
       clear c30
       obtain ⟨y347, hy347⟩ : ∃ y_ : List (S27), y_ = (y344 ++ x4_1) := ⟨_, rfl⟩
       replace H : (spec_PathTo.l0 kj14 y347) = some (r1, r2) := by first | (rw [hy347]; with_reducible first | exact H | exact bs H) | (with_reducible first | exact bs H | exact H) | (rw [hy347]; exact H) | exact H
       have Ny347 := am hy347
       clear hy347
       have H' := am H
       clear H
       have hnb31 := NB338_322.out
       have hnc31 := NB322_338.out
       have hcz32_0 := bc BK338 0 (.slice Ao19 t334.length co19)
       have hfz32_0 := blk_frozen BK338.out 0
       go_wp2_with (first | ((with_reducible refine gate_dst (N := 35) rfl ?_); refine Kd.N_lit k27 _ 27 ?hg (N' := 35) ?hd (xs := ([(⟨t334⟩ : S27)] : List (S27))) (inner := [.slice Ao19 t334.length co19]) (ok := (fun k_ => (w.heap.size ≤ k_) ∧ some k_ ≠ (.slice (some ad333) x4_1.length co16 : Value).ownBlock ∧ k_ ≠ gb322 ∧ k_ ≠ gb338)) (okp := (fun k_ => (w.heap.size ≤ k_) ∧ some k_ ≠ (.slice (some ad333) x4_1.length co16 : Value).ownBlock ∧ k_ ≠ gb322 ∧ k_ ≠ gb338)) ?hr ?hp (fun _ hk => hk) ((show ∀ k_, wc.heap.size ≤ k_ → (fun k_ => (w.heap.size ≤ k_) ∧ some k_ ≠ (.slice (some ad333) x4_1.length co16 : Value).ownBlock ∧ k_ ≠ gb322 ∧ k_ ≠ gb338) k_ from fun k_ hk => ⟨(Nat.le_trans (below_size bw) hk), Kd.fresh' (Kd.N_lt (no HO_4.out)) k_ hk, Kd.freshB (g := gb322) (o := .cells #[.slice A0_0 l0_0.length c0_0] 27 (0, 0)) (bo BK322.out) k_ hk, Kd.freshB (g := gb338) (o := .cells #[.slice Ao19 t334.length co19] 27 (0, 0)) (bo BK338.out) k_ hk⟩) _ (Nat.le_refl _)) (Below.refl _ _) (Nat.le_refl _) (by simp) ?_; (case hd => rfl); (case hg => rfl); (case hr => first | (go_simp; done) | (go_simp; rfl)); (case hp => exact (Reps.one (show Kd.FK k27 _ _ (⟨t334⟩ : S27) [.slice Ao19 t334.length co19] from (k27_mkF _ _ (⟨t334⟩ : S27) (Kd.R_reads' (Kd.R_mono (ok' := (fun k_ => (w.heap.size ≤ k_) ∧ some k_ ≠ (.slice (some ad333) x4_1.length co16 : Value).ownBlock ∧ k_ ≠ gb322 ∧ k_ ≠ gb338)) (Kd.R_types (Kd.R_types (Kd.R_apart' (HO_339000.out) (Kd.N_typed HO_4.out) (by decide)) BK322.out (by decide)) BK338.out (by decide)) (fun k_ hk => ⟨hk.1.1.1, ⟨hk.1.1.2, ⟨hk.1.2, hk.2⟩⟩⟩))).2.1 (Kd.R_F (Kd.R_mono (ok' := (fun k_ => (w.heap.size ≤ k_) ∧ some k_ ≠ (.slice (some ad333) x4_1.length co16 : Value).ownBlock ∧ k_ ≠ gb322 ∧ k_ ≠ gb338)) (Kd.R_types (Kd.R_types (Kd.R_apart' (HO_339000.out) (Kd.N_typed HO_4.out) (by decide)) BK322.out (by decide)) BK338.out (by decide)) (fun k_ hk => ⟨hk.1.1.1, ⟨hk.1.1.2, ⟨hk.1.2, hk.2⟩⟩⟩))))) (Reps.none _ _))); intro v345 w33 ho34 hb hg_ hnew_; clear hg_ hnew_; (first | rw [← Ny344.out] at ho34 | (simp only [Int.reduceToNat] at ho34; rw [← Ny344.out] at ho34)); replace HO_4 := am (Kd.N_elder' (no HO_4.out) (Kd.N_base ho34) hb); have HO346 := am (Kd.N_lower ho34 (below_size bw)); replace BK322 := kb BK322 hb; replace BK338 := kb BK338 hb; replace HB := am (below_step bw hb); clear HO_339000 hb ho34) | ((with_reducible refine gate_builtin (b := .append) (xs := #[.tmp 35, .tmp 36]) rfl ?_); at_builtin; refine Kd.N_append_rows k27 (w0 := w) w.heap.size rfl (.tmp 35) (.tmp 36) 44 27 (.agg #[(.slice none 0 0)]) 24 rfl Try.underlying44 info27 rfl (by decide) (by omega) v345 y344 x4_1 _ _ _ (fun k_ => (w.heap.size ≤ k_) ∧ k_ ≠ gb322 ∧ k_ ≠ gb338) (fun k_ => ((fun k_ => (w.heap.size ≤ k_) ∧ k_ ≠ gb322 ∧ k_ ≠ gb338)) k_ ∧ some k_ ≠ (v345 : Value).ownBlock) rfl rfl ?aO ?aR (fun _ hk => hk) ?aF ?aB ?aS ?aL ?_; (case aR => exact (by skip; exact Kd.N_F (Kd.N_mono (ok' := (fun k_ => ((fun k_ => (w.heap.size ≤ k_) ∧ k_ ≠ gb322 ∧ k_ ≠ gb338)) k_ ∧ some k_ ≠ (v345 : Value).ownBlock)) (HO_4.out) (fun k_ hk => ⟨⟨hk.1.1, ⟨hk.1.2.2.1, hk.1.2.2.2⟩⟩, hk.2⟩)))); (case aB => exact bw); (case aF => exact (fun k_ hk => ⟨(Nat.le_trans (below_size bw) hk), Kd.freshB (g := gb322) (o := .cells #[.slice A0_0 l0_0.length c0_0] 27 (0, 0)) (bo BK322.out) k_ hk, Kd.freshB (g := gb338) (o := .cells #[.slice Ao19 t334.length co19] 27 (0, 0)) (bo BK338.out) k_ hk⟩)); (case aO => exact (by (with_reducible repeat (first | apply Kd.N_alloc | apply Kd.N_drewN | apply Kd.N_drew)); exact Kd.N_mono HO346.out (fun _ hk => ⟨hk.1, ⟨hk.2.2.1, hk.2.2.2⟩⟩))); (case aS => exact (below_size bw)); (case aL => have := LMc30.out; omega); intro v348 w35 ho hb hg hat; rw [← Ny347.out] at ho; replace HO_4 := am (Kd.N_afterv (ok := (fun k_ => (w.heap.size ≤ k_) ∧ k_ ≠ gb322 ∧ k_ ≠ gb338)) (by (with_reducible repeat (first | apply Kd.N_alloc | apply Kd.N_drewN | apply Kd.N_drew)); exact Kd.N_mono HO_4.out (fun _ hk => ⟨⟨hk.1.1, ⟨hk.1.2.2.1, hk.1.2.2.2⟩⟩, hk.2⟩)) hg hat); replace BK322 := am (blk_grown (g := gb322) (o := .cells #[.slice A0_0 l0_0.length c0_0] 27 (0, 0)) (bo BK322.out) hg (Kd.N_away HO346.out (fun _ hk => by first | exact hk.2.2.1 | simp_all))); replace BK338 := am (blk_grown (g := gb338) (o := .cells #[.slice Ao19 t334.length co19] 27 (0, 0)) (bo BK338.out) hg (Kd.N_away HO346.out (fun _ hk => by first | exact hk.2.2.2 | simp_all))); replace HB := am (hb); have HO349 := am (ho); clear HO346 ho hb hg hat))
       go_roundg kj14
       case measure => have := HK1.out; have := HJ14.out; omega
       case rel => exact ⟨(y347), H', ⟨by have := HK1.out; have := HJ14.out; omega⟩, ⟨by (with_reducible repeat (first | apply Kd.N_alloc | apply Kd.N_drewN | apply Kd.N_drew)); exact Kd.N_mono HO349.out (fun _ hk => by first | exact ⟨hk.1, hk.2.1⟩ | simp_all)⟩, ⟨bo BK322.out⟩, ⟨bw⟩⟩
      simp only [Option.some.injEq, Prod.mk.injEq] at H
      obtain ⟨rfl, rfl⟩ := H
      go_wp2
      go_ret2
      exact ⟨_, re, by (with_reducible repeat (first | apply Kd.N_alloc | apply Kd.N_drewN | apply Kd.N_drew)); exact Kd.N_mono HO_4.out (fun _ hk => hk.1), bw⟩
 obtain ⟨y324, hy324⟩ : ∃ y_ : List (S27), y_ = (([] : List (S27))) := ⟨_, rfl⟩
 replace H : (some (y324, false)) = some (r1, r2) := by first | (rw [hy324]; with_reducible first | exact H | exact bs H) | (with_reducible first | exact bs H | exact H) | (rw [hy324]; exact H) | exact H
 have Ny324 := am hy324
 clear hy324
 simp only [Option.some.injEq, Prod.mk.injEq] at H
 obtain ⟨rfl, rfl⟩ := H
 go_enter Try.func37, Try.ntmps37
 go_wp2_with (first | ((with_reducible refine gate_dst (N := 1) rfl ?_); refine bx 1 #[.slice A0_0 l0_0.length c0_0] 27 ?_; intro gb322 hg w36 hbox hb; have BK322 := am (hbox); have GW322 := am (gs hg : w.heap.size ≤ gb322); have GE322 := GW322; replace HB := am (below_step bw hb); clear hb hbox hg; have hcz37_0 := bc BK322 0 (.slice A0_0 l0_0.length c0_0); have hfz37_0 := blk_frozen BK322.out 0) | ((with_reducible refine gate_callee (f := 58) rfl ?_); refine gl (some 8) Try.func58 #[.agg #[.slice A0_0 l0_0.length c0_0]] ?_; (with_reducible refine (spec_IsSemigroup.calls k _ _ l0_0 false _ ?side1 ?side2 A2.out).mono ?_); (case side1 => exact co (Kd.C_below HR0_0.out HB.out)); (case side2 => exact HC0_0.out); rintro e w38 ⟨rfl, hb⟩; refine ⟨_, rfl, ?_⟩; replace BK322 := kb BK322 hb; replace HB := am (below_step bw hb); clear hb) | ((with_reducible refine gate_dst (N := 10) rfl ?_); refine Kd.N_lit k27 _ 27 ?hg (N' := 10) ?hd (xs := ([] : List (S27))) (inner := []) (ok := (fun k_ => (w.heap.size ≤ k_) ∧ k_ ≠ gb322)) (okp := (fun k_ => (w.heap.size ≤ k_) ∧ k_ ≠ gb322)) ?hr ?hp (fun _ hk => hk) ((show ∀ k_, w38.heap.size ≤ k_ → (fun k_ => (w.heap.size ≤ k_) ∧ k_ ≠ gb322) k_ from fun k_ hk => ⟨(Nat.le_trans (below_size bw) hk), Kd.freshB (g := gb322) (o := .cells #[.slice A0_0 l0_0.length c0_0] 27 (0, 0)) (bo BK322.out) k_ hk⟩) _ (Nat.le_refl _)) (Below.refl _ _) (Nat.le_refl _) (by simp) ?_; (case hd => rfl); (case hg => rfl); (case hr => first | (go_simp; done) | (go_simp; rfl)); (case hp => exact (Reps.none _ _)); intro v325 w39 ho40 hb hg_ hnew_; clear hg_ hnew_; (first | rw [← Ny324.out] at ho40 | (simp only [Int.reduceToNat] at ho40; rw [← Ny324.out] at ho40)); have HO326 := am (Kd.N_lower ho40 (below_size bw)); replace BK322 := kb BK322 hb; replace HB := am (below_step bw hb); clear hb ho40))
 go_ret2
 exact ⟨_, re, by (with_reducible repeat (first | apply Kd.N_alloc | apply Kd.N_drewN | apply Kd.N_drew)); exact Kd.N_mono HO326.out (fun _ hk => hk.1), bw⟩


/-! ### impl_within: function 63 -/
def impl_within.f (a0 : Int) (a1 : Int) (a2 : Int) : Option (Bool) := if a0 ≥ a1 then (some (decide (a0 ≤ a2))) else (some false)
set_option maxHeartbeats 8000000 in
set_option maxRecDepth 100000 in
theorem impl_within.calls (a0 : Int) (a1 : Int) (a2 : Int) (r : Bool) (w : World) (h : impl_within.f a0 a1 a2 = some r) :
  Calls Try.prog 63 #[.int .i64 a0, .int .i64 a1, .int .i64 a2] w fun e w' => e = .returned (.bool r) ∧ Drawn0 w w' := by
 have H : (if a0 ≥ a1 then (some (decide (a0 ≤ a2))) else (some false)) = some r := h
 clear h
 replace H := gj H; obtain ⟨c4, H⟩ | ⟨c4, H⟩ := H
 ·have c4b0 : decide (a1 ≤ a0) = true := decide_eq_true c4
  clear c4
  obtain rfl := Option.some.inj H
  go_enter Try.func63, Try.ntmps63
  go_wp2
  go_ret
  exact ⟨rr, dw⟩
 have c4b0 : decide (a1 ≤ a0) = false := decide_eq_false c4
 clear c4
 obtain rfl := Option.some.inj H
 go_enter Try.func63, Try.ntmps63
 go_wp2
 go_ret
 exact ⟨rr, dw⟩


/-! ### impl_allWithin: function 112 -/
def impl_allWithin.l0 : Nat → Int → Int → List Int → Int → Int → Option (Bool)
 | 0, _, _, _, _, _ => none
 | k + 1, x1, x2, x9, x10, x11 => if x11 < x10 then (if 0 ≤ x11 then (if x11 < (x9.length : Int) then ((impl_within.f (rd x9 x11) x1 x2).bind fun t351 => (if t351 = true then (impl_allWithin.l0 k x1 x2 x9 x10 (wrap64 (x11 + 1))) else (some false))) else (none)) else (none)) else (some true)
def impl_allWithin.f (k : Nat) (l0 : List Int) (a1 : Int) (a2 : Int) : Option (Bool) := impl_allWithin.l0 k a1 a2 l0 (l0.length : Int) 0
set_option maxHeartbeats 8000000 in
set_option maxRecDepth 100000 in
theorem impl_allWithin.calls (k : Nat) (A0 : Option Addr) (c0 : Nat) (l0 : List Int) (a1 : Int) (a2 : Int) (r : Bool) (w : World) (hr0 : Kd.C (Kd.int .i64) w A0 l0.length l0) (hc0 : l0.length ≤ c0) (h : impl_allWithin.f k l0 a1 a2 = some r) :
  Calls Try.prog 112 #[.slice A0 l0.length c0, .int .i64 a1, .int .i64 a2] w fun e w' => e = .returned (.bool r) ∧ Drawn0 w w' := by
 have HR0 := am hr0
 have HC0 := am hc0
 clear hr0 hc0
 have H : (impl_allWithin.l0 k a1 a2 l0 (l0.length : Int) 0) = some r := h
 clear h
 have H' := am H
 clear H
 go_enter Try.func112, Try.ntmps112
 go_wp2
 go_loopg [11] k (fun kq v11 w' => ∃ (x11_1 : Int), v11 = .int .i64 x11_1 ∧ Aside0 (impl_allWithin.l0 kq a1 a2 l0 (l0.length : Int) x11_1 = some r) ∧ Aside0 (kq ≤ k) ∧ Drawn0 w w')
 case atStart => exact ⟨(0), rr, H', ⟨Nat.le_refl _⟩, dw⟩
 case round =>
  clear H'
  obtain ⟨x11_1, rfl, HA, HK1, ⟨m1, rfl⟩⟩ := hrel
  cases gk with
  | zero => exact absurd HA.out (by simp [impl_allWithin.l0])
  | succ k1 =>
   have H := HA.out
   clear HA
   simp only [impl_allWithin.l0] at H
   replace H := gi H; obtain ⟨c4b0, H⟩ | ⟨c4b0, H⟩ := H
   ·replace H := gd H; obtain ⟨c5b0, H⟩ := H
    replace H := gd H; obtain ⟨c6b0, H⟩ := H
    replace H := ga H; obtain ⟨t351, A7, H⟩ := H
    replace H := gb H; obtain ⟨rfl, H⟩ | ⟨rfl, H⟩ := H
    ·have H' := am H
     clear H
     obtain ⟨⟨ad350, e350, hx350_0⟩, p350, q350⟩ := pq (Kd.at_int HR0.out x11_1)
     cases e350
     go_wp2_with (first | ((with_reducible refine gate_callee (f := 63) rfl ?_); refine gl (some 18) Try.func63 #[.int .i64 (rd l0 x11_1), .int .i64 a1, .int .i64 a2] ?_; (with_reducible refine (impl_within.calls (rd l0 x11_1) a1 a2 true _ A7.out).mono ?_); rintro e w' ⟨rfl, ⟨nd, rfl⟩⟩; refine ⟨_, rfl, ?_⟩))
     go_roundg k1
     case measure => have := HK1.out; omega
     case rel => exact ⟨(wrap64 (x11_1 + 1)), rr, H', ⟨by have := HK1.out; omega⟩, dw⟩
    obtain rfl := Option.some.inj H
    obtain ⟨⟨ad350, e350, hx350_0⟩, p350, q350⟩ := pq (Kd.at_int HR0.out x11_1)
    cases e350
    go_wp2_with (first | ((with_reducible refine gate_callee (f := 63) rfl ?_); refine gl (some 18) Try.func63 #[.int .i64 (rd l0 x11_1), .int .i64 a1, .int .i64 a2] ?_; (with_reducible refine (impl_within.calls (rd l0 x11_1) a1 a2 false _ A7.out).mono ?_); rintro e w' ⟨rfl, ⟨nd, rfl⟩⟩; refine ⟨_, rfl, ?_⟩))
    go_ret
    exact ⟨rr, dw⟩
   obtain rfl := Option.some.inj H
   go_wp2
   go_ret
   exact ⟨rr, dw⟩


/-! ### impl_IsAscending: function 113 -/
def impl_IsAscending.l0 : Nat → List Int → Int → Option (Bool)
 | 0, _, _ => none
 | k + 1, x0, x3 => if x3 < (x0.length : Int) then (if 0 ≤ x3 then (if 0 ≤ (wrap64 (x3 - 1)) then (if (wrap64 (x3 - 1)) < (x0.length : Int) then (if (rd x0 x3) ≤ (rd x0 (wrap64 (x3 - 1))) then (some false) else (impl_IsAscending.l0 k x0 (wrap64 (x3 + 1)))) else (none)) else (none)) else (none)) else (some true)
def impl_IsAscending.f (k : Nat) (l0 : List Int) : Option (Bool) := impl_IsAscending.l0 k l0 1
set_option maxHeartbeats 8000000 in
set_option maxRecDepth 100000 in
theorem impl_IsAscending.calls (k : Nat) (A0 : Option Addr) (c0 : Nat) (l0 : List Int) (r : Bool) (w : World) (hr0 : Kd.C (Kd.int .i64) w A0 l0.length l0) (hc0 : l0.length ≤ c0) (h : impl_IsAscending.f k l0 = some r) :
  Calls Try.prog 113 #[.slice A0 l0.length c0] w fun e w' => e = .returned (.bool r) ∧ Drawn0 w w' := by
 have HR0 := am hr0
 have HC0 := am hc0
 clear hr0 hc0
 have H : (impl_IsAscending.l0 k l0 1) = some r := h
 clear h
 have H' := am H
 clear H
 go_enter Try.func113, Try.ntmps113
 go_wp2
 repeat (go_quiet (fail); try go_wp2)
 go_loopg [3] k (fun kq v3 w' => ∃ (x3_1 : Int), v3 = .int .i64 x3_1 ∧ Aside0 (impl_IsAscending.l0 kq l0 x3_1 = some r) ∧ Aside0 (kq ≤ k) ∧ Drawn0 w w')
 case atStart => exact ⟨(1), rr, H', ⟨Nat.le_refl _⟩, dw⟩
 case round =>
  clear H'
  obtain ⟨x3_1, rfl, HA, HK1, ⟨m1, rfl⟩⟩ := hrel
  cases gk with
  | zero => exact absurd HA.out (by simp [impl_IsAscending.l0])
  | succ k1 =>
   have H := HA.out
   clear HA
   simp only [impl_IsAscending.l0] at H
   replace H := gi H; obtain ⟨c2b0, H⟩ | ⟨c2b0, H⟩ := H
   ·replace H := gd H; obtain ⟨c3b0, H⟩ := H
    obtain ⟨ji4, hji4⟩ : ∃ j_ : Int, (wrap64 (x3_1 - 1)) = j_ := ⟨_, rfl⟩
    replace H : (if 0 ≤ (ji4) then (if (ji4) < (l0.length : Int) then (if (rd l0 x3_1) ≤ (rd l0 (ji4)) then (some false) else (impl_IsAscending.l0 k1 l0 (wrap64 (x3_1 + 1)))) else (none)) else (none)) = some r := by first | (rw [hji4] at H; exact H) | (simp only [hji4] at H ⊢; exact H)
    have hji4w : (IntKind.i64.wrap (x3_1 - 1)) = ji4 := (i64_w _).trans hji4
    replace H := gd H; obtain ⟨c5b0, H⟩ := H
    replace H := gd H; obtain ⟨c6b0, H⟩ := H
    replace H := gi H; obtain ⟨c7b0, H⟩ | ⟨c7b0, H⟩ := H
    ·obtain rfl := Option.some.inj H
     obtain ⟨⟨ad352, e352, hx352_0⟩, p352, q352⟩ := pq (Kd.at_int HR0.out x3_1)
     cases e352
     obtain ⟨⟨ad353, e353, hx353_0⟩, p353, q353⟩ := pq (Kd.at_int HR0.out (ji4))
     obtain rfl : ad352 = ad353 := (by injection e353)
     go_wp2
     repeat (go_quiet (fail); try go_wp2)
     go_ret
     exact ⟨by first | rfl | (simp; done) | (simp only [← hji4] <;> (first | rfl | simp)) | (simp [*]; done), dw⟩
    have H' := am H
    clear H
    obtain ⟨⟨ad352, e352, hx352_0⟩, p352, q352⟩ := pq (Kd.at_int HR0.out x3_1)
    cases e352
    obtain ⟨⟨ad353, e353, hx353_0⟩, p353, q353⟩ := pq (Kd.at_int HR0.out (ji4))
    obtain rfl : ad352 = ad353 := (by injection e353)
    go_wp2
    repeat (go_quiet (fail); try go_wp2)
    go_roundg k1
    case measure => have := HK1.out; omega
    case rel => exact ⟨(wrap64 (x3_1 + 1)), rr, H', ⟨by have := HK1.out; omega⟩, dw⟩
   obtain rfl := Option.some.inj H
   go_wp2
   repeat (go_quiet (fail); try go_wp2)
   go_ret
   exact ⟨rr, dw⟩

end Go.Proofs.Ytlfdipnhlmjiaaa.C
