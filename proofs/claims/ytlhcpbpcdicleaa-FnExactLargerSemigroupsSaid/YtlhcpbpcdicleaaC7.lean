/- Contracts of functions of the program: spec_l19Without, spec_AddGap, spec_LargerSemigroups, impl_gapList. -/
import Derived.Test.YtlhcpbpcdicleaaC0
import Derived.Test.YtlhcpbpcdicleaaC1
import Derived.Test.YtlhcpbpcdicleaaC2
import Derived.Test.YtlhcpbpcdicleaaC3
import Derived.Test.YtlhcpbpcdicleaaC4
import Derived.Test.YtlhcpbpcdicleaaC5
import Derived.Test.YtlhcpbpcdicleaaC6
namespace Go.Proofs.Ytlhcpbpcdicleaa.C
open Go.RowKit Go.Proofs.YtlhcpbpcdicleaaW.PrintWords Go.Proofs.YtlhcpbpcdicleaaW.PrintLast Go.Proofs.YtlhcpbpcdicleaaW.PrintMore
attribute [local go_sem] max2_int min2_int max_two min_two max_three min_three max_four min_four
set_option linter.unusedVariables false
set_option linter.unusedSimpArgs false
set_option maxHeartbeats 8000000
set_option maxRecDepth 100000

/-! ### spec_l19Without: function 70 -/
def spec_l19Without.l0 : Nat → List Int → Int → List Int → Int → Option (List Int)
 | 0, _, _, _, _ => none
 | k + 1, x0, x1, x5, x6 => if x6 < (x0.length : Int) then (if 0 ≤ x6 then (if (rd x0 x6) = x1 then (spec_l19Without.l0 k x0 x1 x5 (wrap64 (x6 + 1))) else (if x5.length < 17592186044416 then (spec_l19Without.l0 k x0 x1 (x5 ++ [rd x0 x6]) (wrap64 (x6 + 1))) else (none))) else (none)) else (some x5)
def spec_l19Without.f (k : Nat) (l0 : List Int) (a1 : Int) : Option (List Int) := spec_l19Without.l0 k l0 a1 (([] : List Int)) 0
theorem spec_l19Without.calls (k : Nat) (A0 : Option Addr) (c0 : Nat) (l0 : List Int) (a1 : Int) (r : List Int) (w : World) (hr0 : Kd.C (Kd.int .i64) w A0 l0.length l0) (hc0 : l0.length ≤ c0) (h : spec_l19Without.f k l0 a1 = some r) :
  Calls Try.prog 70 #[.slice A0 l0.length c0, .int .i64 a1] w fun e w' => ∃ v0_ : Value, e = .returned (v0_) ∧ Kd.R (Kd.int .i64) 3 w' w.heap.size (fun _ => True) v0_ r ∧ Below w.heap.size w w' := by
 have HR0 := am hr0
 have HC0 := am hc0
 clear hr0 hc0
 have HB := am (Below.refl w.heap.size w)
 unfold spec_l19Without.f at h
 have H := h
 clear h
 obtain ⟨y434, hy434⟩ : ∃ y_ : List Int, y_ = (([] : List Int)) := ⟨_, rfl⟩
 replace H : (spec_l19Without.l0 k l0 a1 y434 0) = some r := by first | (rw [hy434]; with_reducible first | exact H | exact bs H) | (with_reducible first | exact bs H | exact H) | (rw [hy434]; exact H) | exact H
 have Ny434 := am hy434
 clear hy434
 have H' := am H
 clear H
 go_enter Try.func70, Try.ntmps70
 go_wp2_with (first | ((with_reducible refine gate_dst (N := 7) rfl ?_); refine Kd.R_lit (Kd.int .i64) _ 3 ?hg (N := 7) ?hd (xs := ([] : List Int)) (inner := []) (ok := fun _ => True) (okp := fun _ => True) ?hr ?hp (fun _ hk => hk) trivial (Below.refl _ _) (Nat.le_refl _) (by simp) ?_; (case hd => rfl); (case hg => rfl); (case hr => first | (go_simp; done) | (go_simp; rfl)); (case hp => exact (Reps.none _ _)); intro v435 w3 ho4 hb hg_ hnew_; clear hg_ hnew_; (first | rw [← Ny434.out] at ho4 | (simp only [Int.reduceToNat] at ho4; rw [← Ny434.out] at ho4)); have HO436 := am (Kd.R_lower ho4 (below_size bw)); replace HB := am (below_step bw hb); clear hb ho4))
 go_loopg [5, 6] k (fun kq v5 v6 w' => ∃ (x5_1 : List Int) (x6_1 : Int), v6 = .int .i64 x6_1 ∧ Aside0 (spec_l19Without.l0 kq l0 a1 x5_1 x6_1 = some r) ∧ Aside0 (kq ≤ k) ∧ Aside0 (Kd.R (Kd.int .i64) 3 w' w.heap.size (fun _ => True) v5 x5_1) ∧ Aside0 (Below w.heap.size w w'))
 case atStart => exact ⟨(y434), (0), rr, H', ⟨Nat.le_refl _⟩, ⟨ro HO436.out⟩, ⟨bw⟩⟩
 case round =>
  clear H'
  obtain ⟨x5_1, x6_1, rfl, HA, HK1, HO_5, HB⟩ := hrel
  cases gk with
  | zero => exact absurd HA.out (by simp [spec_l19Without.l0])
  | succ k1 =>
   have H := HA.out
   clear HA
   simp only [spec_l19Without.l0] at H
   replace H := gi H; obtain ⟨c5b0, H⟩ | ⟨c5b0, H⟩ := H
   ·replace H := gd H; obtain ⟨c6b0, H⟩ := H
    by_cases c7 : (rd l0 x6_1) = a1
    ·rw [if_pos c7] at H
     have c7b0 : ((rd l0 x6_1) == a1) = true := beq_iff_eq.mpr c7
     have c7b1 : ((rd l0 x6_1) != a1) = false := bne_eq_false_iff_eq.mpr c7
     clear c7
     have H' := am H
     clear H
     obtain ⟨⟨ad437, e437, hx437_0⟩, p437, q437⟩ := pq (Kd.at_int HR0.out x6_1)
     cases e437
     replace hx437_0 := hw HB hx437_0
     go_wp2
     go_roundg k1
     case measure => have := HK1.out; omega
     case rel => exact ⟨(x5_1), (wrap64 (x6_1 + 1)), rr, H', ⟨by have := HK1.out; omega⟩, ⟨ro HO_5.out⟩, ⟨bw⟩⟩
    rw [if_neg c7] at H
    have c7b0 : ((rd l0 x6_1) == a1) = false := beq_eq_false_iff_ne.mpr c7
    have c7b1 : ((rd l0 x6_1) != a1) = true := bne_iff_ne.mpr c7
    by_cases c8 : x5_1.length < 17592186044416
    rotate_left
    ·rw [if_neg c8] at H
     exact absurd H (by simp)
    rw [if_pos c8] at H
    have LMc8 := am c8
    clear c8
    obtain ⟨y439, hy439⟩ : ∃ y_ : List Int, y_ = (x5_1 ++ [rd l0 x6_1]) := ⟨_, rfl⟩
    replace H : (spec_l19Without.l0 k1 l0 a1 y439 (wrap64 (x6_1 + 1))) = some r := by first | (rw [hy439]; with_reducible first | exact H | exact bs H) | (with_reducible first | exact bs H | exact H) | (rw [hy439]; exact H) | exact H
    have Ny439 := am hy439
    clear hy439
    have H' := am H
    clear H
    obtain ⟨⟨ad437, e437, hx437_0⟩, p437, q437⟩ := pq (Kd.at_int HR0.out x6_1)
    cases e437
    replace hx437_0 := hw HB hx437_0
    obtain ⟨⟨ad438, e438, hx438_0⟩, p438, q438⟩ := pq (Kd.at_int HR0.out x6_1)
    obtain rfl : ad437 = ad438 := (by injection e438)
    replace hx438_0 := hw HB hx438_0
    go_wp2_with (first | ((with_reducible refine gate_builtin (b := .append) (xs := #[.tmp 20, .tmp 25]) rfl ?_); at_builtin; refine Kd.R_append (Kd.int .i64) (w0 := w) w.heap.size rfl (.tmp 20) (.tmp 25) 22 3 (.int .i64 0) 8 rfl Try.underlying22 info3 rfl (by decide) (by omega) u5 x5_1 (rd l0 x6_1) [.int .i64 (rd l0 x6_1)] (fun _ => True) (fun _ => False) rfl rfl ?aP (fun _ hk => hk.elim) ?aF ?aO ?aB ?aS ?aL ?_; (case aP => exact rfl); (case aB => exact bw); (case aF => exact (fun _ _ => trivial)); (case aO => exact (ro HO_5.out)); (case aS => exact (below_size bw)); (case aL => have := LMc8.out; omega); intro v440 w9 ho hb hg hat; rw [← Ny439.out] at ho; replace HB := am (hb); have HO441 := am (ho); clear HO_5 ho hb hg hat))
    go_roundg k1
    case measure => have := HK1.out; omega
    case rel => exact ⟨(y439), (wrap64 (x6_1 + 1)), rr, H', ⟨by have := HK1.out; omega⟩, ⟨ro HO441.out⟩, ⟨bw⟩⟩
   obtain rfl := Option.some.inj H
   go_wp2
   go_ret
   exact ⟨_, re, ro HO_5.out, bw⟩


/-! ### spec_AddGap: function 41 -/
def spec_AddGap.f (k : Nat) (l0_0 : List Int) (a1 : Int) : Option (List Int × Bool) := (spec_SpecialGaps.f k l0_0).bind fun t444 => ((spec_HasNumber.f k t444 a1).bind fun t447 => (if t447 = true then ((spec_l4Gaps.f k l0_0).bind fun t448 => ((spec_l19Without.f k t448 a1).bind fun t451 => ((spec_FromGaps.f k t451).bind fun bt454 => (some (bt454.1, bt454.2))))) else (some (([] : List Int), false))))
theorem spec_AddGap.calls (k : Nat) (A0_0 : Option Addr) (c0_0 : Nat) (l0_0 : List Int) (a1 : Int) (r1 : List Int) (r2 : Bool) (w : World) (hr0_0 : Kd.C (Kd.int .i64) w A0_0 l0_0.length l0_0) (hc0_0 : l0_0.length ≤ c0_0) (h : spec_AddGap.f k l0_0 a1 = some (r1, r2)) :
  Calls Try.prog 41 #[.agg #[.slice A0_0 l0_0.length c0_0], .int .i64 a1] w fun e w' => ∃ v0_ : Value, e = .returned (.tuple #[.agg #[v0_], .bool r2]) ∧ Kd.R (Kd.int .i64) 3 w' w.heap.size (fun _ => True) v0_ r1 ∧ Below w.heap.size w w' := by
 have hu26 := Try.underlying26
 have HR0_0 := am hr0_0
 have HC0_0 := am hc0_0
 clear hr0_0 hc0_0
 have HB := am (Below.refl w.heap.size w)
 unfold spec_AddGap.f at h
 have H := h
 clear h
 replace H := ga H; obtain ⟨t444, A3, H⟩ := H
 replace H := ga H; obtain ⟨t447, A4, H⟩ := H
 replace H := gb H; obtain ⟨rfl, H⟩ | ⟨rfl, H⟩ := H
 ·replace H := ga H; obtain ⟨t448, A6, H⟩ := H
  replace H := ga H; obtain ⟨t451, A7, H⟩ := H
  replace H := ga H; obtain ⟨⟨t454, t457⟩, A8, H⟩ := H
  dsimp only at H
  simp only [Option.some.injEq, Prod.mk.injEq] at H
  obtain ⟨rfl, rfl⟩ := H
  go_enter Try.func41, Try.ntmps41
  go_wp2_with (first | ((with_reducible refine gate_dst (N := 2) rfl ?_); refine bx 2 #[.slice A0_0 l0_0.length c0_0] 26 ?_; intro gb442 hg w9 hbox hb; have BK442 := am (hbox); have GW442 := am (gs hg : w.heap.size ≤ gb442); have GE442 := GW442; replace HB := am (below_step bw hb); clear hb hbox hg) | ((with_reducible refine gate_dst (N := 4) rfl ?_); refine bx 4 #[.slice none 0 0] 26 ?_; intro gb443 hg w10 hbox hb; have BK443 := am (hbox); have GW443 := am (gs hg : w.heap.size ≤ gb443); have GE443 := GW443; replace HB := am (below_step bw hb); have NB442_443 := nl hg BK442; have NB443_442 := ns NB442_443; replace BK442 := kb BK442 hb; clear hb hbox hg; have hnb11 := NB442_443.out; have hnc11 := NB443_442.out; have hcz12_0 := bc BK442 0 (.slice A0_0 l0_0.length c0_0); have hfz12_0 := blk_frozen BK442.out 0) | ((with_reducible refine gate_callee (f := 40) rfl ?_); refine gl (some 9) Try.func40 #[.agg #[.slice A0_0 l0_0.length c0_0]] ?_; (with_reducible refine (spec_SpecialGaps.calls k _ _ l0_0 t444 _ ?side1 ?side2 A3.out).mono ?_); (case side1 => exact co (Kd.C_below HR0_0.out HB.out)); (case side2 => exact HC0_0.out); rintro e w13 ⟨v445, rfl, ho0, hb⟩; refine ⟨_, rfl, ?_⟩; have HO446 := am (Kd.R_lower ho0 (below_size bw)); replace BK442 := kb BK442 hb; replace BK443 := kb BK443 hb; replace HB := am (below_step bw hb); clear hb ho0; obtain ⟨Ao14, co14, eo14⟩ := Kd.R_slice HO446.out; subst eo14) | ((with_reducible refine gate_callee (f := 22) rfl ?_); refine gl (some 11) Try.func22 #[.slice Ao14 t444.length co14, .int .i64 a1] ?_; (with_reducible refine (spec_HasNumber.calls k _ _ t444 a1 true _ ?side1 ?side2 A4.out).mono ?_); (case side1 => exact co (Kd.R_reads' HO446.out).2.2); (case side2 => exact (Kd.R_reads' HO446.out).2.1); rintro e w' ⟨rfl, ⟨nd, rfl⟩⟩; refine ⟨_, rfl, ?_⟩; (try (rw [drewN_self w13]; generalize hq_ : World.drewN w13 _ = w13; have n0_ : Aside0 (Kd.R (Kd.int .i64) 3 w13 w.heap.size (fun _ => True) (.slice Ao14 t444.length co14) t444) := ⟨by rw [← hq_]; exact (ro HO446.out)⟩; have n1_ : Aside0 (w13.heap[gb442]? = some (.cells #[.slice A0_0 l0_0.length c0_0] 26 (0, 0))) := ⟨by rw [← hq_]; exact (bo BK442.out)⟩; have n2_ : Aside0 (w13.heap[gb443]? = some (.cells #[.slice none 0 0] 26 (0, 0))) := ⟨by rw [← hq_]; exact (bo BK443.out)⟩; have n3_ : Aside0 (Below w.heap.size w w13) := ⟨by rw [← hq_]; exact bw⟩; clear HO446 BK442 BK443 HB hq_; have HO446 := n0_; have BK442 := n1_; have BK443 := n2_; have HB := n3_; clear n0_ n1_ n2_ n3_)); have hcz15_0 := bc BK442 0 (.slice A0_0 l0_0.length c0_0); have hfz15_0 := blk_frozen BK442.out 0) | ((with_reducible refine gate_callee (f := 25) rfl ?_); refine gl (some 16) Try.func25 #[.agg #[.slice A0_0 l0_0.length c0_0]] ?_; (with_reducible refine (spec_l4Gaps.calls k _ _ l0_0 t448 _ ?side1 ?side2 A6.out).mono ?_); (case side1 => exact co (Kd.C_below HR0_0.out HB.out)); (case side2 => exact HC0_0.out); rintro e w16 ⟨v449, rfl, ho0, hb⟩; refine ⟨_, rfl, ?_⟩; have HO450 := am (Kd.R_lower (Kd.R_new' ho0 (Kd.R_lt (ro HO446.out))) (below_size bw)); replace HO446 := am (Kd.R_elder' (ro HO446.out) (Kd.R_base ho0) hb); replace BK442 := kb BK442 hb; replace BK443 := kb BK443 hb; replace HB := am (below_step bw hb); clear hb ho0; obtain ⟨Ao17, co17, eo17⟩ := Kd.R_slice HO450.out; subst eo17) | ((with_reducible refine gate_callee (f := 70) rfl ?_); refine gl (some 18) Try.func70 #[.slice Ao17 t448.length co17, .int .i64 a1] ?_; (with_reducible refine (spec_l19Without.calls k _ _ t448 a1 t451 _ ?side1 ?side2 A7.out).mono ?_); (case side1 => exact co (Kd.R_reads' HO450.out).2.2); (case side2 => exact (Kd.R_reads' HO450.out).2.1); rintro e w18 ⟨v452, rfl, ho0, hb⟩; refine ⟨_, rfl, ?_⟩; have HO453 := am (Kd.R_lower (Kd.R_new' (Kd.R_new' ho0 (Kd.R_lt (ro HO446.out))) (Kd.R_lt (ro HO450.out))) (below_size bw)); replace HO446 := am (Kd.R_elder' (ro HO446.out) (Kd.R_base ho0) hb); replace HO450 := am (Kd.R_elder' (ro HO450.out) (Kd.R_base ho0) hb); replace BK442 := kb BK442 hb; replace BK443 := kb BK443 hb; replace HB := am (below_step bw hb); clear hb ho0; obtain ⟨Ao19, co19, eo19⟩ := Kd.R_slice HO453.out; subst eo19) | ((with_reducible refine gate_callee (f := 23) rfl ?_); refine gl (some 19) Try.func23 #[.slice Ao19 t451.length co19] ?_; (with_reducible refine (spec_FromGaps.calls k _ _ t451 t454 t457 _ ?side1 ?side2 A8.out).mono ?_); (case side1 => exact co (Kd.R_reads' HO453.out).2.2); (case side2 => exact (Kd.R_reads' HO453.out).2.1); rintro e w20 ⟨v455, rfl, ho0, hb⟩; refine ⟨_, rfl, ?_⟩; have HO456 := am (Kd.R_lower (Kd.R_new' (Kd.R_new' (Kd.R_new' ho0 (Kd.R_lt (ro HO446.out))) (Kd.R_lt (ro HO450.out))) (Kd.R_lt (ro HO453.out))) (below_size bw)); replace HO446 := am (Kd.R_elder' (ro HO446.out) (Kd.R_base ho0) hb); replace HO450 := am (Kd.R_elder' (ro HO450.out) (Kd.R_base ho0) hb); replace HO453 := am (Kd.R_elder' (ro HO453.out) (Kd.R_base ho0) hb); replace BK442 := kb BK442 hb; replace BK443 := kb BK443 hb; replace HB := am (below_step bw hb); clear hb ho0) | ((with_reducible refine gate_dst (N := 6) rfl ?_); refine bx 6 #[.slice none 0 0] 26 ?_; intro gb458 hg w21 hbox hb; replace HO446 := rK HO446 hb; replace HO450 := rK HO450 hb; replace HO453 := rK HO453 hb; replace HO456 := rK HO456 hb; have BK458 := am (hbox); have GW458 := am (gs hg : w.heap.size ≤ gb458); have GE458 := GW458; replace HB := am (below_step bw hb); have NB442_458 := nl hg BK442; have NB458_442 := ns NB442_458; replace BK442 := kb BK442 hb; have NB443_458 := nl hg BK443; have NB458_443 := ns NB443_458; replace BK443 := kb BK443 hb; clear hb hbox hg; obtain ⟨Ao22, co22, eo22⟩ := Kd.R_slice HO456.out; subst eo22; have hnb23 := NB458_442.out; have hnc23 := NB442_458.out; have hnb24 := NB458_443.out; have hnc24 := NB443_458.out; have hcz25_0 := bc BK458 0 (.slice none 0 0); have hfz25_0 := blk_frozen BK458.out 0; have hcz26_0 := bc BK443 0 (.slice none 0 0); have hfz26_0 := blk_frozen BK443.out 0))
  refine bodyPost_ret (results_ct rfl _ _ gb443 26 #[.slice Ao22 t454.length co22] (0, 0) _ rfl (by (with_reducible repeat (first | refine blk_drewN ?_ _ | refine blk_drew ?_ | refine blk_alloc ?_ _)); refine blk_put (cs := #[.slice none 0 0]) ?_ 0 _ rfl; (with_reducible repeat (first | refine blk_drewN ?_ _ | refine blk_drew ?_ | refine blk_alloc ?_ _)); refine blk_far ?_ NB443_458.out _; (with_reducible repeat (first | refine blk_drewN ?_ _ | refine blk_drew ?_ | refine blk_alloc ?_ _)); exact BK443.out) Try.underlying26 rfl (by kernel_rfl)) rfl ?_
  exact ⟨_, re, rM (Kd.R_far (p := ⟨gb443, 0, none⟩) (Kd.R_far (p := ⟨gb458, 0, none⟩) (Kd.R_types (Kd.R_types HO456.out BK458.out (by decide)) BK443.out (by decide)) (fun _ hk => by first | exact hk.1.2 | simp_all) (.slice Ao22 t454.length co22)) (fun _ hk => hk.2) (.slice Ao22 t454.length co22)) (fun _ hk => trivial), bw⟩
 simp only [Option.some.injEq, Prod.mk.injEq] at H
 obtain ⟨rfl, rfl⟩ := H
 go_enter Try.func41, Try.ntmps41
 go_wp2_with (first | ((with_reducible refine gate_dst (N := 2) rfl ?_); refine bx 2 #[.slice A0_0 l0_0.length c0_0] 26 ?_; intro gb442 hg w27 hbox hb; have BK442 := am (hbox); have GW442 := am (gs hg : w.heap.size ≤ gb442); have GE442 := GW442; replace HB := am (below_step bw hb); clear hb hbox hg) | ((with_reducible refine gate_dst (N := 4) rfl ?_); refine bx 4 #[.slice none 0 0] 26 ?_; intro gb443 hg w28 hbox hb; have BK443 := am (hbox); have GW443 := am (gs hg : w.heap.size ≤ gb443); have GE443 := GW443; replace HB := am (below_step bw hb); have NB442_443 := nl hg BK442; have NB443_442 := ns NB442_443; replace BK442 := kb BK442 hb; clear hb hbox hg; have hnb29 := NB442_443.out; have hnc29 := NB443_442.out; have hcz30_0 := bc BK442 0 (.slice A0_0 l0_0.length c0_0); have hfz30_0 := blk_frozen BK442.out 0) | ((with_reducible refine gate_callee (f := 40) rfl ?_); refine gl (some 9) Try.func40 #[.agg #[.slice A0_0 l0_0.length c0_0]] ?_; (with_reducible refine (spec_SpecialGaps.calls k _ _ l0_0 t444 _ ?side1 ?side2 A3.out).mono ?_); (case side1 => exact co (Kd.C_below HR0_0.out HB.out)); (case side2 => exact HC0_0.out); rintro e w31 ⟨v445, rfl, ho0, hb⟩; refine ⟨_, rfl, ?_⟩; have HO446 := am (Kd.R_lower ho0 (below_size bw)); replace BK442 := kb BK442 hb; replace BK443 := kb BK443 hb; replace HB := am (below_step bw hb); clear hb ho0; obtain ⟨Ao32, co32, eo32⟩ := Kd.R_slice HO446.out; subst eo32) | ((with_reducible refine gate_callee (f := 22) rfl ?_); refine gl (some 11) Try.func22 #[.slice Ao32 t444.length co32, .int .i64 a1] ?_; (with_reducible refine (spec_HasNumber.calls k _ _ t444 a1 false _ ?side1 ?side2 A4.out).mono ?_); (case side1 => exact co (Kd.R_reads' HO446.out).2.2); (case side2 => exact (Kd.R_reads' HO446.out).2.1); rintro e w' ⟨rfl, ⟨nd, rfl⟩⟩; refine ⟨_, rfl, ?_⟩; (try (rw [drewN_self w31]; generalize hq_ : World.drewN w31 _ = w31; have n0_ : Aside0 (Kd.R (Kd.int .i64) 3 w31 w.heap.size (fun _ => True) (.slice Ao32 t444.length co32) t444) := ⟨by rw [← hq_]; exact (ro HO446.out)⟩; have n1_ : Aside0 (w31.heap[gb442]? = some (.cells #[.slice A0_0 l0_0.length c0_0] 26 (0, 0))) := ⟨by rw [← hq_]; exact (bo BK442.out)⟩; have n2_ : Aside0 (w31.heap[gb443]? = some (.cells #[.slice none 0 0] 26 (0, 0))) := ⟨by rw [← hq_]; exact (bo BK443.out)⟩; have n3_ : Aside0 (Below w.heap.size w w31) := ⟨by rw [← hq_]; exact bw⟩; clear HO446 BK442 BK443 HB hq_; have HO446 := n0_; have BK442 := n1_; have BK443 := n2_; have HB := n3_; clear n0_ n1_ n2_ n3_)); have hcz33_0 := bc BK443 0 (.slice none 0 0); have hfz33_0 := blk_frozen BK443.out 0))
 refine bodyPost_ret (results_ct rfl _ _ gb443 26 #[.slice none 0 0] (0, 0) _ rfl (bp BK443.out) Try.underlying26 rfl (by kernel_rfl)) rfl ?_
 exact ⟨_, re, by first | exact Kd.R_nil _ _ _ _ _ | exact Kd.N_nil _ _ _ _ _ | exact Kd.V_nil _ _ _ _ _ | exact Kd.Q_nil _ _ _ _ _ | exact Kd.S_nil _ _ _ _ _, bw⟩


/-! ### spec_LargerSemigroups: function 18 -/
mutual
def spec_LargerSemigroups.l0 : Nat → List (S26) → List (S26) → Option ((List (S26)) × Bool)
 | 0, _, _ => none
 | k + 1, x4, x5 => if (x5.length : Int) > 0 then (spec_LargerSemigroups.l1 k x4 x5 (([] : List (S26))) 0) else (some (x4, true))
def spec_LargerSemigroups.l1 : Nat → List (S26) → List (S26) → List (S26) → Int → Option ((List (S26)) × Bool)
 | 0, _, _, _, _ => none
 | k + 1, x4, x5, x6, x7 => if x7 < (x5.length : Int) then (if 0 ≤ x7 then ((spec_SpecialGaps.f k ((rd_T26 x5 x7).f0)).bind fun t478 => (spec_LargerSemigroups.l2 k x4 x5 x6 x7 t478 0)) else (none)) else (spec_LargerSemigroups.l3 k x4 x6 0)
def spec_LargerSemigroups.l2 : Nat → List (S26) → List (S26) → List (S26) → Int → List Int → Int → Option ((List (S26)) × Bool)
 | 0, _, _, _, _, _, _ => none
 | k + 1, x4, x5, x6, x7, x8, x9 => if x9 < (x8.length : Int) then (if 0 ≤ x7 then (if x7 < (x5.length : Int) then (if 0 ≤ x9 then ((spec_AddGap.f k ((rd_T26 x5 x7).f0) (rd x8 x9)).bind fun bt483 => ((spec_l19Put.f k x6 (bt483.1)).bind fun tp => (spec_LargerSemigroups.l2 k x4 x5 tp x7 x8 (wrap64 (x9 + 1))))) else (none)) else (none)) else (none)) else (spec_LargerSemigroups.l1 k x4 x5 x6 (wrap64 (x7 + 1)))
def spec_LargerSemigroups.l3 : Nat → List (S26) → List (S26) → Int → Option ((List (S26)) × Bool)
 | 0, _, _, _ => none
 | k + 1, x4, x6, x12 => if x12 < (x6.length : Int) then (if 0 ≤ x12 then ((spec_l19Put.f k x4 ((rd_T26 x6 x12).f0)).bind fun tp => (spec_LargerSemigroups.l3 k tp x6 (wrap64 (x12 + 1)))) else (none)) else (spec_LargerSemigroups.l0 k x4 x6)
end
def spec_LargerSemigroups.f (k : Nat) (l0_0 : List Int) : Option ((List (S26)) × Bool) := (spec_GenusOf.f k l0_0).bind fun t460 => ((spec_l1In.f t460 0 9).bind fun t461 => (if t461 = true then ((spec_l3Copy.f l0_0).bind fun t465 => (spec_LargerSemigroups.l0 k (([(⟨t465⟩ : S26)] : List (S26))) (([(⟨l0_0⟩ : S26)] : List (S26))))) else (some ((([] : List (S26))), false))))
def spec_LargerSemigroups.T14 : Bool × List (List Nat × List Nat) := (true, [([], []), ([], []), ([0, 1], [0, 1]), ([2], [2]), ([], []), ([], []), ([4, 5], [4, 5]), ([6], [6]), ([3, 7], [3, 7]), ([8], [8]), ([9], [9]), ([9], [9]), ([], []), ([12, 10, 8, 0, 1, 2, 3, 4, 5, 6, 7, 8, 9, 10, 12], [10, 12]), ([11, 13, 0, 1, 2, 3, 4, 5, 6, 7, 8, 9, 10, 11, 12, 13], [11])])
def spec_LargerSemigroups.B14 : List Nat := [0, 0, 3, 7, 0, 0, 48, 112, 255, 511, 1023, 1023, 0, 6143, 16383]
theorem spec_LargerSemigroups.tab14 : rtab .any (opsOf Try.f18 14) = spec_LargerSemigroups.T14 := by kernel_rfl
theorem spec_LargerSemigroups.bits14 : waitsOk spec_LargerSemigroups.T14.2 spec_LargerSemigroups.B14 = true := by kernel_rfl
theorem spec_LargerSemigroups.calls (k : Nat) (P0_0_ : Nat → Prop) (A0_0 : Option Addr) (c0_0 : Nat) (l0_0 : List Int) (r1 : List (S26)) (r2 : Bool) (w : World) (hs0_0 : Kd.V (Kd.int .i64) 3 w w.heap.size (fun k_ => P0_0_ k_) (.slice A0_0 l0_0.length c0_0) l0_0) (h : spec_LargerSemigroups.f k l0_0 = some (r1, r2)) :
  Calls Try.prog 18 #[.agg #[.slice A0_0 l0_0.length c0_0]] w fun e w' => ∃ v0_ : Value, e = .returned (.tuple #[v0_, .bool r2]) ∧ Kd.N k26 26 w' w.heap.size (fun k_ => (P0_0_ k_ ∨ w.heap.size ≤ k_)) v0_ r1 ∧ Below w.heap.size w w' := by
 have hu26 := Try.underlying26
 have HO0_0 := am (show Kd.V (Kd.int .i64) 3 w w.heap.size (fun k_ => (P0_0_ k_ ∨ w.heap.size ≤ k_)) (.slice A0_0 l0_0.length c0_0) l0_0 from Kd.V_mono hs0_0 (fun k_ hk => .inl hk))
 have HB := am (Below.refl w.heap.size w)
 unfold spec_LargerSemigroups.f at h
 have H := h
 clear h
 replace H := ga H; obtain ⟨t460, A2, H⟩ := H
 replace H := ga H; obtain ⟨t461, A3, H⟩ := H
 replace H := gb H; obtain ⟨rfl, H⟩ | ⟨rfl, H⟩ := H
 ·replace H := ga H; obtain ⟨t465, A5, H⟩ := H
  obtain ⟨y468, hy468⟩ : ∃ y_ : List (S26), y_ = (([(⟨t465⟩ : S26)] : List (S26))) := ⟨_, rfl⟩
  replace H : (spec_LargerSemigroups.l0 k y468 (([(⟨l0_0⟩ : S26)] : List (S26)))) = some (r1, r2) := by first | (rw [hy468]; with_reducible first | exact H | exact bs H) | (with_reducible first | exact bs H | exact H) | (rw [hy468]; exact H) | exact H
  have Ny468 := am hy468
  clear hy468
  obtain ⟨y471, hy471⟩ : ∃ y_ : List (S26), y_ = (([(⟨l0_0⟩ : S26)] : List (S26))) := ⟨_, rfl⟩
  replace H : (spec_LargerSemigroups.l0 k y468 y471) = some (r1, r2) := by first | (rw [hy471]; with_reducible first | exact H | exact bs H) | (with_reducible first | exact bs H | exact H) | (rw [hy471]; exact H) | exact H
  have Ny471 := am hy471
  clear hy471
  have H' := am H
  clear H
  go_enter Try.func18, Try.ntmps18
  go_wp2_with (first | ((with_reducible refine gate_dst (N := 1) rfl ?_); refine bx 1 #[.slice A0_0 l0_0.length c0_0] 26 ?_; intro gb459 hg w6 hbox hb; replace HO0_0 := am (Kd.V_below (Kd.V_elderB (vo HO0_0.out) gb459 (Nat.le_of_eq hg.symm)) hb); have BK459 := am (hbox); have GW459 := am (gs hg : w.heap.size ≤ gb459); have GE459 := GW459; replace HB := am (below_step bw hb); clear hb hbox hg; have hcz7_0 := bc BK459 0 (.slice A0_0 l0_0.length c0_0); have hfz7_0 := blk_frozen BK459.out 0) | ((with_reducible refine gate_callee (f := 38) rfl ?_); refine gl (some 14) Try.func38 #[.agg #[.slice A0_0 l0_0.length c0_0]] ?_; (with_reducible refine (spec_GenusOf.calls k _ _ l0_0 t460 _ ?side1 ?side2 A2.out).mono ?_); (case side1 => exact co (Kd.V_reads' HO0_0.out).2.2); (case side2 => exact (Kd.V_reads' HO0_0.out).2.1); rintro e w8 ⟨rfl, hb⟩; refine ⟨_, rfl, ?_⟩; replace HO0_0 := am (Kd.V_below (vo HO0_0.out) hb); replace BK459 := kb BK459 hb; replace HB := am (below_step bw hb); clear hb) | ((with_reducible refine gate_callee (f := 37) rfl ?_); refine gl (some 15) Try.func37 #[.int .i64 t460, .int .i64 0, .int .i64 9] ?_; (with_reducible refine (spec_l1In.calls t460 0 9 true _ A3.out).mono ?_); rintro e w' ⟨rfl, ⟨nd, rfl⟩⟩; refine ⟨_, rfl, ?_⟩; have hcz9_0 := bc BK459 0 (.slice A0_0 l0_0.length c0_0); have hfz9_0 := blk_frozen BK459.out 0) | ((with_reducible refine gate_callee (f := 39) rfl ?_); refine gl (some 19) Try.func39 #[.agg #[.slice A0_0 l0_0.length c0_0]] ?_; (with_reducible refine (spec_l3Copy.calls _ _ l0_0 t465 _ ?side1 ?side2 A5.out).mono ?_); (case side1 => exact co (Kd.V_reads' HO0_0.out).2.2); (case side2 => exact (Kd.V_reads' HO0_0.out).2.1); rintro e w10 ⟨v466, rfl, ho0, hb⟩; refine ⟨_, rfl, ?_⟩; replace HO0_0 := am (Kd.V_elder' (vo HO0_0.out) (Kd.R_base ho0) hb); have HO467 := am (Kd.R_lower (Kd.R_newM (M := fun k_ => (w.heap.size ≤ k_)) ho0 (below_size bw) (fun k_ h_ => h_)) (below_size bw)); replace BK459 := kb BK459 hb; replace HB := am (below_step bw hb); clear hb ho0; obtain ⟨Ao11, co11, eo11⟩ := Kd.R_slice HO467.out; subst eo11) | ((with_reducible refine gate_dst (N := 20) rfl ?_); refine Kd.N_lit k26 _ 26 ?hg (N' := 20) ?hd (xs := ([(⟨t465⟩ : S26)] : List (S26))) (inner := [.slice Ao11 t465.length co11]) (ok := (fun k_ => (P0_0_ k_ ∨ w.heap.size ≤ k_) ∧ k_ ≠ gb459)) (okp := (fun k_ => (P0_0_ k_ ∨ w.heap.size ≤ k_) ∧ k_ ≠ gb459)) ?hr ?hp (fun _ hk => hk) ((show ∀ k_, w10.heap.size ≤ k_ → (fun k_ => (P0_0_ k_ ∨ w.heap.size ≤ k_) ∧ k_ ≠ gb459) k_ from fun k_ hk => ⟨(.inr (Nat.le_trans (below_size bw) hk)), Kd.freshB (g := gb459) (o := .cells #[.slice A0_0 l0_0.length c0_0] 26 (0, 0)) (bo BK459.out) k_ hk⟩) _ (Nat.le_refl _)) (Below.refl _ _) (Nat.le_refl _) (by simp) ?_; (case hd => rfl); (case hg => rfl); (case hr => first | (go_simp; done) | (go_simp; rfl)); (case hp => exact (Reps.one (show Kd.FK k26 _ _ (⟨t465⟩ : S26) [.slice Ao11 t465.length co11] from (k26_mkF _ _ (⟨t465⟩ : S26) (Kd.R_reads' (Kd.R_mono (ok' := (fun k_ => (P0_0_ k_ ∨ w.heap.size ≤ k_) ∧ k_ ≠ gb459)) (Kd.R_types (HO467.out) BK459.out (by decide)) (fun k_ hk => ⟨(.inr (hk.1.1)), hk.2⟩))).2.1 (Kd.R_F (Kd.R_mono (ok' := (fun k_ => (P0_0_ k_ ∨ w.heap.size ≤ k_) ∧ k_ ≠ gb459)) (Kd.R_types (HO467.out) BK459.out (by decide)) (fun k_ hk => ⟨(.inr (hk.1.1)), hk.2⟩))))) (Reps.none _ _))); intro v469 w12 ho13 hb hg_ hnew_; clear hg_ hnew_; (first | rw [← Ny468.out] at ho13 | (simp only [Int.reduceToNat] at ho13; rw [← Ny468.out] at ho13)); replace HO0_0 := am (Kd.V_elder' (vo HO0_0.out) (Kd.N_base ho13) hb); have HO470 := am (Kd.N_lower ho13 (below_size bw)); replace BK459 := kb BK459 hb; replace HB := am (below_step bw hb); clear HO467 hb ho13; have hcz14_0 := bc BK459 0 (.slice A0_0 l0_0.length c0_0); have hfz14_0 := blk_frozen BK459.out 0) | ((with_reducible refine gate_dst (N := 22) rfl ?_); refine Kd.N_lit k26 _ 26 ?hg (N' := 22) ?hd (xs := ([(⟨l0_0⟩ : S26)] : List (S26))) (inner := [.slice A0_0 l0_0.length c0_0]) (ok := (fun k_ => (P0_0_ k_ ∨ w.heap.size ≤ k_) ∧ some k_ ≠ (v469 : Value).ownBlock ∧ k_ ≠ gb459)) (okp := (fun k_ => (P0_0_ k_ ∨ w.heap.size ≤ k_) ∧ some k_ ≠ (v469 : Value).ownBlock ∧ k_ ≠ gb459)) ?hr ?hp (fun _ hk => hk) ((show ∀ k_, w12.heap.size ≤ k_ → (fun k_ => (P0_0_ k_ ∨ w.heap.size ≤ k_) ∧ some k_ ≠ (v469 : Value).ownBlock ∧ k_ ≠ gb459) k_ from fun k_ hk => ⟨(.inr (Nat.le_trans (below_size bw) hk)), Kd.fresh' (Kd.N_lt (no HO470.out)) k_ hk, Kd.freshB (g := gb459) (o := .cells #[.slice A0_0 l0_0.length c0_0] 26 (0, 0)) (bo BK459.out) k_ hk⟩) _ (Nat.le_refl _)) (Below.refl _ _) (Nat.le_refl _) (by simp) ?_; (case hd => rfl); (case hg => rfl); (case hr => first | (go_simp; done) | (go_simp; rfl)); (case hp => exact (Reps.one (show Kd.FK k26 _ _ (⟨l0_0⟩ : S26) [.slice A0_0 l0_0.length c0_0] from (k26_mkF _ _ (⟨l0_0⟩ : S26) (Kd.V_reads' (Kd.V_mono (ok' := (fun k_ => (P0_0_ k_ ∨ w.heap.size ≤ k_) ∧ some k_ ≠ (v469 : Value).ownBlock ∧ k_ ≠ gb459)) (HO0_0.out) (fun k_ hk => ⟨hk.1.1.1, ⟨hk.2, hk.1.1.2⟩⟩))).2.1 (Kd.V_F (Kd.V_mono (ok' := (fun k_ => (P0_0_ k_ ∨ w.heap.size ≤ k_) ∧ some k_ ≠ (v469 : Value).ownBlock ∧ k_ ≠ gb459)) (HO0_0.out) (fun k_ hk => ⟨hk.1.1.1, ⟨hk.2, hk.1.1.2⟩⟩))))) (Reps.none _ _))); intro v472 w15 ho16 hb hg_ hnew_; clear hg_ hnew_; (first | rw [← Ny471.out] at ho16 | (simp only [Int.reduceToNat] at ho16; rw [← Ny471.out] at ho16)); replace HO0_0 := am (Kd.V_elder' (vo HO0_0.out) (Kd.N_base ho16) hb); replace HO470 := am (Kd.N_elder' (no HO470.out) (Kd.N_base ho16) hb); have HO473 := am (Kd.N_lower ho16 (below_size bw)); replace BK459 := kb BK459 hb; replace HB := am (below_step bw hb); clear hb ho16))
  go_loopg [4, 5] k (fun kq v4 v5 w' => ∃ (x4_1 : List (S26)) (x5_1 : List (S26)), Aside0 (spec_LargerSemigroups.l0 kq x4_1 x5_1 = some (r1, r2)) ∧ Aside0 (kq ≤ k) ∧ Aside0 (Kd.N k26 26 w' w.heap.size (fun k_ => (P0_0_ k_ ∨ w.heap.size ≤ k_) ∧ some k_ ≠ (v5 : Value).ownBlock ∧ k_ ≠ gb459) v4 x4_1) ∧ Aside0 (Kd.N k26 26 w' w.heap.size (fun k_ => (P0_0_ k_ ∨ w.heap.size ≤ k_) ∧ some k_ ≠ (v4 : Value).ownBlock ∧ k_ ≠ gb459) v5 x5_1) ∧ Aside0 (Kd.V (Kd.int .i64) 3 w' w.heap.size (fun k_ => (P0_0_ k_ ∨ w.heap.size ≤ k_) ∧ some k_ ≠ (v4 : Value).ownBlock ∧ some k_ ≠ (v5 : Value).ownBlock ∧ k_ ≠ gb459) (.slice A0_0 l0_0.length c0_0) l0_0) ∧ Aside0 (w'.heap[gb459]? = some (.cells #[(.slice A0_0 l0_0.length c0_0)] 26 (0, 0))) ∧ Aside0 (Below w.heap.size w w'))
  case atStart => exact ⟨(y468), (y471), H', ⟨Nat.le_refl _⟩, ⟨nM HO470.out (fun _ hk => ⟨hk.1.1, ⟨hk.2, hk.1.2⟩⟩)⟩, ⟨no HO473.out⟩, ⟨by (with_reducible repeat (first | apply Kd.V_alloc | apply Kd.V_drewN | apply Kd.V_drew)); exact Kd.V_mono HO0_0.out (fun _ hk => ⟨hk.1.1.1.1, ⟨hk.1.2, ⟨hk.2, hk.1.1.1.2⟩⟩⟩)⟩, ⟨bo BK459.out⟩, ⟨bw⟩⟩
  case round =>
   clear H'
   try clear hcz14_0; try clear hcz7_0; try clear hcz9_0; try clear hfz14_0; try clear hfz7_0; try clear hfz9_0
   obtain ⟨x4_1, x5_1, HA, HK1, HO_4, HO_5, HO_460000, BK459, HB⟩ := hrel
   cases gk with
   | zero => exact absurd HA.out (by simp [spec_LargerSemigroups.l0])
   | succ k1 =>
    have H := HA.out
    clear HA
    simp only [spec_LargerSemigroups.l0] at H
    replace H := gj H; obtain ⟨c17, H⟩ | ⟨c17, H⟩ := H
    ·have c17b0 : decide (0 < (x5_1.length : Int)) = true := decide_eq_true c17
     have c17b1 : decide (0 < x5_1.length) = true := decide_eq_true (by omega)
     clear c17
     obtain ⟨y474, hy474⟩ : ∃ y_ : List (S26), y_ = (([] : List (S26))) := ⟨_, rfl⟩
     replace H : (spec_LargerSemigroups.l1 k1 x4_1 x5_1 y474 0) = some (r1, r2) := by first | (rw [hy474]; with_reducible first | exact H | exact bs H) | (with_reducible first | exact bs H | exact H) | (rw [hy474]; exact H) | exact H
     have Ny474 := am hy474
     clear hy474
     have H' := am H
     clear H
     obtain ⟨Ao18, co18, eo18⟩ := Kd.N_slice HO_5.out
     subst eo18
     go_wp2_with (first | ((with_reducible refine gate_dst (N := 26) rfl ?_); refine Kd.N_lit k26 _ 26 ?hg (N' := 26) ?hd (xs := ([] : List (S26))) (inner := []) (ok := (fun k_ => (P0_0_ k_ ∨ w.heap.size ≤ k_) ∧ some k_ ≠ (u4 : Value).ownBlock ∧ nb k_ Ao18 x5_1 co18 ∧ k_ ≠ gb459)) (okp := (fun k_ => (P0_0_ k_ ∨ w.heap.size ≤ k_) ∧ some k_ ≠ (u4 : Value).ownBlock ∧ nb k_ Ao18 x5_1 co18 ∧ k_ ≠ gb459)) ?hr ?hp (fun _ hk => hk) ((show ∀ k_, wr.heap.size ≤ k_ → (fun k_ => (P0_0_ k_ ∨ w.heap.size ≤ k_) ∧ some k_ ≠ (u4 : Value).ownBlock ∧ nb k_ Ao18 x5_1 co18 ∧ k_ ≠ gb459) k_ from fun k_ hk => ⟨(.inr (Nat.le_trans (below_size bw) hk)), Kd.fresh' (Kd.N_lt (no HO_4.out)) k_ hk, Kd.fresh' (Kd.N_lt (no HO_5.out)) k_ hk, Kd.freshB (g := gb459) (o := .cells #[.slice A0_0 l0_0.length c0_0] 26 (0, 0)) (bo BK459.out) k_ hk⟩) _ (Nat.le_refl _)) (Below.refl _ _) (Nat.le_refl _) (by simp) ?_; (case hd => rfl); (case hg => rfl); (case hr => first | (go_simp; done) | (go_simp; rfl)); (case hp => exact (Reps.none _ _)); intro v475 w19 ho20 hb hg_ hnew_; clear hg_ hnew_; (first | rw [← Ny474.out] at ho20 | (simp only [Int.reduceToNat] at ho20; rw [← Ny474.out] at ho20)); replace HO_4 := am (Kd.N_elder' (no HO_4.out) (Kd.N_base ho20) hb); replace HO_5 := am (Kd.N_elder' (no HO_5.out) (Kd.N_base ho20) hb); replace HO_460000 := am (Kd.V_elder' (vo HO_460000.out) (Kd.N_base ho20) hb); have HO476 := am (Kd.N_lower ho20 (below_size bw)); replace BK459 := kb BK459 hb; replace HB := am (below_step bw hb); clear hb ho20))
     go_loopg [6, 7] k1 (fun kq v6 v7 w' => ∃ (x6_2 : List (S26)) (x7_2 : Int), v7 = .int .i64 x7_2 ∧ Aside0 (spec_LargerSemigroups.l1 kq x4_1 x5_1 x6_2 x7_2 = some (r1, r2)) ∧ Aside0 (kq ≤ k1) ∧ Aside0 (Kd.N k26 26 w' w.heap.size (fun k_ => (P0_0_ k_ ∨ w.heap.size ≤ k_) ∧ nb k_ Ao18 x5_1 co18 ∧ some k_ ≠ (v6 : Value).ownBlock ∧ k_ ≠ gb459) u4 x4_1) ∧ Aside0 (Kd.N k26 26 w' w.heap.size (fun k_ => (P0_0_ k_ ∨ w.heap.size ≤ k_) ∧ some k_ ≠ (u4 : Value).ownBlock ∧ some k_ ≠ (v6 : Value).ownBlock ∧ k_ ≠ gb459) (.slice Ao18 x5_1.length co18) x5_1) ∧ Aside0 (Kd.N k26 26 w' w.heap.size (fun k_ => (P0_0_ k_ ∨ w.heap.size ≤ k_) ∧ some k_ ≠ (u4 : Value).ownBlock ∧ nb k_ Ao18 x5_1 co18 ∧ k_ ≠ gb459) v6 x6_2) ∧ Aside0 (Kd.V (Kd.int .i64) 3 w' w.heap.size (fun k_ => (P0_0_ k_ ∨ w.heap.size ≤ k_) ∧ some k_ ≠ (u4 : Value).ownBlock ∧ nb k_ Ao18 x5_1 co18 ∧ some k_ ≠ (v6 : Value).ownBlock ∧ k_ ≠ gb459) (.slice A0_0 l0_0.length c0_0) l0_0) ∧ Aside0 (w'.heap[gb459]? = some (.cells #[(.slice A0_0 l0_0.length c0_0)] 26 (0, 0))) ∧ Aside0 (Below w.heap.size w w'))
     case atStart => exact ⟨(y474), (0), rr, H', ⟨Nat.le_refl _⟩, ⟨nM HO_4.out (fun _ hk => ⟨hk.1.1, ⟨hk.1.2.1, ⟨hk.2, hk.1.2.2⟩⟩⟩)⟩, ⟨nM HO_5.out (fun _ hk => ⟨hk.1.1, ⟨hk.1.2.1, ⟨hk.2, hk.1.2.2⟩⟩⟩)⟩, ⟨no HO476.out⟩, ⟨by (with_reducible repeat (first | apply Kd.V_alloc | apply Kd.V_drewN | apply Kd.V_drew)); exact Kd.V_mono HO_460000.out (fun _ hk => ⟨hk.1.1, ⟨hk.1.2.1, ⟨hk.1.2.2.1, ⟨hk.2, hk.1.2.2.2⟩⟩⟩⟩)⟩, ⟨bo BK459.out⟩, ⟨bw⟩⟩
     case round =>
      clear H'
      try clear c17; try clear c17b0; try clear c17b1; try clear hcz14_0; try clear hcz7_0; try clear hcz9_0; try clear hfz14_0; try clear hfz7_0; try clear hfz9_0
      obtain ⟨x6_2, x7_2, rfl, HA, HK2, HO_4, HO_5, HO_6, HO_460000, BK459, HB⟩ := hrel
      cases gk with
      | zero => exact absurd HA.out (by simp [spec_LargerSemigroups.l1])
      | succ k2 =>
       have H := HA.out
       clear HA
       simp only [spec_LargerSemigroups.l1] at H
       replace H := gi H; obtain ⟨c21b0, H⟩ | ⟨c21b0, H⟩ := H
       ·replace H := gd H; obtain ⟨c22b0, H⟩ := H
        replace H := ga H; obtain ⟨t478, A23, H⟩ := H
        have H' := am H
        clear H
        have p477 : 0 ≤ (x7_2 : Int) := od
        have q477 : x7_2 < (x5_1.length : Int) := od
        obtain ⟨ad477, A477_0, c477_0, e477, hx477_0, hl477_0, hi477_0⟩ := at_T26 (Kd.N_reads' HO_5.out).2.2 x7_2 p477 q477
        cases e477
        obtain ⟨ce477, hce477, hMe477, hcc477⟩ := Kd.N_get HO_5.out z26 x7_2 p477 (by first | exact q477 | exact od | (have e_ := (Kd.N_reads' HO_5.out).1; omega))
        obtain ⟨ua477_0, uc477_0, rfl, ul477_0, ge477_0⟩ := k26_openF hMe477
        have hv477_0 := hcc477 0 _ rfl
        rw [Nat.add_zero, show (k26).sz = 1 from rfl, Nat.mul_one] at hv477_0
        replace hv477_0 := Option.some.inj (hv477_0.symm.trans hx477_0)
        injection hv477_0 with hva_ hvn_ hvc_
        rw [hva_] at ge477_0
        rw [hvc_] at ul477_0
        have HL477_0 := am (show Kd.V (Kd.int .i64) 3 _ w.heap.size _ _ ((rd_T26 x5_1 x7_2).f0) from Kd.V_mk ul477_0 ge477_0)
        clear hva_ hvn_ hvc_ ge477_0 ul477_0
        clear hcc477 hce477
        have HR477_0 := am hi477_0
        have HC477_0 := am hl477_0
        clear hi477_0 hl477_0
        replace p477 := eq_true p477
        replace q477 := eq_true q477
        go_wp2_with (first | ((with_reducible refine gate_callee (f := 40) rfl ?_); refine gl (some 37) Try.func40 #[.agg #[.slice A477_0 ((rd_T26 x5_1 x7_2).f0).length c477_0]] ?_; (with_reducible refine (spec_SpecialGaps.calls k2 _ _ ((rd_T26 x5_1 x7_2).f0) t478 _ ?side1 ?side2 A23.out).mono ?_); (case side1 => exact co HR477_0.out); (case side2 => exact HC477_0.out); rintro e w24 ⟨v479, rfl, ho0, hb⟩; refine ⟨_, rfl, ?_⟩; replace HO_4 := am (Kd.N_elder' (no HO_4.out) (Kd.R_base ho0) hb); replace HO_5 := am (Kd.N_elder' (no HO_5.out) (Kd.R_base ho0) hb); replace HO_6 := am (Kd.N_elder' (no HO_6.out) (Kd.R_base ho0) hb); replace HO_460000 := am (Kd.V_elder' (vo HO_460000.out) (Kd.R_base ho0) hb); replace HL477_0 := am (Kd.V_elder' (vo HL477_0.out) (Kd.R_base ho0) hb); have HO480 := am (Kd.R_lower (Kd.R_newM (M := fun k_ => (w.heap.size ≤ k_)) ho0 (below_size bw) (fun k_ h_ => h_)) (below_size bw)); replace BK459 := kb BK459 hb; replace HR477_0 := am (Kd.C_below (co HR477_0.out) hb); replace HB := am (below_step bw hb); clear hb ho0))
        go_loopg [6, 9] k2 (fun kq v6 v9 w' => ∃ (x6_3 : List (S26)) (x9_3 : Int), v9 = .int .i64 x9_3 ∧ Aside0 (spec_LargerSemigroups.l2 kq x4_1 x5_1 x6_3 x7_2 t478 x9_3 = some (r1, r2)) ∧ Aside0 (kq ≤ k2) ∧ Aside0 (Kd.N k26 26 w' w.heap.size (fun k_ => (P0_0_ k_ ∨ w.heap.size ≤ k_) ∧ some k_ ≠ ((.slice (some ad477) x5_1.length co18) : Value).ownBlock ∧ some k_ ≠ (v6 : Value).ownBlock ∧ some k_ ≠ (v479 : Value).ownBlock ∧ k_ ≠ gb459) u4 x4_1) ∧ Aside0 (Kd.N k26 26 w' w.heap.size (fun k_ => (P0_0_ k_ ∨ w.heap.size ≤ k_) ∧ some k_ ≠ (u4 : Value).ownBlock ∧ some k_ ≠ (v6 : Value).ownBlock ∧ some k_ ≠ (v479 : Value).ownBlock ∧ k_ ≠ gb459) (.slice (some ad477) x5_1.length co18) x5_1) ∧ Aside0 (Kd.N k26 26 w' w.heap.size (fun k_ => (P0_0_ k_ ∨ w.heap.size ≤ k_) ∧ some k_ ≠ (u4 : Value).ownBlock ∧ some k_ ≠ ((.slice (some ad477) x5_1.length co18) : Value).ownBlock ∧ some k_ ≠ (v479 : Value).ownBlock ∧ k_ ≠ gb459) v6 x6_3) ∧ Aside0 (Kd.R (Kd.int .i64) 3 w' w.heap.size (fun k_ => (w.heap.size ≤ k_)) v479 t478) ∧ Aside0 (Kd.V (Kd.int .i64) 3 w' w.heap.size (fun k_ => (P0_0_ k_ ∨ w.heap.size ≤ k_) ∧ some k_ ≠ (u4 : Value).ownBlock ∧ some k_ ≠ ((.slice (some ad477) x5_1.length co18) : Value).ownBlock ∧ some k_ ≠ (v6 : Value).ownBlock ∧ some k_ ≠ (v479 : Value).ownBlock ∧ k_ ≠ gb459) (.slice A0_0 l0_0.length c0_0) l0_0) ∧ Aside0 (w'.heap[gb459]? = some (.cells #[(.slice A0_0 l0_0.length c0_0)] 26 (0, 0))) ∧ Aside0 (Below w.heap.size w w'))
        case atStart => exact ⟨(x6_2), (0), rr, H', ⟨Nat.le_refl _⟩, ⟨nM HO_4.out (fun _ hk => ⟨hk.1.1, ⟨hk.1.2.1, ⟨hk.1.2.2.1, ⟨hk.2, hk.1.2.2.2⟩⟩⟩⟩)⟩, ⟨nM HO_5.out (fun _ hk => ⟨hk.1.1, ⟨hk.1.2.1, ⟨hk.1.2.2.1, ⟨hk.2, hk.1.2.2.2⟩⟩⟩⟩)⟩, ⟨nM HO_6.out (fun _ hk => ⟨hk.1.1, ⟨hk.1.2.1, ⟨hk.1.2.2.1, ⟨hk.2, hk.1.2.2.2⟩⟩⟩⟩)⟩, ⟨rM HO480.out (fun _ hk => hk.1)⟩, ⟨by (with_reducible repeat (first | apply Kd.V_alloc | apply Kd.V_drewN | apply Kd.V_drew)); exact Kd.V_mono HO_460000.out (fun _ hk => ⟨hk.1.1, ⟨hk.1.2.1, ⟨hk.1.2.2.1, ⟨hk.1.2.2.2.1, ⟨hk.2, hk.1.2.2.2.2⟩⟩⟩⟩⟩)⟩, ⟨bo BK459.out⟩, ⟨bw⟩⟩
        case round =>
         clear H'
         try clear c17; try clear c17b0; try clear c17b1; try clear c21b0; try clear c22b0; try clear hcz14_0; try clear hcz7_0; try clear hcz9_0; try clear hfz14_0; try clear hfz7_0; try clear hfz9_0; try clear hx477_0; try clear p477; try clear q477
         obtain ⟨x6_3, x9_3, rfl, HA, HK3, HO_4, HO_5, HO_6, HO_8, HO_460000, BK459, HB⟩ := hrel
         cases gk with
         | zero => exact absurd HA.out (by simp [spec_LargerSemigroups.l2])
         | succ k3 =>
          have H := HA.out
          clear HA
          simp only [spec_LargerSemigroups.l2] at H
          replace H := gi H; obtain ⟨c25b0, H⟩ | ⟨c25b0, H⟩ := H
          ·replace H := gd H; obtain ⟨c26b0, H⟩ := H
           replace H := gd H; obtain ⟨c27b0, H⟩ := H
           replace H := gd H; obtain ⟨c28b0, H⟩ := H
           replace H := ga H; obtain ⟨⟨t483, t486⟩, A29, H⟩ := H
           dsimp only at H
           replace H := ga H; obtain ⟨y488, APy488, H⟩ := H
           have H' := am H
           clear H
           obtain ⟨Ao31, co31, eo31⟩ := Kd.R_slice HO_8.out
           subst eo31
           try go_wp2
           replace HO_4 := am (Kd.N_drew HO_4.out)
           replace HO_5 := am (Kd.N_drew HO_5.out)
           replace HO_6 := am (Kd.N_drew HO_6.out)
           replace HO_8 := am (Kd.R_drew HO_8.out)
           replace HO_460000 := am (Kd.V_drew HO_460000.out)
           replace BK459 := bd BK459
           replace HB := am (below_drew1 HB.out)
           have p481 : 0 ≤ (x7_2 : Int) := od
           have q481 : x7_2 < (x5_1.length : Int) := od
           obtain ⟨ad481, A481_0, c481_0, e481, hx481_0, hl481_0, hi481_0⟩ := at_T26 (Kd.N_reads' HO_5.out).2.2 x7_2 p481 q481
           obtain rfl : ad477 = ad481 := (by injection e481)
           obtain ⟨ce481, hce481, hMe481, hcc481⟩ := Kd.N_get HO_5.out z26 x7_2 p481 (by first | exact q481 | exact od | (have e_ := (Kd.N_reads' HO_5.out).1; omega))
           obtain ⟨ua481_0, uc481_0, rfl, ul481_0, ge481_0⟩ := k26_openF hMe481
           have hv481_0 := hcc481 0 _ rfl
           rw [Nat.add_zero, show (k26).sz = 1 from rfl, Nat.mul_one] at hv481_0
           replace hv481_0 := Option.some.inj (hv481_0.symm.trans hx481_0)
           injection hv481_0 with hva_ hvn_ hvc_
           rw [hva_] at ge481_0
           rw [hvc_] at ul481_0
           have HL481_0 := am (show Kd.V (Kd.int .i64) 3 _ w.heap.size _ _ ((rd_T26 x5_1 x7_2).f0) from Kd.V_mk ul481_0 ge481_0)
           clear hva_ hvn_ hvc_ ge481_0 ul481_0
           clear hcc481 hce481
           have HR481_0 := am hi481_0
           have HC481_0 := am hl481_0
           clear hi481_0 hl481_0
           replace p481 := eq_true p481
           replace q481 := eq_true q481
           obtain ⟨⟨ad482, e482, hx482_0⟩, p482, q482⟩ := pq (Kd.at_int (Kd.R_reads' HO_8.out).2.2 x9_3)
           cases e482
           refine start_ (n := 15) (S := fun w' => w'.cell? (ad477.add (x7_2).toNat) = some (.slice A481_0 ((rd_T26 x5_1 x7_2).f0).length c481_0) ∧ w'.cell? (ad482.add (x9_3).toNat) = some (.int .i64 (rd t478 x9_3))) (ds := []) (yz 15 0) (by kernel_rfl) rfl rfl ⟨hx481_0, hx482_0⟩ (fun hHeld => ?_); refine with_tabW spec_LargerSemigroups.tab14 spec_LargerSemigroups.bits14 (fun HT_ HW_ => ?_)
           generalize wr.drew = w32 at HO_4 HO_5 HO_6 HO_8 HO_460000 BK459 HB HL481_0 HR481_0 hx481_0 hx482_0 hHeld ⊢
           refine pa 0 (some 45) (yz 15 1) HT_ ?_
           refine pa 1 (some 46) (yz 15 3) HT_ ?_
           refine pa 2 (some 47) (yz 15 7) HT_ ?_
           refine pa 4 (some 49) (yz 15 23) HT_ ?_
           refine pa 5 (some 50) (yz 15 55) HT_ ?_
           refine pa 6 (some 51) (yz 15 119) HT_ ?_
           refine tk 3 (some 48) (yz 15 127) HT_ HW_ hHeld ?_
           refine tk 7 (some 52) (yz 15 255) HT_ HW_ hHeld ?_
           refine join_ (σ := Value × Nat) 2 (yz 15 8191) (fun s_ => [(53, .tuple #[.agg #[s_.1], .bool t486]), (10, .pointer (some ⟨s_.2, 0, none⟩)), (44, .tuple #[.agg #[s_.1], .bool t486]), (54, .agg #[s_.1]), (55, .bool t486)]) (fun s_ w' => (w'.cell? (ad477.add (x7_2).toNat) = some (.slice A481_0 ((rd_T26 x5_1 x7_2).f0).length c481_0) ∧ w'.cell? (ad482.add (x9_3).toNat) = some (.int .i64 (rd t478 x9_3))) ∧ (Kd.V (Kd.int .i64) 3 w' w.heap.size (fun k_ => (P0_0_ k_ ∨ w.heap.size ≤ k_) ∧ some k_ ≠ (s_.1 : Value).ownBlock ∧ some k_ ≠ (u4 : Value).ownBlock ∧ some k_ ≠ (.slice (some ad477) x5_1.length co18 : Value).ownBlock ∧ some k_ ≠ (u6 : Value).ownBlock ∧ some k_ ≠ (.slice (some ad482) t478.length co31 : Value).ownBlock ∧ k_ ≠ gb459 ∧ k_ ≠ s_.2) (.slice A481_0 ((rd_T26 x5_1 x7_2).f0).length c481_0) ((rd_T26 x5_1 x7_2).f0)) ∧ (Kd.R (Kd.int .i64) 3 w' w.heap.size (fun k_ => (w.heap.size ≤ k_) ∧ some k_ ≠ (.slice (some ad482) t478.length co31 : Value).ownBlock) s_.1 t483) ∧ (Kd.N k26 26 w' w.heap.size (fun k_ => (P0_0_ k_ ∨ w.heap.size ≤ k_) ∧ some k_ ≠ (s_.1 : Value).ownBlock ∧ some k_ ≠ (.slice (some ad477) x5_1.length co18 : Value).ownBlock ∧ some k_ ≠ (u6 : Value).ownBlock ∧ some k_ ≠ (.slice (some ad482) t478.length co31 : Value).ownBlock ∧ k_ ≠ gb459 ∧ k_ ≠ s_.2) u4 x4_1) ∧ (Kd.V (Kd.int .i64) 3 w' w.heap.size (fun k_ => (P0_0_ k_ ∨ w.heap.size ≤ k_) ∧ some k_ ≠ (s_.1 : Value).ownBlock ∧ some k_ ≠ (u4 : Value).ownBlock ∧ some k_ ≠ (.slice (some ad477) x5_1.length co18 : Value).ownBlock ∧ some k_ ≠ (u6 : Value).ownBlock ∧ some k_ ≠ (.slice (some ad482) t478.length co31 : Value).ownBlock ∧ k_ ≠ gb459 ∧ k_ ≠ s_.2) (.slice A0_0 l0_0.length c0_0) l0_0) ∧ (Kd.N k26 26 w' w.heap.size (fun k_ => (P0_0_ k_ ∨ w.heap.size ≤ k_) ∧ some k_ ≠ (s_.1 : Value).ownBlock ∧ some k_ ≠ (u4 : Value).ownBlock ∧ some k_ ≠ (u6 : Value).ownBlock ∧ some k_ ≠ (.slice (some ad482) t478.length co31 : Value).ownBlock ∧ k_ ≠ gb459 ∧ k_ ≠ s_.2) (.slice (some ad477) x5_1.length co18) x5_1) ∧ (Kd.N k26 26 w' w.heap.size (fun k_ => (P0_0_ k_ ∨ w.heap.size ≤ k_) ∧ some k_ ≠ (s_.1 : Value).ownBlock ∧ some k_ ≠ (u4 : Value).ownBlock ∧ some k_ ≠ (.slice (some ad477) x5_1.length co18 : Value).ownBlock ∧ some k_ ≠ (.slice (some ad482) t478.length co31 : Value).ownBlock ∧ k_ ≠ gb459 ∧ k_ ≠ s_.2) u6 x6_3) ∧ (Kd.R (Kd.int .i64) 3 w' w.heap.size (fun k_ => (w.heap.size ≤ k_) ∧ some k_ ≠ (s_.1 : Value).ownBlock) (.slice (some ad482) t478.length co31) t478) ∧ (w'.heap[gb459]? = some (.cells #[.slice A0_0 l0_0.length c0_0] 26 (0, 0))) ∧ (w'.heap[s_.2]? = some (.cells #[.slice none 0 0] 26 (0, 0))) ∧ (w.heap.size ≤ s_.2) ∧ (w.heap.size ≤ s_.2) ∧ (gb459 ≠ s_.2) ∧ (s_.2 ≠ gb459) ∧ (Below w.heap.size w w')) ?_ ?_
           rotate_left
           ·intro hCont
            refine two_ (i := 8) (j := 12) (Ni := some 53) (Nj := some 10) (yz 15 511) (yz 15 4351) rfl rfl rfl rfl (two_of HT_.out (by kernel_rfl)) (by decide) (by decide) (fun K hK => ?_) (fun K hK => ?_)
            ·skip
             refine gm Try.func41 #[.agg #[.slice A481_0 ((rd_T26 x5_1 x7_2).f0).length c481_0], .int .i64 (rd t478 x9_3)] ?_
             with_reducible refine (spec_AddGap.calls k3 _ _ ((rd_T26 x5_1 x7_2).f0) (rd t478 x9_3) t483 t486 _ ?side1 ?side2 A29.out).mono ?_
             (case side1 => exact co HR481_0.out)
             (case side2 => exact HC481_0.out)
             rintro e w33 ⟨v484, rfl, ho0, hb⟩
             have HS0_ := (hb.cell (World.block_lt_of_cell? _ _ (hHeld.1))).trans (hHeld.1)
             have HS1_ := (hb.cell (World.block_lt_of_cell? _ _ (hHeld.2))).trans (hHeld.2)
             refine ⟨_, rfl, ?_⟩
             replace HO_4 := am (Kd.N_elder' (no HO_4.out) (Kd.R_base ho0) hb)
             replace HO_5 := am (Kd.N_elder' (no HO_5.out) (Kd.R_base ho0) hb)
             replace HO_6 := am (Kd.N_elder' (no HO_6.out) (Kd.R_base ho0) hb)
             replace HO_460000 := am (Kd.V_elder' (vo HO_460000.out) (Kd.R_base ho0) hb)
             replace HL481_0 := am (Kd.V_elder' (vo HL481_0.out) (Kd.R_base ho0) hb)
             have HO485 := am (Kd.R_lower (Kd.R_new' (Kd.R_newM (M := fun k_ => (w.heap.size ≤ k_)) ho0 (below_size bw) (fun k_ h_ => h_)) (Kd.R_lt (ro HO_8.out))) (below_size bw))
             replace HO_8 := am (Kd.R_elder' (ro HO_8.out) (Kd.R_base ho0) hb)
             replace BK459 := kb BK459 hb
             replace HR481_0 := am (Kd.C_below (co HR481_0.out) hb)
             replace HB := am (below_step bw hb)
             clear hb ho0
             refine hK.out _ _ ⟨HS0_, HS1_⟩ (fun hHeld => ?_)
             clear hK K
             refine nm (some 53) ?_
             refine pa 9 (some 44) (yz 15 1023) HT_ ?_
             refine pa 10 (some 54) (yz 15 2047) HT_ ?_
             refine pa 11 (some 55) (yz 15 4095) HT_ ?_
             refine oa 12 (some 10) (yz 15 8191) HT_ (fun K hK => ?_)
             refine box_step ?hg (N := 10) ?hd (cs := #[.slice none 0 0]) (t := 26) ?hr ?_; (case hd => rfl); (case hg => rfl); (case hr => first | (go_simp; done) | (go_simp; rfl))
             intro gb487 hg w34 hbox hb
             have HS0_ := (hb.cell (World.block_lt_of_cell? _ _ (hHeld.1))).trans (hHeld.1)
             have HS1_ := (hb.cell (World.block_lt_of_cell? _ _ (hHeld.2))).trans (hHeld.2)
             replace HO_4 := am (Kd.N_below (Kd.N_elderB (no HO_4.out) gb487 (Nat.le_of_eq hg.symm)) hb)
             replace HO_5 := am (Kd.N_below (Kd.N_elderB (no HO_5.out) gb487 (Nat.le_of_eq hg.symm)) hb)
             replace HO_6 := am (Kd.N_below (Kd.N_elderB (no HO_6.out) gb487 (Nat.le_of_eq hg.symm)) hb)
             replace HO_8 := rK HO_8 hb
             replace HO_460000 := am (Kd.V_below (Kd.V_elderB (vo HO_460000.out) gb487 (Nat.le_of_eq hg.symm)) hb)
             replace HL481_0 := am (Kd.V_below (Kd.V_elderB (vo HL481_0.out) gb487 (Nat.le_of_eq hg.symm)) hb)
             replace HO485 := rK HO485 hb
             replace HR481_0 := am (Kd.C_below (co HR481_0.out) hb)
             have BK487 := am (hbox)
             have GW487 := am (gs hg : w.heap.size ≤ gb487)
             have GE487 := am (gs hg : w.heap.size ≤ gb487)
             replace HB := am (below_step bw hb)
             have NB459_487 := nl hg BK459
             have NB487_459 := ng hg BK459
             replace BK459 := kb BK459 hb
             clear hb hbox hg
             refine hK.out _ _ ⟨HS0_, HS1_⟩ (fun hHeld => ?_)
             clear hK K
             refine nm (some 10) ?_
             exact norm_ (by simp only [putAll, Act.put, List.setIfInBounds_toArray, List.set_cons_zero, List.set_cons_succ]) (hCont (v484, gb487) _ ⟨hHeld, (by (with_reducible repeat (first | apply Kd.V_alloc | apply Kd.V_drewN | apply Kd.V_drew)); exact Kd.V_mono HL481_0.out (fun _ hk => ⟨hk.1.1.1.1, ⟨hk.1.2, ⟨hk.1.1.1.2.1, ⟨hk.1.1.2, ⟨hk.1.1.1.2.2.1, ⟨hk.1.1.1.2.2.2.1, ⟨hk.1.1.1.2.2.2.2, hk.2⟩⟩⟩⟩⟩⟩⟩)), (rM HO485.out (fun _ hk => by first | exact ⟨hk.1.1, hk.2⟩ | simp_all)), (nM HO_4.out (fun _ hk => ⟨hk.1.1.1, ⟨hk.1.2, ⟨hk.1.1.2.1, ⟨hk.1.1.2.2.1, ⟨hk.1.1.2.2.2.1, ⟨hk.1.1.2.2.2.2, hk.2⟩⟩⟩⟩⟩⟩)), (by (with_reducible repeat (first | apply Kd.V_alloc | apply Kd.V_drewN | apply Kd.V_drew)); exact Kd.V_mono HO_460000.out (fun _ hk => ⟨hk.1.1.1, ⟨hk.1.2, ⟨hk.1.1.2.1, ⟨hk.1.1.2.2.1, ⟨hk.1.1.2.2.2.1, ⟨hk.1.1.2.2.2.2.1, ⟨hk.1.1.2.2.2.2.2, hk.2⟩⟩⟩⟩⟩⟩⟩)), (nM HO_5.out (fun _ hk => ⟨hk.1.1.1, ⟨hk.1.2, ⟨hk.1.1.2.1, ⟨hk.1.1.2.2.1, ⟨hk.1.1.2.2.2.1, ⟨hk.1.1.2.2.2.2, hk.2⟩⟩⟩⟩⟩⟩)), (nM HO_6.out (fun _ hk => ⟨hk.1.1.1, ⟨hk.1.2, ⟨hk.1.1.2.1, ⟨hk.1.1.2.2.1, ⟨hk.1.1.2.2.2.1, ⟨hk.1.1.2.2.2.2, hk.2⟩⟩⟩⟩⟩⟩)), (ro HO_8.out), (bo BK459.out), (bo BK487.out), GW487.out, GE487.out, NB459_487.out, NB487_459.out, bw⟩)
            skip
            refine box_step ?hg (N := 10) ?hd (cs := #[.slice none 0 0]) (t := 26) ?hr ?_; (case hd => rfl); (case hg => rfl); (case hr => first | (go_simp; done) | (go_simp; rfl))
            intro gb487 hg w33 hbox hb
            have HS0_ := (hb.cell (World.block_lt_of_cell? _ _ (hHeld.1))).trans (hHeld.1)
            have HS1_ := (hb.cell (World.block_lt_of_cell? _ _ (hHeld.2))).trans (hHeld.2)
            replace HO_4 := am (Kd.N_below (Kd.N_elderB (no HO_4.out) gb487 (Nat.le_of_eq hg.symm)) hb)
            replace HO_5 := am (Kd.N_below (Kd.N_elderB (no HO_5.out) gb487 (Nat.le_of_eq hg.symm)) hb)
            replace HO_6 := am (Kd.N_below (Kd.N_elderB (no HO_6.out) gb487 (Nat.le_of_eq hg.symm)) hb)
            replace HO_8 := rK HO_8 hb
            replace HO_460000 := am (Kd.V_below (Kd.V_elderB (vo HO_460000.out) gb487 (Nat.le_of_eq hg.symm)) hb)
            replace HL481_0 := am (Kd.V_below (Kd.V_elderB (vo HL481_0.out) gb487 (Nat.le_of_eq hg.symm)) hb)
            replace HR481_0 := am (Kd.C_below (co HR481_0.out) hb)
            have BK487 := am (hbox)
            have GW487 := am (gs hg : w.heap.size ≤ gb487)
            have GE487 := am (gs hg : w.heap.size ≤ gb487)
            replace HB := am (below_step bw hb)
            have NB459_487 := nl hg BK459
            have NB487_459 := ng hg BK459
            replace BK459 := kb BK459 hb
            clear hb hbox hg
            refine hK.out _ _ ⟨HS0_, HS1_⟩ (fun hHeld => ?_)
            clear hK K
            refine nm (some 10) ?_
            refine oa 8 (some 53) (yz 15 4607) HT_ (fun K hK => ?_)
            refine gm Try.func41 #[.agg #[.slice A481_0 ((rd_T26 x5_1 x7_2).f0).length c481_0], .int .i64 (rd t478 x9_3)] ?_
            with_reducible refine (spec_AddGap.calls k3 _ _ ((rd_T26 x5_1 x7_2).f0) (rd t478 x9_3) t483 t486 _ ?side1 ?side2 A29.out).mono ?_
            (case side1 => exact co HR481_0.out)
            (case side2 => exact HC481_0.out)
            rintro e w34 ⟨v484, rfl, ho0, hb⟩
            have HS0_ := (hb.cell (World.block_lt_of_cell? _ _ (hHeld.1))).trans (hHeld.1)
            have HS1_ := (hb.cell (World.block_lt_of_cell? _ _ (hHeld.2))).trans (hHeld.2)
            refine ⟨_, rfl, ?_⟩
            replace HO_4 := am (Kd.N_elder' (no HO_4.out) (Kd.R_base ho0) hb)
            replace HO_5 := am (Kd.N_elder' (no HO_5.out) (Kd.R_base ho0) hb)
            replace HO_6 := am (Kd.N_elder' (no HO_6.out) (Kd.R_base ho0) hb)
            replace HO_460000 := am (Kd.V_elder' (vo HO_460000.out) (Kd.R_base ho0) hb)
            replace HL481_0 := am (Kd.V_elder' (vo HL481_0.out) (Kd.R_base ho0) hb)
            have HO485 := am (Kd.R_lower (Kd.R_new' (Kd.R_newM (M := fun k_ => (w.heap.size ≤ k_)) ho0 (below_size bw) (fun k_ h_ => h_)) (Kd.R_lt (ro HO_8.out))) (below_size bw))
            replace HO_8 := am (Kd.R_elder' (ro HO_8.out) (Kd.R_base ho0) hb)
            replace BK459 := kb BK459 hb
            replace HR481_0 := am (Kd.C_below (co HR481_0.out) hb)
            replace BK487 := kb BK487 hb
            replace HB := am (below_step bw hb)
            clear hb ho0
            refine hK.out _ _ ⟨HS0_, HS1_⟩ (fun hHeld => ?_)
            clear hK K
            refine nm (some 53) ?_
            refine pa 9 (some 44) (yz 15 5119) HT_ ?_
            refine pa 10 (some 54) (yz 15 6143) HT_ ?_
            refine pa 11 (some 55) (yz 15 8191) HT_ ?_
            exact norm_ (by simp only [putAll, Act.put, List.setIfInBounds_toArray, List.set_cons_zero, List.set_cons_succ]) (hCont (v484, gb487) _ ⟨hHeld, (by (with_reducible repeat (first | apply Kd.V_alloc | apply Kd.V_drewN | apply Kd.V_drew)); exact Kd.V_mono HL481_0.out (fun _ hk => ⟨hk.1.1.1.1, ⟨hk.2, ⟨hk.1.1.1.2.1, ⟨hk.1.1.2, ⟨hk.1.1.1.2.2.1, ⟨hk.1.1.1.2.2.2.1, ⟨hk.1.1.1.2.2.2.2, hk.1.2⟩⟩⟩⟩⟩⟩⟩)), (rM HO485.out (fun _ hk => by first | exact ⟨hk.1.1, hk.2⟩ | simp_all)), (nM HO_4.out (fun _ hk => ⟨hk.1.1.1, ⟨hk.2, ⟨hk.1.1.2.1, ⟨hk.1.1.2.2.1, ⟨hk.1.1.2.2.2.1, ⟨hk.1.1.2.2.2.2, hk.1.2⟩⟩⟩⟩⟩⟩)), (by (with_reducible repeat (first | apply Kd.V_alloc | apply Kd.V_drewN | apply Kd.V_drew)); exact Kd.V_mono HO_460000.out (fun _ hk => ⟨hk.1.1.1, ⟨hk.2, ⟨hk.1.1.2.1, ⟨hk.1.1.2.2.1, ⟨hk.1.1.2.2.2.1, ⟨hk.1.1.2.2.2.2.1, ⟨hk.1.1.2.2.2.2.2, hk.1.2⟩⟩⟩⟩⟩⟩⟩)), (nM HO_5.out (fun _ hk => ⟨hk.1.1.1, ⟨hk.2, ⟨hk.1.1.2.1, ⟨hk.1.1.2.2.1, ⟨hk.1.1.2.2.2.1, ⟨hk.1.1.2.2.2.2, hk.1.2⟩⟩⟩⟩⟩⟩)), (nM HO_6.out (fun _ hk => ⟨hk.1.1.1, ⟨hk.2, ⟨hk.1.1.2.1, ⟨hk.1.1.2.2.1, ⟨hk.1.1.2.2.2.1, ⟨hk.1.1.2.2.2.2, hk.1.2⟩⟩⟩⟩⟩⟩)), (ro HO_8.out), (bo BK459.out), (bo BK487.out), GW487.out, GE487.out, NB459_487.out, NB487_459.out, bw⟩)
           rintro ⟨v484, gb487⟩ w35 ⟨hS_, h0_, h1_, h2_, h3_, h4_, h5_, h6_, h7_, h8_, h9_, h10_, h11_, h12_, h13_⟩
           have n0_ : Aside0 (Kd.V (Kd.int .i64) 3 w35 w.heap.size (fun k_ => (P0_0_ k_ ∨ w.heap.size ≤ k_) ∧ some k_ ≠ (v484 : Value).ownBlock ∧ some k_ ≠ (u4 : Value).ownBlock ∧ some k_ ≠ (.slice (some ad477) x5_1.length co18 : Value).ownBlock ∧ some k_ ≠ (u6 : Value).ownBlock ∧ some k_ ≠ (.slice (some ad482) t478.length co31 : Value).ownBlock ∧ k_ ≠ gb459 ∧ k_ ≠ gb487) (.slice A481_0 ((rd_T26 x5_1 x7_2).f0).length c481_0) ((rd_T26 x5_1 x7_2).f0)) := ⟨h0_⟩
           have n1_ : Aside0 (Kd.R (Kd.int .i64) 3 w35 w.heap.size (fun k_ => (w.heap.size ≤ k_) ∧ some k_ ≠ (.slice (some ad482) t478.length co31 : Value).ownBlock) v484 t483) := ⟨h1_⟩
           have n2_ : Aside0 (Kd.N k26 26 w35 w.heap.size (fun k_ => (P0_0_ k_ ∨ w.heap.size ≤ k_) ∧ some k_ ≠ (v484 : Value).ownBlock ∧ some k_ ≠ (.slice (some ad477) x5_1.length co18 : Value).ownBlock ∧ some k_ ≠ (u6 : Value).ownBlock ∧ some k_ ≠ (.slice (some ad482) t478.length co31 : Value).ownBlock ∧ k_ ≠ gb459 ∧ k_ ≠ gb487) u4 x4_1) := ⟨h2_⟩
           have n3_ : Aside0 (Kd.V (Kd.int .i64) 3 w35 w.heap.size (fun k_ => (P0_0_ k_ ∨ w.heap.size ≤ k_) ∧ some k_ ≠ (v484 : Value).ownBlock ∧ some k_ ≠ (u4 : Value).ownBlock ∧ some k_ ≠ (.slice (some ad477) x5_1.length co18 : Value).ownBlock ∧ some k_ ≠ (u6 : Value).ownBlock ∧ some k_ ≠ (.slice (some ad482) t478.length co31 : Value).ownBlock ∧ k_ ≠ gb459 ∧ k_ ≠ gb487) (.slice A0_0 l0_0.length c0_0) l0_0) := ⟨h3_⟩
           have n4_ : Aside0 (Kd.N k26 26 w35 w.heap.size (fun k_ => (P0_0_ k_ ∨ w.heap.size ≤ k_) ∧ some k_ ≠ (v484 : Value).ownBlock ∧ some k_ ≠ (u4 : Value).ownBlock ∧ some k_ ≠ (u6 : Value).ownBlock ∧ some k_ ≠ (.slice (some ad482) t478.length co31 : Value).ownBlock ∧ k_ ≠ gb459 ∧ k_ ≠ gb487) (.slice (some ad477) x5_1.length co18) x5_1) := ⟨h4_⟩
           have n5_ : Aside0 (Kd.N k26 26 w35 w.heap.size (fun k_ => (P0_0_ k_ ∨ w.heap.size ≤ k_) ∧ some k_ ≠ (v484 : Value).ownBlock ∧ some k_ ≠ (u4 : Value).ownBlock ∧ some k_ ≠ (.slice (some ad477) x5_1.length co18 : Value).ownBlock ∧ some k_ ≠ (.slice (some ad482) t478.length co31 : Value).ownBlock ∧ k_ ≠ gb459 ∧ k_ ≠ gb487) u6 x6_3) := ⟨h5_⟩
           have n6_ : Aside0 (Kd.R (Kd.int .i64) 3 w35 w.heap.size (fun k_ => (w.heap.size ≤ k_) ∧ some k_ ≠ (v484 : Value).ownBlock) (.slice (some ad482) t478.length co31) t478) := ⟨h6_⟩
           have n7_ : Aside0 (w35.heap[gb459]? = some (.cells #[.slice A0_0 l0_0.length c0_0] 26 (0, 0))) := ⟨h7_⟩
           have n8_ : Aside0 (w35.heap[gb487]? = some (.cells #[.slice none 0 0] 26 (0, 0))) := ⟨h8_⟩
           have n9_ : Aside0 (w.heap.size ≤ gb487) := ⟨h9_⟩
           have n10_ : Aside0 (w.heap.size ≤ gb487) := ⟨h10_⟩
           have n11_ : Aside0 (gb459 ≠ gb487) := ⟨h11_⟩
           have n12_ : Aside0 (gb487 ≠ gb459) := ⟨h12_⟩
           have n13_ : Aside0 (Below w.heap.size w w35) := ⟨h13_⟩
           clear HO_4
           clear HO_5
           clear HO_6
           clear HO_8
           clear HO_460000
           clear BK459
           clear HB
           clear h0_ h1_ h2_ h3_ h4_ h5_ h6_ h7_ h8_ h9_ h10_ h11_ h12_ h13_
           have HL481_0 := n0_
           have HO485 := n1_
           have HO_4 := n2_
           have HO_460000 := n3_
           have HO_5 := n4_
           have HO_6 := n5_
           have HO_8 := n6_
           have BK459 := n7_
           have BK487 := n8_
           have GW487 := n9_
           have GE487 := n10_
           have NB459_487 := n11_
           have NB487_459 := n12_
           have HB := n13_
           clear n0_ n1_ n2_ n3_ n4_ n5_ n6_ n7_ n8_ n9_ n10_ n11_ n12_ n13_
           have hHeld : w35.cell? (ad477.add (x7_2).toNat) = some (.slice A481_0 ((rd_T26 x5_1 x7_2).f0).length c481_0) ∧ w35.cell? (ad482.add (x9_3).toNat) = some (.int .i64 (rd t478 x9_3)) := hS_
           obtain ⟨Ao36, co36, eo36⟩ := Kd.R_slice HO485.out
           (first | subst eo36 | (injection eo36 with f1_ f2_ f3_; have f4_ := f1_.symm; have f5_ := f3_.symm; clear f1_ f2_ f3_; subst f4_; subst f5_))
           refine norm_ (a' := ?_) ?_ ?_
           rotate_left
           ·simp only [putAll, Act.put, List.setIfInBounds_toArray, List.set_cons_zero, List.set_cons_succ]
            rfl
           refine oa 13 none (yz 15 16383) HT_ (fun K hK => ?_)
           have hs37 := bc BK487 0 (.slice none 0 0)
           have hfs37 := blk_frozen BK487.out 0
           have hns37_0 := NB459_487.out
           have hms37_0 := NB487_459.out
           refine skip_ (w1 := ?_) (by rfl) rfl ?_ ?_
           rotate_left
           ·go_simp
            rfl
           refine hK.out _ _ ⟨((cell_far (p := ⟨gb487, _, none⟩) (by first | exact Kd.own_blk (Kd.N_away HO_5.out (fun _ hk => by first | exact hk.2.2.2.2.2.2 | simp_all)) | (rw [add_block]; exact Kd.own_blk (Kd.N_away HO_5.out (fun _ hk => by first | exact hk.2.2.2.2.2.2 | simp_all))) | (show (Addr.add _ _).block ≠ _; rw [add_block]; exact Kd.own_blk (Kd.N_away HO_5.out (fun _ hk => by first | exact hk.2.2.2.2.2.2 | simp_all))) | (dsimp only; exact Kd.own_blk (Kd.N_away HO_5.out (fun _ hk => by first | exact hk.2.2.2.2.2.2 | simp_all)))) _).trans (hHeld.1)), ((cell_far (p := ⟨gb487, _, none⟩) (by first | exact Kd.own_blk (Kd.R_ne HO_8.out BK487.out (by decide)) | (rw [add_block]; exact Kd.own_blk (Kd.R_ne HO_8.out BK487.out (by decide))) | (show (Addr.add _ _).block ≠ _; rw [add_block]; exact Kd.own_blk (Kd.R_ne HO_8.out BK487.out (by decide))) | (dsimp only; exact Kd.own_blk (Kd.R_ne HO_8.out BK487.out (by decide)))) _).trans (hHeld.2))⟩ (fun hHeld => ?_)
           clear hK K
           refine pa 14 (some 11) (yz 15 32767) HT_ ?_
           refine done_ (done_of HT_.out (by kernel_rfl)) ?_
           have n0_ : Aside0 (Kd.N k26 26 (w35.setCell ⟨gb487, 0, none⟩ (.slice Ao36 t483.length co36)) w.heap.size (fun k_ => (P0_0_ k_ ∨ w.heap.size ≤ k_) ∧ some k_ ≠ (.slice (some ad477) x5_1.length co18 : Value).ownBlock ∧ some k_ ≠ (u6 : Value).ownBlock ∧ some k_ ≠ (.slice (some ad482) t478.length co31 : Value).ownBlock ∧ nb k_ Ao36 t483 co36 ∧ k_ ≠ gb459 ∧ k_ ≠ gb487) u4 x4_1) := ⟨nM (Kd.N_far (p := ⟨gb487, 0, none⟩) (Kd.N_mono HO_4.out (fun k_ hk => (⟨hk, hk.2.2.2.2.2.2⟩ : _ ∧ k_ ≠ gb487))) (fun _ hk => hk.2) (.slice Ao36 t483.length co36)) (fun _ hk => ⟨hk.1.1, ⟨hk.1.2.2.1, ⟨hk.1.2.2.2.1, ⟨hk.1.2.2.2.2.1, ⟨hk.1.2.1, ⟨hk.1.2.2.2.2.2.1, hk.1.2.2.2.2.2.2⟩⟩⟩⟩⟩⟩)⟩
           have n1_ : Aside0 (Kd.N k26 26 (w35.setCell ⟨gb487, 0, none⟩ (.slice Ao36 t483.length co36)) w.heap.size (fun k_ => (P0_0_ k_ ∨ w.heap.size ≤ k_) ∧ some k_ ≠ (u4 : Value).ownBlock ∧ some k_ ≠ (u6 : Value).ownBlock ∧ some k_ ≠ (.slice (some ad482) t478.length co31 : Value).ownBlock ∧ nb k_ Ao36 t483 co36 ∧ k_ ≠ gb459 ∧ k_ ≠ gb487) (.slice (some ad477) x5_1.length co18) x5_1) := ⟨nM (Kd.N_far (p := ⟨gb487, 0, none⟩) (Kd.N_mono HO_5.out (fun k_ hk => (⟨hk, hk.2.2.2.2.2.2⟩ : _ ∧ k_ ≠ gb487))) (fun _ hk => hk.2) (.slice Ao36 t483.length co36)) (fun _ hk => ⟨hk.1.1, ⟨hk.1.2.2.1, ⟨hk.1.2.2.2.1, ⟨hk.1.2.2.2.2.1, ⟨hk.1.2.1, ⟨hk.1.2.2.2.2.2.1, hk.1.2.2.2.2.2.2⟩⟩⟩⟩⟩⟩)⟩
           have n2_ : Aside0 (Kd.N k26 26 (w35.setCell ⟨gb487, 0, none⟩ (.slice Ao36 t483.length co36)) w.heap.size (fun k_ => (P0_0_ k_ ∨ w.heap.size ≤ k_) ∧ some k_ ≠ (u4 : Value).ownBlock ∧ some k_ ≠ (.slice (some ad477) x5_1.length co18 : Value).ownBlock ∧ some k_ ≠ (.slice (some ad482) t478.length co31 : Value).ownBlock ∧ nb k_ Ao36 t483 co36 ∧ k_ ≠ gb459 ∧ k_ ≠ gb487) u6 x6_3) := ⟨nM (Kd.N_far (p := ⟨gb487, 0, none⟩) (Kd.N_mono HO_6.out (fun k_ hk => (⟨hk, hk.2.2.2.2.2.2⟩ : _ ∧ k_ ≠ gb487))) (fun _ hk => hk.2) (.slice Ao36 t483.length co36)) (fun _ hk => ⟨hk.1.1, ⟨hk.1.2.2.1, ⟨hk.1.2.2.2.1, ⟨hk.1.2.2.2.2.1, ⟨hk.1.2.1, ⟨hk.1.2.2.2.2.2.1, hk.1.2.2.2.2.2.2⟩⟩⟩⟩⟩⟩)⟩
           have n3_ : Aside0 (Kd.R (Kd.int .i64) 3 (w35.setCell ⟨gb487, 0, none⟩ (.slice Ao36 t483.length co36)) w.heap.size (fun k_ => (w.heap.size ≤ k_) ∧ nb k_ Ao36 t483 co36) (.slice (some ad482) t478.length co31) t478) := ⟨rM (Kd.R_far (p := ⟨gb487, 0, none⟩) (Kd.R_types HO_8.out BK487.out (by decide)) (fun _ hk => hk.2) (.slice Ao36 t483.length co36)) (fun _ hk => by first | exact ⟨hk.1.1, hk.1.2⟩ | simp_all)⟩
           have n4_ : Aside0 (Kd.V (Kd.int .i64) 3 (w35.setCell ⟨gb487, 0, none⟩ (.slice Ao36 t483.length co36)) w.heap.size (fun k_ => (P0_0_ k_ ∨ w.heap.size ≤ k_) ∧ some k_ ≠ (u4 : Value).ownBlock ∧ some k_ ≠ (.slice (some ad477) x5_1.length co18 : Value).ownBlock ∧ some k_ ≠ (u6 : Value).ownBlock ∧ some k_ ≠ (.slice (some ad482) t478.length co31 : Value).ownBlock ∧ nb k_ Ao36 t483 co36 ∧ k_ ≠ gb459 ∧ k_ ≠ gb487) (.slice A0_0 l0_0.length c0_0) l0_0) := ⟨by (with_reducible repeat (first | apply Kd.V_alloc | apply Kd.V_drewN | apply Kd.V_drew)); exact Kd.V_mono (Kd.V_far (p := ⟨gb487, 0, none⟩) (Kd.V_mono HO_460000.out (fun k_ hk => (⟨hk, hk.2.2.2.2.2.2.2⟩ : _ ∧ k_ ≠ gb487))) (fun _ hk => hk.2) (.slice Ao36 t483.length co36)) (fun _ hk => ⟨hk.1.1, ⟨hk.1.2.2.1, ⟨hk.1.2.2.2.1, ⟨hk.1.2.2.2.2.1, ⟨hk.1.2.2.2.2.2.1, ⟨hk.1.2.1, ⟨hk.1.2.2.2.2.2.2.1, hk.1.2.2.2.2.2.2.2⟩⟩⟩⟩⟩⟩⟩)⟩
           have n5_ : Aside0 (Kd.V (Kd.int .i64) 3 (w35.setCell ⟨gb487, 0, none⟩ (.slice Ao36 t483.length co36)) w.heap.size (fun k_ => (P0_0_ k_ ∨ w.heap.size ≤ k_) ∧ some k_ ≠ (u4 : Value).ownBlock ∧ some k_ ≠ (.slice (some ad477) x5_1.length co18 : Value).ownBlock ∧ some k_ ≠ (u6 : Value).ownBlock ∧ some k_ ≠ (.slice (some ad482) t478.length co31 : Value).ownBlock ∧ nb k_ Ao36 t483 co36 ∧ k_ ≠ gb459 ∧ k_ ≠ gb487) (.slice A481_0 ((rd_T26 x5_1 x7_2).f0).length c481_0) ((rd_T26 x5_1 x7_2).f0)) := ⟨by (with_reducible repeat (first | apply Kd.V_alloc | apply Kd.V_drewN | apply Kd.V_drew)); exact Kd.V_mono (Kd.V_far (p := ⟨gb487, 0, none⟩) (Kd.V_mono HL481_0.out (fun k_ hk => (⟨hk, hk.2.2.2.2.2.2.2⟩ : _ ∧ k_ ≠ gb487))) (fun _ hk => hk.2) (.slice Ao36 t483.length co36)) (fun _ hk => ⟨hk.1.1, ⟨hk.1.2.2.1, ⟨hk.1.2.2.2.1, ⟨hk.1.2.2.2.2.1, ⟨hk.1.2.2.2.2.2.1, ⟨hk.1.2.1, ⟨hk.1.2.2.2.2.2.2.1, hk.1.2.2.2.2.2.2.2⟩⟩⟩⟩⟩⟩⟩)⟩
           have n6_ : Aside0 (Kd.R (Kd.int .i64) 3 (w35.setCell ⟨gb487, 0, none⟩ (.slice Ao36 t483.length co36)) w.heap.size (fun k_ => (w.heap.size ≤ k_) ∧ some k_ ≠ (.slice (some ad482) t478.length co31 : Value).ownBlock) (.slice Ao36 t483.length co36) t483) := ⟨rM (Kd.R_far (p := ⟨gb487, 0, none⟩) (Kd.R_types HO485.out BK487.out (by decide)) (fun _ hk => hk.2) (.slice Ao36 t483.length co36)) (fun _ hk => by first | exact ⟨hk.1.1, hk.1.2⟩ | simp_all)⟩
           have n7_ : Aside0 ((w35.setCell ⟨gb487, 0, none⟩ (.slice Ao36 t483.length co36)).heap[gb459]? = some (.cells #[.slice A0_0 l0_0.length c0_0] 26 (0, 0))) := ⟨bf BK459.out⟩
           have n8_ : Aside0 ((w35.setCell ⟨gb487, 0, none⟩ (.slice Ao36 t483.length co36)).heap[gb487]? = some (.cells #[.slice Ao36 t483.length co36] 26 (0, 0))) := ⟨bp BK487.out⟩
           have n9_ : Aside0 (Below w.heap.size w (w35.setCell ⟨gb487, 0, none⟩ (.slice Ao36 t483.length co36))) := ⟨bw⟩
           (try clear HO_4); (try clear HO_5); (try clear HO_6); (try clear HO_8); (try clear HO_460000); (try clear HL481_0); (try clear HO485); (try clear BK459); (try clear BK487); (try clear HB)
           generalize (w35.setCell ⟨gb487, 0, none⟩ (.slice Ao36 t483.length co36)) = w38 at n0_ n1_ n2_ n3_ n4_ n5_ n6_ n7_ n8_ n9_ ⊢
           have HO_4 := n0_
           have HO_5 := n1_
           have HO_6 := n2_
           have HO_8 := n3_
           have HO_460000 := n4_
           have HL481_0 := n5_
           have HO485 := n6_
           have BK459 := n7_
           have BK487 := n8_
           have HB := n9_
           clear n0_ n1_ n2_ n3_ n4_ n5_ n6_ n7_ n8_ n9_
           have hnb39 := NB487_459.out
           have hnc39 := NB459_487.out
           have hcz40_0 := bc BK487 0 (.slice Ao36 t483.length co36)
           have hfz40_0 := blk_frozen BK487.out 0
           try go_wp2_with (first | ((with_reducible refine gate_callee (f := 42) rfl ?_); refine gl (some 58) Try.func42 #[u6, .agg #[.slice Ao36 t483.length co36]] ?_; (with_reducible refine (spec_l19Put.calls k3 (fun k_ => (P0_0_ k_ ∨ w.heap.size ≤ k_) ∧ some k_ ≠ (u4 : Value).ownBlock ∧ some k_ ≠ (.slice (some ad477) x5_1.length co18 : Value).ownBlock ∧ some k_ ≠ (.slice (some ad482) t478.length co31 : Value).ownBlock ∧ k_ ≠ gb459 ∧ k_ ≠ gb487) u6 x6_3 _ _ (t483) y488 w _ ?sB ?sN ?sF ?sR ?sC APy488.out).mono ?_); (case sB => exact bw); (case sN => exact (nM HO_6.out (fun _ hk => ⟨hk.1, ⟨hk.2.1, ⟨hk.2.2.1, ⟨hk.2.2.2.1, ⟨hk.2.2.2.2.2.1, hk.2.2.2.2.2.2⟩⟩⟩⟩⟩))); (case sF => exact (fun k_ hk => ⟨(.inr (Nat.le_trans (below_size bw) hk)), Kd.fresh' (Kd.N_lt (no HO_4.out)) k_ hk, Kd.fresh' (Kd.N_lt (no HO_5.out)) k_ hk, Kd.fresh' (Kd.R_lt (ro HO_8.out)) k_ hk, Kd.freshB (g := gb459) (o := .cells #[.slice A0_0 l0_0.length c0_0] 26 (0, 0)) (bo BK459.out) k_ hk, Kd.freshB (g := gb487) (o := .cells #[.slice Ao36 t483.length co36] 26 (0, 0)) (bo BK487.out) k_ hk⟩)); (case sR => exact co (Kd.R_reads' HO485.out).2.2); (case sC => exact (Kd.R_reads' HO485.out).2.1); rintro e w41 ⟨v489, rfl, ho, hb, hg, hat⟩; refine ⟨_, rfl, ?_⟩; replace HO_4 := am (Kd.N_afterv (ok := (fun k_ => (P0_0_ k_ ∨ w.heap.size ≤ k_) ∧ some k_ ≠ (.slice (some ad477) x5_1.length co18 : Value).ownBlock ∧ some k_ ≠ (.slice (some ad482) t478.length co31 : Value).ownBlock ∧ nb k_ Ao36 t483 co36 ∧ k_ ≠ gb459 ∧ k_ ≠ gb487)) (nM HO_4.out (fun _ hk => ⟨⟨hk.1, ⟨hk.2.1, ⟨hk.2.2.2.1, ⟨hk.2.2.2.2.1, ⟨hk.2.2.2.2.2.1, hk.2.2.2.2.2.2⟩⟩⟩⟩⟩, hk.2.2.1⟩)) hg hat); replace HO_5 := am (Kd.N_afterv (ok := (fun k_ => (P0_0_ k_ ∨ w.heap.size ≤ k_) ∧ some k_ ≠ (u4 : Value).ownBlock ∧ some k_ ≠ (.slice (some ad482) t478.length co31 : Value).ownBlock ∧ nb k_ Ao36 t483 co36 ∧ k_ ≠ gb459 ∧ k_ ≠ gb487)) (nM HO_5.out (fun _ hk => ⟨⟨hk.1, ⟨hk.2.1, ⟨hk.2.2.2.1, ⟨hk.2.2.2.2.1, ⟨hk.2.2.2.2.2.1, hk.2.2.2.2.2.2⟩⟩⟩⟩⟩, hk.2.2.1⟩)) hg hat); replace HO_8 := am (Kd.R_over' (ro HO_8.out) (Kd.N_typed (no HO_6.out)) (by decide) hg); replace HO_460000 := am (Kd.V_afterv (ok := (fun k_ => (P0_0_ k_ ∨ w.heap.size ≤ k_) ∧ some k_ ≠ (u4 : Value).ownBlock ∧ some k_ ≠ (.slice (some ad477) x5_1.length co18 : Value).ownBlock ∧ some k_ ≠ (.slice (some ad482) t478.length co31 : Value).ownBlock ∧ nb k_ Ao36 t483 co36 ∧ k_ ≠ gb459 ∧ k_ ≠ gb487)) (by (with_reducible repeat (first | apply Kd.V_alloc | apply Kd.V_drewN | apply Kd.V_drew)); exact Kd.V_mono HO_460000.out (fun _ hk => ⟨⟨hk.1, ⟨hk.2.1, ⟨hk.2.2.1, ⟨hk.2.2.2.2.1, ⟨hk.2.2.2.2.2.1, ⟨hk.2.2.2.2.2.2.1, hk.2.2.2.2.2.2.2⟩⟩⟩⟩⟩⟩, hk.2.2.2.1⟩)) hg hat); replace BK459 := am (blk_grown (g := gb459) (o := .cells #[.slice A0_0 l0_0.length c0_0] 26 (0, 0)) (bo BK459.out) hg (Kd.N_away HO_6.out (fun _ hk => by first | exact hk.2.2.2.2.2.1 | simp_all))); replace HL481_0 := am (Kd.V_afterv (ok := (fun k_ => (P0_0_ k_ ∨ w.heap.size ≤ k_) ∧ some k_ ≠ (u4 : Value).ownBlock ∧ some k_ ≠ (.slice (some ad477) x5_1.length co18 : Value).ownBlock ∧ some k_ ≠ (.slice (some ad482) t478.length co31 : Value).ownBlock ∧ nb k_ Ao36 t483 co36 ∧ k_ ≠ gb459 ∧ k_ ≠ gb487)) (by (with_reducible repeat (first | apply Kd.V_alloc | apply Kd.V_drewN | apply Kd.V_drew)); exact Kd.V_mono HL481_0.out (fun _ hk => ⟨⟨hk.1, ⟨hk.2.1, ⟨hk.2.2.1, ⟨hk.2.2.2.2.1, ⟨hk.2.2.2.2.2.1, ⟨hk.2.2.2.2.2.2.1, hk.2.2.2.2.2.2.2⟩⟩⟩⟩⟩⟩, hk.2.2.2.1⟩)) hg hat); replace BK487 := am (blk_grown (g := gb487) (o := .cells #[.slice Ao36 t483.length co36] 26 (0, 0)) (bo BK487.out) hg (Kd.N_away HO_6.out (fun _ hk => by first | exact hk.2.2.2.2.2.2 | simp_all))); replace HB := am (hb); have HO490 := am (ho); clear HO_6 HO485 ho hb hg hat))
           go_roundg k3
           case measure => have := HK1.out; have := HK2.out; have := HK3.out; omega
           case rel => exact ⟨(y488), (wrap64 (x9_3 + 1)), rr, H', ⟨by have := HK1.out; have := HK2.out; have := HK3.out; omega⟩, ⟨nM HO_4.out (fun _ hk => ⟨hk.1.1, ⟨hk.1.2.1, ⟨hk.2, ⟨hk.1.2.2.1, hk.1.2.2.2.2.1⟩⟩⟩⟩)⟩, ⟨nM HO_5.out (fun _ hk => ⟨hk.1.1, ⟨hk.1.2.1, ⟨hk.2, ⟨hk.1.2.2.1, hk.1.2.2.2.2.1⟩⟩⟩⟩)⟩, ⟨nM HO490.out (fun _ hk => ⟨hk.1, ⟨hk.2.1, ⟨hk.2.2.1, ⟨hk.2.2.2.1, hk.2.2.2.2.1⟩⟩⟩⟩)⟩, ⟨rM HO_8.out (fun _ hk => hk.1)⟩, ⟨by (with_reducible repeat (first | apply Kd.V_alloc | apply Kd.V_drewN | apply Kd.V_drew)); exact Kd.V_mono HO_460000.out (fun _ hk => ⟨hk.1.1, ⟨hk.1.2.1, ⟨hk.1.2.2.1, ⟨hk.2, ⟨hk.1.2.2.2.1, hk.1.2.2.2.2.2.1⟩⟩⟩⟩⟩)⟩, ⟨bo BK459.out⟩, ⟨bw⟩⟩
          have H' := am H
          clear H
          obtain ⟨Ao42, co42, eo42⟩ := Kd.R_slice HO_8.out
          subst eo42
          go_wp2
          go_roundg k3
          case measure => have := HK1.out; have := HK2.out; have := HK3.out; omega
          case rel => exact ⟨(x6_3), (wrap64 (x7_2 + 1)), rr, H', ⟨by have := HK1.out; have := HK2.out; have := HK3.out; omega⟩, ⟨nM HO_4.out (fun _ hk => ⟨hk.1, ⟨hk.2.1, ⟨hk.2.2.1, hk.2.2.2.2⟩⟩⟩)⟩, ⟨nM HO_5.out (fun _ hk => ⟨hk.1, ⟨hk.2.1, ⟨hk.2.2.1, hk.2.2.2.2⟩⟩⟩)⟩, ⟨nM HO_6.out (fun _ hk => ⟨hk.1, ⟨hk.2.1, ⟨hk.2.2.1, hk.2.2.2.2⟩⟩⟩)⟩, ⟨by (with_reducible repeat (first | apply Kd.V_alloc | apply Kd.V_drewN | apply Kd.V_drew)); exact Kd.V_mono HO_460000.out (fun _ hk => ⟨hk.1, ⟨hk.2.1, ⟨hk.2.2.1, ⟨hk.2.2.2.1, hk.2.2.2.2.2⟩⟩⟩⟩)⟩, ⟨bo BK459.out⟩, ⟨bw⟩⟩
       have H' := am H
       clear H
       go_wp2
       go_loopg [4, 12] k2 (fun kq v4 v12 w' => ∃ (x4_3 : List (S26)) (x12_3 : Int), v12 = .int .i64 x12_3 ∧ Aside0 (spec_LargerSemigroups.l3 kq x4_3 x6_2 x12_3 = some (r1, r2)) ∧ Aside0 (kq ≤ k2) ∧ Aside0 (Kd.N k26 26 w' w.heap.size (fun k_ => (P0_0_ k_ ∨ w.heap.size ≤ k_) ∧ some k_ ≠ (u6 : Value).ownBlock ∧ k_ ≠ gb459) v4 x4_3) ∧ Aside0 (Kd.N k26 26 w' w.heap.size (fun k_ => (P0_0_ k_ ∨ w.heap.size ≤ k_) ∧ some k_ ≠ (v4 : Value).ownBlock ∧ k_ ≠ gb459) u6 x6_2) ∧ Aside0 (Kd.V (Kd.int .i64) 3 w' w.heap.size (fun k_ => (P0_0_ k_ ∨ w.heap.size ≤ k_) ∧ some k_ ≠ (v4 : Value).ownBlock ∧ some k_ ≠ (u6 : Value).ownBlock ∧ k_ ≠ gb459) (.slice A0_0 l0_0.length c0_0) l0_0) ∧ Aside0 (w'.heap[gb459]? = some (.cells #[(.slice A0_0 l0_0.length c0_0)] 26 (0, 0))) ∧ Aside0 (Below w.heap.size w w'))
       case atStart => exact ⟨(x4_1), (0), rr, H', ⟨Nat.le_refl _⟩, ⟨nM HO_4.out (fun _ hk => ⟨hk.1, ⟨hk.2.2.1, hk.2.2.2⟩⟩)⟩, ⟨nM HO_6.out (fun _ hk => ⟨hk.1, ⟨hk.2.1, hk.2.2.2⟩⟩)⟩, ⟨by (with_reducible repeat (first | apply Kd.V_alloc | apply Kd.V_drewN | apply Kd.V_drew)); exact Kd.V_mono HO_460000.out (fun _ hk => ⟨hk.1, ⟨hk.2.1, ⟨hk.2.2.2.1, hk.2.2.2.2⟩⟩⟩)⟩, ⟨bo BK459.out⟩, ⟨bw⟩⟩
       case round =>
        clear H'
        try clear c17; try clear c17b0; try clear c17b1; try clear c21b0; try clear c22b0; try clear c25b0; try clear c26b0; try clear c27b0; try clear c28b0; try clear c30; try clear hcz14_0; try clear hcz40_0; try clear hcz7_0; try clear hcz9_0; try clear hfz14_0; try clear hfz40_0; try clear hfz7_0; try clear hfz9_0; try clear hx477_0; try clear hx481_0; try clear hx482_0; try clear p477; try clear p481; try clear p482; try clear q477; try clear q481; try clear q482
        obtain ⟨x4_3, x12_3, rfl, HA, HK3, HO_4, HO_6, HO_460000, BK459, HB⟩ := hrel
        cases gk with
        | zero => exact absurd HA.out (by simp [spec_LargerSemigroups.l3])
        | succ k3 =>
         have H := HA.out
         clear HA
         simp only [spec_LargerSemigroups.l3] at H
         replace H := gi H; obtain ⟨c43b0, H⟩ | ⟨c43b0, H⟩ := H
         ·replace H := gd H; obtain ⟨c44b0, H⟩ := H
          replace H := ga H; obtain ⟨y492, APy492, H⟩ := H
          have H' := am H
          clear H
          obtain ⟨Ao46, co46, eo46⟩ := Kd.N_slice HO_6.out
          subst eo46
          have p491 : 0 ≤ (x12_3 : Int) := od
          have q491 : x12_3 < (x6_2.length : Int) := od
          obtain ⟨ad491, A491_0, c491_0, e491, hx491_0, hl491_0, hi491_0⟩ := at_T26 (Kd.N_reads' HO_6.out).2.2 x12_3 p491 q491
          cases e491
          obtain ⟨ce491, hce491, hMe491, hcc491⟩ := Kd.N_get HO_6.out z26 x12_3 p491 (by first | exact q491 | exact od | (have e_ := (Kd.N_reads' HO_6.out).1; omega))
          obtain ⟨ua491_0, uc491_0, rfl, ul491_0, ge491_0⟩ := k26_openF hMe491
          have hv491_0 := hcc491 0 _ rfl
          rw [Nat.add_zero, show (k26).sz = 1 from rfl, Nat.mul_one] at hv491_0
          replace hv491_0 := Option.some.inj (hv491_0.symm.trans hx491_0)
          injection hv491_0 with hva_ hvn_ hvc_
          rw [hva_] at ge491_0
          rw [hvc_] at ul491_0
          have HL491_0 := am (show Kd.V (Kd.int .i64) 3 _ w.heap.size _ _ ((rd_T26 x6_2 x12_3).f0) from Kd.V_mk ul491_0 ge491_0)
          clear hva_ hvn_ hvc_ ge491_0 ul491_0
          clear hcc491 hce491
          have HR491_0 := am hi491_0
          have HC491_0 := am hl491_0
          clear hi491_0 hl491_0
          replace p491 := eq_true p491
          replace q491 := eq_true q491
          go_wp2_with (first | ((with_reducible refine gate_callee (f := 42) rfl ?_); refine gl (some 70) Try.func42 #[u4, .agg #[.slice A491_0 ((rd_T26 x6_2 x12_3).f0).length c491_0]] ?_; (with_reducible refine (spec_l19Put.calls k3 (fun k_ => (P0_0_ k_ ∨ w.heap.size ≤ k_) ∧ some k_ ≠ (.slice (some ad491) x6_2.length co46 : Value).ownBlock ∧ k_ ≠ gb459) u4 x4_3 _ _ ((rd_T26 x6_2 x12_3).f0) y492 w _ ?sB ?sN ?sF ?sR ?sC APy492.out).mono ?_); (case sB => exact bw); (case sN => exact (no HO_4.out)); (case sF => exact (fun k_ hk => ⟨(.inr (Nat.le_trans (below_size bw) hk)), Kd.fresh' (Kd.N_lt (no HO_6.out)) k_ hk, Kd.freshB (g := gb459) (o := .cells #[.slice A0_0 l0_0.length c0_0] 26 (0, 0)) (bo BK459.out) k_ hk⟩)); (case sR => exact co (Kd.V_reads' HL491_0.out).2.2); (case sC => exact (Kd.V_reads' HL491_0.out).2.1); rintro e w47 ⟨v493, rfl, ho, hb, hg, hat⟩; refine ⟨_, rfl, ?_⟩; replace HO_6 := am (Kd.N_afterv (ok := (fun k_ => (P0_0_ k_ ∨ w.heap.size ≤ k_) ∧ k_ ≠ gb459)) (nM HO_6.out (fun _ hk => ⟨⟨hk.1, hk.2.2⟩, hk.2.1⟩)) hg hat); replace HO_460000 := am (Kd.V_afterv (ok := (fun k_ => (P0_0_ k_ ∨ w.heap.size ≤ k_) ∧ some k_ ≠ (.slice (some ad491) x6_2.length co46 : Value).ownBlock ∧ k_ ≠ gb459)) (by (with_reducible repeat (first | apply Kd.V_alloc | apply Kd.V_drewN | apply Kd.V_drew)); exact Kd.V_mono HO_460000.out (fun _ hk => ⟨⟨hk.1, ⟨hk.2.2.1, hk.2.2.2⟩⟩, hk.2.1⟩)) hg hat); replace BK459 := am (blk_grown (g := gb459) (o := .cells #[.slice A0_0 l0_0.length c0_0] 26 (0, 0)) (bo BK459.out) hg (Kd.N_away HO_4.out (fun _ hk => by first | exact hk.2.2 | simp_all))); replace HL491_0 := am (Kd.V_afterv (ok := (fun k_ => (P0_0_ k_ ∨ w.heap.size ≤ k_) ∧ some k_ ≠ (.slice (some ad491) x6_2.length co46 : Value).ownBlock ∧ k_ ≠ gb459)) (by (with_reducible repeat (first | apply Kd.V_alloc | apply Kd.V_drewN | apply Kd.V_drew)); exact Kd.V_mono HL491_0.out (fun _ hk => ⟨⟨hk.1.1, ⟨hk.2, hk.1.2.2⟩⟩, hk.1.2.1⟩)) hg hat); replace HB := am (hb); have HO494 := am (ho); clear HO_4 ho hb hg hat))
          go_roundg k3
          case measure => have := HK1.out; have := HK2.out; have := HK3.out; omega
          case rel => exact ⟨(y492), (wrap64 (x12_3 + 1)), rr, H', ⟨by have := HK1.out; have := HK2.out; have := HK3.out; omega⟩, ⟨no HO494.out⟩, ⟨nM HO_6.out (fun _ hk => ⟨hk.1.1, ⟨hk.2, hk.1.2⟩⟩)⟩, ⟨by (with_reducible repeat (first | apply Kd.V_alloc | apply Kd.V_drewN | apply Kd.V_drew)); exact Kd.V_mono HO_460000.out (fun _ hk => ⟨hk.1.1, ⟨hk.2, ⟨hk.1.2.1, hk.1.2.2⟩⟩⟩)⟩, ⟨bo BK459.out⟩, ⟨bw⟩⟩
         have H' := am H
         clear H
         obtain ⟨Ao48, co48, eo48⟩ := Kd.N_slice HO_6.out
         subst eo48
         go_wp2
         go_roundg k3
         case measure => have := HK1.out; have := HK2.out; have := HK3.out; omega
         case rel => exact ⟨(x4_3), (x6_2), H', ⟨by have := HK1.out; have := HK2.out; have := HK3.out; omega⟩, ⟨no HO_4.out⟩, ⟨no HO_6.out⟩, ⟨vo HO_460000.out⟩, ⟨bo BK459.out⟩, ⟨bw⟩⟩
    have c17b0 : decide (0 < (x5_1.length : Int)) = false := decide_eq_false c17
    have c17b1 : decide (0 < x5_1.length) = false := decide_eq_false (by omega)
    clear c17
    simp only [Option.some.injEq, Prod.mk.injEq] at H
    obtain ⟨rfl, rfl⟩ := H
    obtain ⟨Ao49, co49, eo49⟩ := Kd.N_slice HO_5.out
    subst eo49
    go_wp2
    go_ret2
    exact ⟨_, re, nM HO_4.out (fun _ hk => hk.1), bw⟩
 obtain ⟨y462, hy462⟩ : ∃ y_ : List (S26), y_ = (([] : List (S26))) := ⟨_, rfl⟩
 replace H : (some (y462, false)) = some (r1, r2) := by first | (rw [hy462]; with_reducible first | exact H | exact bs H) | (with_reducible first | exact bs H | exact H) | (rw [hy462]; exact H) | exact H
 have Ny462 := am hy462
 clear hy462
 simp only [Option.some.injEq, Prod.mk.injEq] at H
 obtain ⟨rfl, rfl⟩ := H
 go_enter Try.func18, Try.ntmps18
 go_wp2_with (first | ((with_reducible refine gate_dst (N := 1) rfl ?_); refine bx 1 #[.slice A0_0 l0_0.length c0_0] 26 ?_; intro gb459 hg w50 hbox hb; replace HO0_0 := am (Kd.V_below (Kd.V_elderB (vo HO0_0.out) gb459 (Nat.le_of_eq hg.symm)) hb); have BK459 := am (hbox); have GW459 := am (gs hg : w.heap.size ≤ gb459); have GE459 := GW459; replace HB := am (below_step bw hb); clear hb hbox hg; have hcz51_0 := bc BK459 0 (.slice A0_0 l0_0.length c0_0); have hfz51_0 := blk_frozen BK459.out 0) | ((with_reducible refine gate_callee (f := 38) rfl ?_); refine gl (some 14) Try.func38 #[.agg #[.slice A0_0 l0_0.length c0_0]] ?_; (with_reducible refine (spec_GenusOf.calls k _ _ l0_0 t460 _ ?side1 ?side2 A2.out).mono ?_); (case side1 => exact co (Kd.V_reads' HO0_0.out).2.2); (case side2 => exact (Kd.V_reads' HO0_0.out).2.1); rintro e w52 ⟨rfl, hb⟩; refine ⟨_, rfl, ?_⟩; replace HO0_0 := am (Kd.V_below (vo HO0_0.out) hb); replace BK459 := kb BK459 hb; replace HB := am (below_step bw hb); clear hb) | ((with_reducible refine gate_callee (f := 37) rfl ?_); refine gl (some 15) Try.func37 #[.int .i64 t460, .int .i64 0, .int .i64 9] ?_; (with_reducible refine (spec_l1In.calls t460 0 9 false _ A3.out).mono ?_); rintro e w' ⟨rfl, ⟨nd, rfl⟩⟩; refine ⟨_, rfl, ?_⟩) | ((with_reducible refine gate_dst (N := 17) rfl ?_); refine Kd.N_lit k26 _ 26 ?hg (N' := 17) ?hd (xs := ([] : List (S26))) (inner := []) (ok := (fun k_ => (P0_0_ k_ ∨ w.heap.size ≤ k_) ∧ k_ ≠ gb459)) (okp := (fun k_ => (P0_0_ k_ ∨ w.heap.size ≤ k_) ∧ k_ ≠ gb459)) ?hr ?hp (fun _ hk => hk) ((show ∀ k_, w52.heap.size ≤ k_ → (fun k_ => (P0_0_ k_ ∨ w.heap.size ≤ k_) ∧ k_ ≠ gb459) k_ from fun k_ hk => ⟨(.inr (Nat.le_trans (below_size bw) hk)), Kd.freshB (g := gb459) (o := .cells #[.slice A0_0 l0_0.length c0_0] 26 (0, 0)) (bo BK459.out) k_ hk⟩) _ (Nat.le_refl _)) (Below.refl _ _) (Nat.le_refl _) (by simp) ?_; (case hd => rfl); (case hg => rfl); (case hr => first | (go_simp; done) | (go_simp; rfl)); (case hp => exact (Reps.none _ _)); intro v463 w53 ho54 hb hg_ hnew_; clear hg_ hnew_; (first | rw [← Ny462.out] at ho54 | (simp only [Int.reduceToNat] at ho54; rw [← Ny462.out] at ho54)); replace HO0_0 := am (Kd.V_elder' (vo HO0_0.out) (Kd.N_base ho54) hb); have HO464 := am (Kd.N_lower ho54 (below_size bw)); replace BK459 := kb BK459 hb; replace HB := am (below_step bw hb); clear hb ho54))
 go_ret2
 exact ⟨_, re, nM HO464.out (fun _ hk => hk.1), bw⟩


/-! ### impl_gapList: function 62 -/
def impl_gapList.f (k : Nat) (l0 : List Int) : Option (Bool) := (impl_IsAscending.f k l0).bind fun t495 => (if t495 = true then ((impl_allWithin.f k l0 1 199).bind fun t496 => (some t496)) else (some false))
theorem impl_gapList.calls (k : Nat) (A0 : Option Addr) (c0 : Nat) (l0 : List Int) (r : Bool) (w : World) (hr0 : Kd.C (Kd.int .i64) w A0 l0.length l0) (hc0 : l0.length ≤ c0) (h : impl_gapList.f k l0 = some r) :
  Calls Try.prog 62 #[.slice A0 l0.length c0] w fun e w' => e = .returned (.bool r) ∧ Drawn0 w w' := by
 have HR0 := am hr0
 have HC0 := am hc0
 clear hr0 hc0
 unfold impl_gapList.f at h
 have H := h
 clear h
 replace H := ga H; obtain ⟨t495, A2, H⟩ := H
 replace H := gb H; obtain ⟨rfl, H⟩ | ⟨rfl, H⟩ := H
 ·replace H := ga H; obtain ⟨t496, A4, H⟩ := H
  obtain rfl := Option.some.inj H
  go_enter Try.func62, Try.ntmps62
  go_wp2_with (first | ((with_reducible refine gate_callee (f := 56) rfl ?_); refine gl (some 4) Try.func56 #[.slice A0 l0.length c0] ?_; (with_reducible refine (impl_IsAscending.calls k _ _ l0 true _ ?side1 ?side2 A2.out).mono ?_); (case side1 => exact co HR0.out); (case side2 => exact HC0.out); rintro e w' ⟨rfl, ⟨nd, rfl⟩⟩; refine ⟨_, rfl, ?_⟩) | (go_at_call 55; (with_reducible refine (impl_allWithin.calls k _ _ l0 1 199 t496 _ ?side1 ?side2 A4.out).mono ?_); (case side1 => exact co HR0.out); (case side2 => exact HC0.out); rintro e w' ⟨rfl, ⟨nd, rfl⟩⟩))
  go_ret
  exact ⟨rr, dw⟩
 obtain rfl := Option.some.inj H
 go_enter Try.func62, Try.ntmps62
 go_wp2_with (first | ((with_reducible refine gate_callee (f := 56) rfl ?_); refine gl (some 4) Try.func56 #[.slice A0 l0.length c0] ?_; (with_reducible refine (impl_IsAscending.calls k _ _ l0 false _ ?side1 ?side2 A2.out).mono ?_); (case side1 => exact co HR0.out); (case side2 => exact HC0.out); rintro e w' ⟨rfl, ⟨nd, rfl⟩⟩; refine ⟨_, rfl, ?_⟩))
 go_ret
 exact ⟨rr, dw⟩

end Go.Proofs.Ytlhcpbpcdicleaa.C
