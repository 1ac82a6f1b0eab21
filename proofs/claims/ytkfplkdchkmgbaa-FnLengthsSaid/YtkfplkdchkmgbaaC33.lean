/- Contracts of functions of the program: impl_ElasticityOf, spec_ElasticityOf, impl_GreatestElasticity, spec_GreatestElasticity, spec_DrawDeltaSet, impl_DeltaSet. -/
import Derived.Test.YtkfplkdchkmgbaaC0
import Derived.Test.YtkfplkdchkmgbaaC1
import Derived.Test.YtkfplkdchkmgbaaC3
import Derived.Test.YtkfplkdchkmgbaaC6
import Derived.Test.YtkfplkdchkmgbaaC7
import Derived.Test.YtkfplkdchkmgbaaC10
import Derived.Test.YtkfplkdchkmgbaaC31
import Derived.Test.YtkfplkdchkmgbaaC32
namespace Go.Proofs.Ytkfplkdchkmgbaa.C
open Go.RowKit Go.Proofs.YtkfplkdchkmgbaaW.PrintWords Go.Proofs.YtkfplkdchkmgbaaW.PrintLast Go.Proofs.YtkfplkdchkmgbaaW.PrintMore
attribute [local go_sem] max2_int min2_int max_two min_two max_three min_three max_four min_four
set_option linter.unusedVariables false
set_option linter.unusedSimpArgs false

/-! ### impl_ElasticityOf: function 99 -/
def impl_ElasticityOf.f (k : Nat) (l0_0 : List Int) (a1 : Int) : Option (Int × Int) := (impl_LengthsOf.f k l0_0 a1).bind fun t1228 => (if a1 = 0 then (some (0, 0)) else (if (t1228.length : Int) = 0 then (some (0, 0)) else (if 0 ≤ (wrap64 ((t1228.length : Int) - 1)) then (if (wrap64 ((t1228.length : Int) - 1)) < (t1228.length : Int) then (if 0 < (t1228.length : Int) then ((impl_lowest.f k (rd t1228 (wrap64 ((t1228.length : Int) - 1))) (rd t1228 0)).bind fun bt1233 => (some (bt1233.1, bt1233.2))) else (none)) else (none)) else (none))))
def impl_ElasticityOf.T4 : Bool × List (List Nat × List Nat) := (true, [([], []), ([], []), ([1], [1]), ([2], [2]), ([0, 3], [0, 3]), ([4], [4]), ([], []), ([6], [6]), ([7], [7]), ([5, 8], [5, 8]), ([9], [9]), ([9], [9]), ([10, 9, 0, 1, 2, 3, 4, 5, 6, 7, 8, 9, 10, 11], [10]), ([11, 12, 0, 1, 2, 3, 4, 5, 6, 7, 8, 9, 10, 11, 12], [11])])
def impl_ElasticityOf.B4 : List Nat := [0, 0, 2, 6, 15, 31, 0, 64, 192, 511, 1023, 1023, 4095, 8191]
theorem impl_ElasticityOf.tab4 : rtab .any (opsOf Try.f99 4) = impl_ElasticityOf.T4 := by kernel_rfl
theorem impl_ElasticityOf.bits4 : waitsOk impl_ElasticityOf.T4.2 impl_ElasticityOf.B4 = true := by kernel_rfl
set_option maxHeartbeats 8000000 in
set_option maxRecDepth 100000 in
theorem impl_ElasticityOf.calls (k : Nat) (A0_0 : Option Addr) (c0_0 : Nat) (l0_0 : List Int) (a1 : Int) (r1 : Int) (r2 : Int) (w : World) (hr0_0 : Kd.C (Kd.int .i64) w A0_0 l0_0.length l0_0) (hc0_0 : l0_0.length ≤ c0_0) (h : impl_ElasticityOf.f k l0_0 a1 = some (r1, r2)) :
  Calls Try.prog 99 #[.agg #[.slice A0_0 l0_0.length c0_0], .int .i64 a1] w fun e w' => e = .returned (.tuple #[.int .i64 r1, .int .i64 r2]) ∧ Below w.heap.size w w' := by
 have hu26 := Try.underlying26
 have HR0_0 := am hr0_0
 have HC0_0 := am hc0_0
 clear hr0_0 hc0_0
 have HB := am (Below.refl w.heap.size w)
 have H : ((impl_LengthsOf.f k l0_0 a1).bind fun t1228 => (if a1 = 0 then (some (0, 0)) else (if (t1228.length : Int) = 0 then (some (0, 0)) else (if 0 ≤ (wrap64 ((t1228.length : Int) - 1)) then (if (wrap64 ((t1228.length : Int) - 1)) < (t1228.length : Int) then (if 0 < (t1228.length : Int) then ((impl_lowest.f k (rd t1228 (wrap64 ((t1228.length : Int) - 1))) (rd t1228 0)).bind fun bt1233 => (some (bt1233.1, bt1233.2))) else (none)) else (none)) else (none))))) = some (r1, r2) := h
 clear h
 replace H := ga H; obtain ⟨t1228, A3, H⟩ := H
 by_cases c4 : a1 = 0
 ·rw [if_pos c4] at H
  have c4b0 : (a1 == 0) = true := beq_iff_eq.mpr c4
  have c4b1 : (a1 != 0) = false := bne_eq_false_iff_eq.mpr c4
  clear c4
  simp only [Option.some.injEq, Prod.mk.injEq] at H
  obtain ⟨rfl, rfl⟩ := H
  go_enter Try.func99, Try.ntmps99
  go_wp2_with (first | ((with_reducible refine gate_dst (N := 2) rfl ?_); (try (refine gate_guard (by rfl) ?_; dsimp only)); refine bx 2 #[.slice A0_0 l0_0.length c0_0] 26 ?_; intro gb1227 hg w5 hbox hb; have BK1227 := am (hbox); have GW1227 := am (gs hg : w.heap.size ≤ gb1227); have GE1227 := GW1227; replace HB := am (below_step bw hb); clear hb hbox hg; have hcz6_0 := bc BK1227 0 (.slice A0_0 l0_0.length c0_0); have hfz6_0 := blk_frozen BK1227.out 0) | ((with_reducible refine gate_callee (f := 97) rfl ?_); refine gl (some 9) Try.func97 #[.agg #[.slice A0_0 l0_0.length c0_0], .int .i64 a1] ?_; (with_reducible refine (impl_LengthsOf.calls k _ _ l0_0 a1 t1228 _ ?side1 ?side2 A3.out).mono ?_); (case side1 => exact co (Kd.C_below HR0_0.out HB.out)); (case side2 => exact HC0_0.out); rintro e w7 ⟨v1229, rfl, ho0, hb⟩; refine ⟨_, rfl, ?_⟩; have HO1230 := am (Kd.R_lower ho0 (below_size bw)); replace BK1227 := kb BK1227 hb; replace HB := am (below_step bw hb); clear hb ho0))
  go_ret2
  exact ⟨re, bw⟩
 ·rw [if_neg c4] at H
  have c4b0 : (a1 == 0) = false := beq_eq_false_iff_ne.mpr c4
  have c4b1 : (a1 != 0) = true := bne_iff_ne.mpr c4
  by_cases c8 : (t1228.length : Int) = 0
  ·rw [if_pos c8] at H
   have c8b0 : ((t1228.length : Int) == 0) = true := beq_iff_eq.mpr c8
   have c8b1 : ((t1228.length : Int) != 0) = false := bne_eq_false_iff_eq.mpr c8
   clear c8
   simp only [Option.some.injEq, Prod.mk.injEq] at H
   obtain ⟨rfl, rfl⟩ := H
   go_enter Try.func99, Try.ntmps99
   go_wp2_with (first | ((with_reducible refine gate_dst (N := 2) rfl ?_); (try (refine gate_guard (by rfl) ?_; dsimp only)); refine bx 2 #[.slice A0_0 l0_0.length c0_0] 26 ?_; intro gb1227 hg w9 hbox hb; have BK1227 := am (hbox); have GW1227 := am (gs hg : w.heap.size ≤ gb1227); have GE1227 := GW1227; replace HB := am (below_step bw hb); clear hb hbox hg; have hcz10_0 := bc BK1227 0 (.slice A0_0 l0_0.length c0_0); have hfz10_0 := blk_frozen BK1227.out 0) | ((with_reducible refine gate_callee (f := 97) rfl ?_); refine gl (some 9) Try.func97 #[.agg #[.slice A0_0 l0_0.length c0_0], .int .i64 a1] ?_; (with_reducible refine (impl_LengthsOf.calls k _ _ l0_0 a1 t1228 _ ?side1 ?side2 A3.out).mono ?_); (case side1 => exact co (Kd.C_below HR0_0.out HB.out)); (case side2 => exact HC0_0.out); rintro e w11 ⟨v1229, rfl, ho0, hb⟩; refine ⟨_, rfl, ?_⟩; have HO1230 := am (Kd.R_lower ho0 (below_size bw)); replace BK1227 := kb BK1227 hb; replace HB := am (below_step bw hb); clear hb ho0; obtain ⟨Ao12, co12, eo12⟩ := Kd.R_slice HO1230.out; subst eo12))
   go_ret2
   exact ⟨re, bw⟩
  ·rw [if_neg c8] at H
   have c8b0 : ((t1228.length : Int) == 0) = false := beq_eq_false_iff_ne.mpr c8
   have c8b1 : ((t1228.length : Int) != 0) = true := bne_iff_ne.mpr c8
   have c8b2 : ¬ (t1228 = []) := fun h_ => c8 (by rw [h_]; rfl)
   obtain ⟨ji13, hji13⟩ : ∃ j_ : Int, (wrap64 ((t1228.length : Int) - 1)) = j_ := ⟨_, rfl⟩
   replace H : (if 0 ≤ (ji13) then (if (ji13) < (t1228.length : Int) then (if 0 < (t1228.length : Int) then ((impl_lowest.f k (rd t1228 (ji13)) (rd t1228 0)).bind fun bt1233 => (some (bt1233.1, bt1233.2))) else (none)) else (none)) else (none)) = some (r1, r2) := by first | (rw [hji13] at H; exact H) | (simp only [hji13] at H ⊢; exact H)
   (try rw [hji13] at A3)
   have hji13w : (IntKind.i64.wrap ((t1228.length : Int) - 1)) = ji13 := (i64_w _).trans hji13
   replace H := gd H; obtain ⟨c14b0, H⟩ := H
   replace H := gd H; obtain ⟨c15b0, H⟩ := H
   replace H := gp H; obtain ⟨c16, H⟩ := H
   have c16b0 : decide (0 < (t1228.length : Int)) = true := decide_eq_true c16
   have c16b1 : decide (0 < t1228.length) = true := decide_eq_true (by omega)
   clear c16
   replace H := ga H; obtain ⟨⟨t1233, t1234⟩, A17, H⟩ := H
   replace H : (some (t1233, t1234)) = some (r1, r2) := H
   simp only [Option.some.injEq, Prod.mk.injEq] at H
   obtain ⟨rfl, rfl⟩ := H
   go_enter Try.func99, Try.ntmps99
   try go_wp2_with (first | ((with_reducible refine gate_dst (N := 2) rfl ?_); (try (refine gate_guard (by rfl) ?_; dsimp only)); refine bx 2 #[.slice A0_0 l0_0.length c0_0] 26 ?_; intro gb1227 hg w18 hbox hb; have BK1227 := am (hbox); have GW1227 := am (gs hg : w.heap.size ≤ gb1227); have GE1227 := GW1227; replace HB := am (below_step bw hb); clear hb hbox hg; have hcz19_0 := bc BK1227 0 (.slice A0_0 l0_0.length c0_0); have hfz19_0 := blk_frozen BK1227.out 0) | ((with_reducible refine gate_callee (f := 97) rfl ?_); refine gl (some 9) Try.func97 #[.agg #[.slice A0_0 l0_0.length c0_0], .int .i64 a1] ?_; (with_reducible refine (impl_LengthsOf.calls k _ _ l0_0 a1 t1228 _ ?side1 ?side2 A3.out).mono ?_); (case side1 => exact co (Kd.C_below HR0_0.out HB.out)); (case side2 => exact HC0_0.out); rintro e w20 ⟨v1229, rfl, ho0, hb⟩; refine ⟨_, rfl, ?_⟩; have HO1230 := am (Kd.R_lower ho0 (below_size bw)); replace BK1227 := kb BK1227 hb; replace HB := am (below_step bw hb); clear hb ho0; obtain ⟨Ao21, co21, eo21⟩ := Kd.R_slice HO1230.out; subst eo21))
   replace HO1230 := am (Kd.R_drew HO1230.out)
   replace BK1227 := am (blk_drew BK1227.out)
   replace HB := am (below_drew1 HB.out)
   obtain ⟨⟨ad1231, e1231, hx1231_0⟩, p1231, q1231⟩ := pq (Kd.at_int (Kd.R_reads' HO1230.out).2.2 (ji13))
   cases e1231
   have p1232 : 0 ≤ (0 : Int) := (by omega)
   have q1232 : 0 < (t1228.length : Int) := of_decide_eq_true (by first | (with_reducible assumption) | assumption)
   obtain ⟨ad1232, e1232, hx1232_0⟩ := Kd.at_int (Kd.R_reads' HO1230.out).2.2 0 p1232 q1232
   obtain rfl : ad1231 = ad1232 := (by injection e1232)
   have qi1232 : (0 < t1228.length) = True := eq_true (by omega)
   (try rw [show ((0 : Int)).toNat = 0 from rfl] at hx1232_0)
   (try rw [Addr.add_zero'] at hx1232_0)
   replace p1232 := eq_true p1232
   replace q1232 := eq_true q1232
   refine start_ (n := 14) (S := fun w' => w'.cell? (ad1231.add ((ji13)).toNat) = some (.int .i64 (rd t1228 (ji13))) ∧ w'.cell? ad1231 = some (.int .i64 (rd t1228 0))) (ds := []) (yz 14 0) (by kernel_rfl) rfl rfl ⟨hx1231_0, hx1232_0⟩ (fun hHeld => ?_); refine with_tabW impl_ElasticityOf.tab4 impl_ElasticityOf.bits4 (fun HT_ HW_ => ?_)
   generalize w20.drew = w22 at HO1230 BK1227 HB hx1231_0 hx1232_0 hHeld ⊢
   refine pa 0 (some 17) (yz 14 1) HT_ ?_
   refine pa 1 (some 18) (yz 14 3) HT_ ?_
   refine pa 2 (some 19) (yz 14 7) HT_ ?_
   refine pa 3 (some 20) (yz 14 15) HT_ ?_
   refine pa 4 (some 21) (yz 14 31) HT_ ?_
   refine pa 6 (some 23) (yz 14 95) HT_ ?_
   refine pa 7 (some 24) (yz 14 223) HT_ ?_
   refine take_ (i := 5) (N := some 22) (v := ?_) (a' := ?_) (yz 14 255) rfl rfl (take_ofW HT_.out HW_.out (by kernel_rfl)) (fun _ _ _ h => h) (Or.inl ⟨by rfl, ?_⟩) hHeld ?_ ?_
   rotate_left
   ·rintro w' ⟨s0, s1⟩
    go_simp
    with_reducible rfl
   rotate_left
   ·simp only [Act.put, qa, qb, qc, i64_w, i32_w]
    rfl
   refine take_ (i := 8) (N := some 25) (v := ?_) (a' := ?_) (yz 14 511) rfl rfl (take_ofW HT_.out HW_.out (by kernel_rfl)) (fun _ _ _ h => h) (Or.inl ⟨by rfl, ?_⟩) hHeld ?_ ?_
   rotate_left
   ·rintro w' ⟨s0, s1⟩
    go_simp
    with_reducible rfl
   rotate_left
   ·simp only [Act.put, qa, qb, qc, i64_w, i32_w]
    rfl
   refine oa 9 (some 26) (yz 14 1023) HT_ (fun K hK => ?_)
   refine goes_ Try.func203 (by kernel_rfl) rfl #[.int .i64 (rd t1228 (ji13)), .int .i64 (rd t1228 0)] (by rfl) rfl rfl (by (try simp only [List.map_toArray, List.map_cons, List.map_nil]); first | done | (simp only [hji13]; rfl) | rfl | (simp only [List.length_drop, List.length_take]; rfl)) ?_
   with_reducible refine (impl_lowest.calls k (rd t1228 (ji13)) (rd t1228 0) t1233 t1234 _ A17.out).mono ?_
   rintro e w23 ⟨rfl, hb⟩
   have HS0_ := (hb.cell (World.block_lt_of_cell? _ _ (hHeld.1))).trans (hHeld.1)
   have HS1_ := (hb.cell (World.block_lt_of_cell? _ _ (hHeld.2))).trans (hHeld.2)
   refine ⟨_, rfl, ?_⟩
   replace HO1230 := am (Kd.R_below (ro HO1230.out) hb)
   replace BK1227 := kb BK1227 hb
   replace HB := am (below_step bw hb)
   clear hb
   refine hK.out _ _ ⟨HS0_, HS1_⟩ (fun hHeld => ?_)
   clear hK K
   refine norm_ (a' := ?_) ?_ ?_
   rotate_left
   ·show Act.put _ (some 26) _ = _
    simp only [Act.put, qa, qb, qc, i64_w, i32_w]
    rfl
   refine pa 10 (some 27) (yz 14 2047) HT_ ?_
   refine pa 11 (some 28) (yz 14 4095) HT_ ?_
   refine pa 12 (some 4) (yz 14 8191) HT_ ?_
   refine pa 13 (some 5) (yz 14 16383) HT_ ?_
   refine done_ (done_of HT_.out (by kernel_rfl)) ?_
   try go_wp2
   go_ret2
   exact ⟨by first | rfl | (simp [errW_none, errW_some] <;> rfl) | (simp only [← hji13]; first | rfl | (simp [errW_none, errW_some] <;> rfl)) | (simp [*, errW_none, errW_some] <;> rfl), bw⟩


/-! ### spec_ElasticityOf: function 100 -/
def spec_ElasticityOf.f (k : Nat) (l0_0 : List Int) (a1 : Int) : Option (Int × Int) := (spec_LengthsOf.f k l0_0 a1).bind fun t1236 => (if (t1236.length : Int) = 0 then (some (0, 0)) else (if a1 = 0 then (some (0, 0)) else (if 0 ≤ (wrap64 ((t1236.length : Int) - 1)) then (if (wrap64 ((t1236.length : Int) - 1)) < (t1236.length : Int) then (if 0 < (t1236.length : Int) then ((spec_GcdOf.f k (rd t1236 (wrap64 ((t1236.length : Int) - 1))) (rd t1236 0)).bind fun t1241 => (if t1241 = 0 then (none) else (some (wrap64 (Int.tdiv (rd t1236 (wrap64 ((t1236.length : Int) - 1))) t1241), wrap64 (Int.tdiv (rd t1236 0) t1241))))) else (none)) else (none)) else (none))))
set_option maxHeartbeats 8000000 in
set_option maxRecDepth 100000 in
theorem spec_ElasticityOf.calls (k : Nat) (A0_0 : Option Addr) (c0_0 : Nat) (l0_0 : List Int) (a1 : Int) (r1 : Int) (r2 : Int) (w : World) (hr0_0 : Kd.C (Kd.int .i64) w A0_0 l0_0.length l0_0) (hc0_0 : l0_0.length ≤ c0_0) (h : spec_ElasticityOf.f k l0_0 a1 = some (r1, r2)) :
  Calls Try.prog 100 #[.agg #[.slice A0_0 l0_0.length c0_0], .int .i64 a1] w fun e w' => e = .returned (.tuple #[.int .i64 r1, .int .i64 r2]) ∧ Below w.heap.size w w' := by
 have hu26 := Try.underlying26
 have HR0_0 := am hr0_0
 have HC0_0 := am hc0_0
 clear hr0_0 hc0_0
 have HB := am (Below.refl w.heap.size w)
 have H : ((spec_LengthsOf.f k l0_0 a1).bind fun t1236 => (if (t1236.length : Int) = 0 then (some (0, 0)) else (if a1 = 0 then (some (0, 0)) else (if 0 ≤ (wrap64 ((t1236.length : Int) - 1)) then (if (wrap64 ((t1236.length : Int) - 1)) < (t1236.length : Int) then (if 0 < (t1236.length : Int) then ((spec_GcdOf.f k (rd t1236 (wrap64 ((t1236.length : Int) - 1))) (rd t1236 0)).bind fun t1241 => (if t1241 = 0 then (none) else (some (wrap64 (Int.tdiv (rd t1236 (wrap64 ((t1236.length : Int) - 1))) t1241), wrap64 (Int.tdiv (rd t1236 0) t1241))))) else (none)) else (none)) else (none))))) = some (r1, r2) := h
 clear h
 replace H := ga H; obtain ⟨t1236, A3, H⟩ := H
 by_cases c4 : (t1236.length : Int) = 0
 ·rw [if_pos c4] at H
  have c4b0 : ((t1236.length : Int) == 0) = true := beq_iff_eq.mpr c4
  have c4b1 : ((t1236.length : Int) != 0) = false := bne_eq_false_iff_eq.mpr c4
  clear c4
  simp only [Option.some.injEq, Prod.mk.injEq] at H
  obtain ⟨rfl, rfl⟩ := H
  go_enter Try.func100, Try.ntmps100
  go_wp2_with (first | ((with_reducible refine gate_dst (N := 2) rfl ?_); refine bx 2 #[.slice A0_0 l0_0.length c0_0] 26 ?_; intro gb1235 hg w5 hbox hb; have BK1235 := am (hbox); have GW1235 := am (gs hg : w.heap.size ≤ gb1235); have GE1235 := GW1235; replace HB := am (below_step bw hb); clear hb hbox hg; have hcz6_0 := bc BK1235 0 (.slice A0_0 l0_0.length c0_0); have hfz6_0 := blk_frozen BK1235.out 0) | (go_at_call 104; (with_reducible refine (spec_LengthsOf.calls k _ _ l0_0 a1 t1236 _ ?side1 ?side2 A3.out).mono ?_); (case side1 => exact co (Kd.C_below HR0_0.out HB.out)); (case side2 => exact HC0_0.out); rintro e w7 ⟨v1237, rfl, ho0, hb⟩; have HO1238 := am (Kd.R_lower ho0 (below_size bw)); replace BK1235 := kb BK1235 hb; replace HB := am (below_step bw hb); clear hb ho0; obtain ⟨Ao8, co8, eo8⟩ := Kd.R_slice HO1238.out; subst eo8))
  repeat (go_quiet (first | ((with_reducible refine gate_dst (N := 2) rfl ?_); refine bx 2 #[.slice A0_0 l0_0.length c0_0] 26 ?_; intro gb1235 hg w5 hbox hb; have n0_ := am (below_step bw hb); have n1_ := am (hbox); have n2_ := am (gs hg : w.heap.size ≤ gb1235); have n3_ := am (gs hg : w.heap.size ≤ gb1235); clear HB; have HB := n0_; have BK1235 := n1_; have GW1235 := n2_; have GE1235 := n3_; clear n0_ n1_ n2_ n3_; clear hb hbox hg; have hcz6_0 := bc BK1235 0 (.slice A0_0 l0_0.length c0_0); have hfz6_0 := blk_frozen BK1235.out 0) | (go_at_call 104; (with_reducible refine (spec_LengthsOf.calls k _ _ l0_0 a1 t1236 _ ?side1 ?side2 A3.out).mono ?_); (case side1 => exact co (Kd.C_below HR0_0.out HB.out)); (case side2 => exact HC0_0.out); rintro e w7 ⟨v1237, rfl, ho0, hb⟩; have n0_ := am (Kd.R_lower ho0 (below_size bw)); have n1_ := am (blk_below (g := gb1235) (o := .cells #[.slice A0_0 l0_0.length c0_0] 26 (0, 0)) (bo BK1235.out) hb); have n2_ := am (below_step bw hb); clear BK1235; clear HB; have HO1238 := n0_; have BK1235 := n1_; have HB := n2_; clear n0_ n1_ n2_; (try clear hb); (try clear hb2); (try clear hk); (try clear hi); (try clear ho0); obtain ⟨Ao8, co8, eo8⟩ := Kd.R_slice HO1238.out; subst eo8)); try go_wp2_with (first | ((with_reducible refine gate_dst (N := 2) rfl ?_); refine bx 2 #[.slice A0_0 l0_0.length c0_0] 26 ?_; intro gb1235 hg w5 hbox hb; have n0_ := am (below_step bw hb); have n1_ := am (hbox); have n2_ := am (gs hg : w.heap.size ≤ gb1235); have n3_ := am (gs hg : w.heap.size ≤ gb1235); clear HB; have HB := n0_; have BK1235 := n1_; have GW1235 := n2_; have GE1235 := n3_; clear n0_ n1_ n2_ n3_; clear hb hbox hg; have hcz6_0 := bc BK1235 0 (.slice A0_0 l0_0.length c0_0); have hfz6_0 := blk_frozen BK1235.out 0) | (go_at_call 104; (with_reducible refine (spec_LengthsOf.calls k _ _ l0_0 a1 t1236 _ ?side1 ?side2 A3.out).mono ?_); (case side1 => exact co (Kd.C_below HR0_0.out HB.out)); (case side2 => exact HC0_0.out); rintro e w7 ⟨v1237, rfl, ho0, hb⟩; have n0_ := am (Kd.R_lower ho0 (below_size bw)); have n1_ := am (blk_below (g := gb1235) (o := .cells #[.slice A0_0 l0_0.length c0_0] 26 (0, 0)) (bo BK1235.out) hb); have n2_ := am (below_step bw hb); clear BK1235; clear HB; have HO1238 := n0_; have BK1235 := n1_; have HB := n2_; clear n0_ n1_ n2_; (try clear hb); (try clear hb2); (try clear hk); (try clear hi); (try clear ho0); obtain ⟨Ao8, co8, eo8⟩ := Kd.R_slice HO1238.out; subst eo8)))
  go_ret2
  exact ⟨re, bw⟩
 ·rw [if_neg c4] at H
  have c4b0 : ((t1236.length : Int) == 0) = false := beq_eq_false_iff_ne.mpr c4
  have c4b1 : ((t1236.length : Int) != 0) = true := bne_iff_ne.mpr c4
  have c4b2 : ¬ (t1236 = []) := fun h_ => c4 (by rw [h_]; rfl)
  by_cases c9 : a1 = 0
  ·rw [if_pos c9] at H
   have c9b0 : (a1 == 0) = true := beq_iff_eq.mpr c9
   have c9b1 : (a1 != 0) = false := bne_eq_false_iff_eq.mpr c9
   clear c9
   simp only [Option.some.injEq, Prod.mk.injEq] at H
   obtain ⟨rfl, rfl⟩ := H
   go_enter Try.func100, Try.ntmps100
   go_wp2_with (first | ((with_reducible refine gate_dst (N := 2) rfl ?_); refine bx 2 #[.slice A0_0 l0_0.length c0_0] 26 ?_; intro gb1235 hg w10 hbox hb; have BK1235 := am (hbox); have GW1235 := am (gs hg : w.heap.size ≤ gb1235); have GE1235 := GW1235; replace HB := am (below_step bw hb); clear hb hbox hg; have hcz11_0 := bc BK1235 0 (.slice A0_0 l0_0.length c0_0); have hfz11_0 := blk_frozen BK1235.out 0) | (go_at_call 104; (with_reducible refine (spec_LengthsOf.calls k _ _ l0_0 a1 t1236 _ ?side1 ?side2 A3.out).mono ?_); (case side1 => exact co (Kd.C_below HR0_0.out HB.out)); (case side2 => exact HC0_0.out); rintro e w12 ⟨v1237, rfl, ho0, hb⟩; have HO1238 := am (Kd.R_lower ho0 (below_size bw)); replace BK1235 := kb BK1235 hb; replace HB := am (below_step bw hb); clear hb ho0; obtain ⟨Ao13, co13, eo13⟩ := Kd.R_slice HO1238.out; subst eo13))
   repeat (go_quiet (first | ((with_reducible refine gate_dst (N := 2) rfl ?_); refine bx 2 #[.slice A0_0 l0_0.length c0_0] 26 ?_; intro gb1235 hg w10 hbox hb; have n0_ := am (below_step bw hb); have n1_ := am (hbox); have n2_ := am (gs hg : w.heap.size ≤ gb1235); have n3_ := am (gs hg : w.heap.size ≤ gb1235); clear HB; have HB := n0_; have BK1235 := n1_; have GW1235 := n2_; have GE1235 := n3_; clear n0_ n1_ n2_ n3_; clear hb hbox hg; have hcz11_0 := bc BK1235 0 (.slice A0_0 l0_0.length c0_0); have hfz11_0 := blk_frozen BK1235.out 0) | (go_at_call 104; (with_reducible refine (spec_LengthsOf.calls k _ _ l0_0 a1 t1236 _ ?side1 ?side2 A3.out).mono ?_); (case side1 => exact co (Kd.C_below HR0_0.out HB.out)); (case side2 => exact HC0_0.out); rintro e w12 ⟨v1237, rfl, ho0, hb⟩; have n0_ := am (Kd.R_lower ho0 (below_size bw)); have n1_ := am (blk_below (g := gb1235) (o := .cells #[.slice A0_0 l0_0.length c0_0] 26 (0, 0)) (bo BK1235.out) hb); have n2_ := am (below_step bw hb); clear BK1235; clear HB; have HO1238 := n0_; have BK1235 := n1_; have HB := n2_; clear n0_ n1_ n2_; (try clear hb); (try clear hb2); (try clear hk); (try clear hi); (try clear ho0); obtain ⟨Ao13, co13, eo13⟩ := Kd.R_slice HO1238.out; subst eo13)); try go_wp2_with (first | ((with_reducible refine gate_dst (N := 2) rfl ?_); refine bx 2 #[.slice A0_0 l0_0.length c0_0] 26 ?_; intro gb1235 hg w10 hbox hb; have n0_ := am (below_step bw hb); have n1_ := am (hbox); have n2_ := am (gs hg : w.heap.size ≤ gb1235); have n3_ := am (gs hg : w.heap.size ≤ gb1235); clear HB; have HB := n0_; have BK1235 := n1_; have GW1235 := n2_; have GE1235 := n3_; clear n0_ n1_ n2_ n3_; clear hb hbox hg; have hcz11_0 := bc BK1235 0 (.slice A0_0 l0_0.length c0_0); have hfz11_0 := blk_frozen BK1235.out 0) | (go_at_call 104; (with_reducible refine (spec_LengthsOf.calls k _ _ l0_0 a1 t1236 _ ?side1 ?side2 A3.out).mono ?_); (case side1 => exact co (Kd.C_below HR0_0.out HB.out)); (case side2 => exact HC0_0.out); rintro e w12 ⟨v1237, rfl, ho0, hb⟩; have n0_ := am (Kd.R_lower ho0 (below_size bw)); have n1_ := am (blk_below (g := gb1235) (o := .cells #[.slice A0_0 l0_0.length c0_0] 26 (0, 0)) (bo BK1235.out) hb); have n2_ := am (below_step bw hb); clear BK1235; clear HB; have HO1238 := n0_; have BK1235 := n1_; have HB := n2_; clear n0_ n1_ n2_; (try clear hb); (try clear hb2); (try clear hk); (try clear hi); (try clear ho0); obtain ⟨Ao13, co13, eo13⟩ := Kd.R_slice HO1238.out; subst eo13)))
   go_ret2
   exact ⟨re, bw⟩
  ·rw [if_neg c9] at H
   have c9b0 : (a1 == 0) = false := beq_eq_false_iff_ne.mpr c9
   have c9b1 : (a1 != 0) = true := bne_iff_ne.mpr c9
   obtain ⟨ji14, hji14⟩ : ∃ j_ : Int, (wrap64 ((t1236.length : Int) - 1)) = j_ := ⟨_, rfl⟩
   replace H : (if 0 ≤ (ji14) then (if (ji14) < (t1236.length : Int) then (if 0 < (t1236.length : Int) then ((spec_GcdOf.f k (rd t1236 (ji14)) (rd t1236 0)).bind fun t1241 => (if t1241 = 0 then (none) else (some (wrap64 (Int.tdiv (rd t1236 (ji14)) t1241), wrap64 (Int.tdiv (rd t1236 0) t1241))))) else (none)) else (none)) else (none)) = some (r1, r2) := by first | (rw [hji14] at H; exact H) | (simp only [hji14] at H ⊢; exact H)
   (try rw [hji14] at A3)
   have hji14w : (IntKind.i64.wrap ((t1236.length : Int) - 1)) = ji14 := (i64_w _).trans hji14
   replace H := gd H; obtain ⟨c15b0, H⟩ := H
   replace H := gd H; obtain ⟨c16b0, H⟩ := H
   replace H := gp H; obtain ⟨c17, H⟩ := H
   have c17b0 : decide (0 < (t1236.length : Int)) = true := decide_eq_true c17
   have c17b1 : decide (0 < t1236.length) = true := decide_eq_true (by omega)
   clear c17
   replace H := ga H; obtain ⟨t1241, A18, H⟩ := H
   by_cases c19 : t1241 = 0
   ·rw [if_pos c19] at H
    exact absurd H (by simp)
   ·rw [if_neg c19] at H
    have c19b0 : (t1241 == 0) = false := beq_eq_false_iff_ne.mpr c19
    have c19b1 : (t1241 != 0) = true := bne_iff_ne.mpr c19
    simp only [Option.some.injEq, Prod.mk.injEq] at H
    obtain ⟨rfl, rfl⟩ := H
    go_enter Try.func100, Try.ntmps100
    go_wp2_with (first | ((with_reducible refine gate_dst (N := 2) rfl ?_); refine bx 2 #[.slice A0_0 l0_0.length c0_0] 26 ?_; intro gb1235 hg w20 hbox hb; have BK1235 := am (hbox); have GW1235 := am (gs hg : w.heap.size ≤ gb1235); have GE1235 := GW1235; replace HB := am (below_step bw hb); clear hb hbox hg; have hcz21_0 := bc BK1235 0 (.slice A0_0 l0_0.length c0_0); have hfz21_0 := blk_frozen BK1235.out 0) | (go_at_call 104; (with_reducible refine (spec_LengthsOf.calls k _ _ l0_0 a1 t1236 _ ?side1 ?side2 A3.out).mono ?_); (case side1 => exact co (Kd.C_below HR0_0.out HB.out)); (case side2 => exact HC0_0.out); rintro e w22 ⟨v1237, rfl, ho0, hb⟩; have HO1238 := am (Kd.R_lower ho0 (below_size bw)); replace BK1235 := kb BK1235 hb; replace HB := am (below_step bw hb); clear hb ho0; obtain ⟨Ao23, co23, eo23⟩ := Kd.R_slice HO1238.out; subst eo23; have p1239 : 0 ≤ ((ji14) : Int) := of_decide_eq_true (by first | (with_reducible assumption) | assumption); have q1239 : (ji14) < (t1236.length : Int) := of_decide_eq_true (by first | (with_reducible assumption) | assumption); obtain ⟨ad1239, e1239, hx1239_0⟩ := Kd.at_int (Kd.R_reads' HO1238.out).2.2 (ji14) p1239 q1239; cases e1239; replace p1239 := eq_true p1239; replace q1239 := eq_true q1239; have p1240 : 0 ≤ (0 : Int) := (by omega); have q1240 : 0 < (t1236.length : Int) := of_decide_eq_true (by first | (with_reducible assumption) | assumption); obtain ⟨ad1240, e1240, hx1240_0⟩ := Kd.at_int (Kd.R_reads' HO1238.out).2.2 0 p1240 q1240; obtain rfl : ad1239 = ad1240 := (by injection e1240); have qi1240 : (0 < t1236.length) = True := eq_true (by omega); (try rw [show ((0 : Int)).toNat = 0 from rfl] at hx1240_0); (try rw [Addr.add_zero'] at hx1240_0); replace p1240 := eq_true p1240; replace q1240 := eq_true q1240) | (go_at_call 107; (with_reducible refine (spec_GcdOf.calls k (rd t1236 (ji14)) (rd t1236 0) t1241 _ A18.out).mono ?_); rintro e w' ⟨rfl, ⟨nd, rfl⟩⟩; (try first | exact ⟨rfl, _, World.drewN_drewN _ _ _⟩ | exact ⟨rfl, _, Eq.trans (World.drewN_drewN _ _ _) (congrArg (World.drewN _) (Nat.add_assoc _ _ _))⟩)))
    repeat (go_quiet (first | ((with_reducible refine gate_dst (N := 2) rfl ?_); refine bx 2 #[.slice A0_0 l0_0.length c0_0] 26 ?_; intro gb1235 hg w20 hbox hb; have n0_ := am (below_step bw hb); have n1_ := am (hbox); have n2_ := am (gs hg : w.heap.size ≤ gb1235); have n3_ := am (gs hg : w.heap.size ≤ gb1235); clear HB; have HB := n0_; have BK1235 := n1_; have GW1235 := n2_; have GE1235 := n3_; clear n0_ n1_ n2_ n3_; clear hb hbox hg; have hcz21_0 := bc BK1235 0 (.slice A0_0 l0_0.length c0_0); have hfz21_0 := blk_frozen BK1235.out 0) | (go_at_call 104; (with_reducible refine (spec_LengthsOf.calls k _ _ l0_0 a1 t1236 _ ?side1 ?side2 A3.out).mono ?_); (case side1 => exact co (Kd.C_below HR0_0.out HB.out)); (case side2 => exact HC0_0.out); rintro e w22 ⟨v1237, rfl, ho0, hb⟩; have n0_ := am (Kd.R_lower ho0 (below_size bw)); have n1_ := am (blk_below (g := gb1235) (o := .cells #[.slice A0_0 l0_0.length c0_0] 26 (0, 0)) (bo BK1235.out) hb); have n2_ := am (below_step bw hb); clear BK1235; clear HB; have HO1238 := n0_; have BK1235 := n1_; have HB := n2_; clear n0_ n1_ n2_; (try clear hb); (try clear hb2); (try clear hk); (try clear hi); (try clear ho0); obtain ⟨Ao23, co23, eo23⟩ := Kd.R_slice HO1238.out; subst eo23; have p1239 : 0 ≤ ((ji14) : Int) := of_decide_eq_true (by first | (with_reducible assumption) | assumption); have q1239 : (ji14) < (t1236.length : Int) := of_decide_eq_true (by first | (with_reducible assumption) | assumption); obtain ⟨ad1239, e1239, hx1239_0⟩ := Kd.at_int (Kd.R_reads' HO1238.out).2.2 (ji14) p1239 q1239; cases e1239; replace p1239 := eq_true p1239; replace q1239 := eq_true q1239; have p1240 : 0 ≤ (0 : Int) := (by omega); have q1240 : 0 < (t1236.length : Int) := of_decide_eq_true (by first | (with_reducible assumption) | assumption); obtain ⟨ad1240, e1240, hx1240_0⟩ := Kd.at_int (Kd.R_reads' HO1238.out).2.2 0 p1240 q1240; obtain rfl : ad1239 = ad1240 := (by injection e1240); have qi1240 : (0 < t1236.length) = True := eq_true (by omega); (try rw [show ((0 : Int)).toNat = 0 from rfl] at hx1240_0); (try rw [Addr.add_zero'] at hx1240_0); replace p1240 := eq_true p1240; replace q1240 := eq_true q1240) | (go_at_call 107; (with_reducible refine (spec_GcdOf.calls k (rd t1236 (ji14)) (rd t1236 0) t1241 _ A18.out).mono ?_); rintro e w' ⟨rfl, ⟨nd, rfl⟩⟩; (try first | exact ⟨rfl, _, World.drewN_drewN _ _ _⟩ | exact ⟨rfl, _, Eq.trans (World.drewN_drewN _ _ _) (congrArg (World.drewN _) (Nat.add_assoc _ _ _))⟩))); try go_wp2_with (first | ((with_reducible refine gate_dst (N := 2) rfl ?_); refine bx 2 #[.slice A0_0 l0_0.length c0_0] 26 ?_; intro gb1235 hg w20 hbox hb; have n0_ := am (below_step bw hb); have n1_ := am (hbox); have n2_ := am (gs hg : w.heap.size ≤ gb1235); have n3_ := am (gs hg : w.heap.size ≤ gb1235); clear HB; have HB := n0_; have BK1235 := n1_; have GW1235 := n2_; have GE1235 := n3_; clear n0_ n1_ n2_ n3_; clear hb hbox hg; have hcz21_0 := bc BK1235 0 (.slice A0_0 l0_0.length c0_0); have hfz21_0 := blk_frozen BK1235.out 0) | (go_at_call 104; (with_reducible refine (spec_LengthsOf.calls k _ _ l0_0 a1 t1236 _ ?side1 ?side2 A3.out).mono ?_); (case side1 => exact co (Kd.C_below HR0_0.out HB.out)); (case side2 => exact HC0_0.out); rintro e w22 ⟨v1237, rfl, ho0, hb⟩; have n0_ := am (Kd.R_lower ho0 (below_size bw)); have n1_ := am (blk_below (g := gb1235) (o := .cells #[.slice A0_0 l0_0.length c0_0] 26 (0, 0)) (bo BK1235.out) hb); have n2_ := am (below_step bw hb); clear BK1235; clear HB; have HO1238 := n0_; have BK1235 := n1_; have HB := n2_; clear n0_ n1_ n2_; (try clear hb); (try clear hb2); (try clear hk); (try clear hi); (try clear ho0); obtain ⟨Ao23, co23, eo23⟩ := Kd.R_slice HO1238.out; subst eo23; have p1239 : 0 ≤ ((ji14) : Int) := of_decide_eq_true (by first | (with_reducible assumption) | assumption); have q1239 : (ji14) < (t1236.length : Int) := of_decide_eq_true (by first | (with_reducible assumption) | assumption); obtain ⟨ad1239, e1239, hx1239_0⟩ := Kd.at_int (Kd.R_reads' HO1238.out).2.2 (ji14) p1239 q1239; cases e1239; replace p1239 := eq_true p1239; replace q1239 := eq_true q1239; have p1240 : 0 ≤ (0 : Int) := (by omega); have q1240 : 0 < (t1236.length : Int) := of_decide_eq_true (by first | (with_reducible assumption) | assumption); obtain ⟨ad1240, e1240, hx1240_0⟩ := Kd.at_int (Kd.R_reads' HO1238.out).2.2 0 p1240 q1240; obtain rfl : ad1239 = ad1240 := (by injection e1240); have qi1240 : (0 < t1236.length) = True := eq_true (by omega); (try rw [show ((0 : Int)).toNat = 0 from rfl] at hx1240_0); (try rw [Addr.add_zero'] at hx1240_0); replace p1240 := eq_true p1240; replace q1240 := eq_true q1240) | (go_at_call 107; (with_reducible refine (spec_GcdOf.calls k (rd t1236 (ji14)) (rd t1236 0) t1241 _ A18.out).mono ?_); rintro e w' ⟨rfl, ⟨nd, rfl⟩⟩; (try first | exact ⟨rfl, _, World.drewN_drewN _ _ _⟩ | exact ⟨rfl, _, Eq.trans (World.drewN_drewN _ _ _) (congrArg (World.drewN _) (Nat.add_assoc _ _ _))⟩))))
    go_ret2
    exact ⟨by first | rfl | (simp [errW_none, errW_some] <;> rfl) | (simp only [← hji14]; first | rfl | (simp [errW_none, errW_some] <;> rfl)) | (simp [*, errW_none, errW_some] <;> rfl), bw⟩


/-! ### impl_GreatestElasticity: function 101 -/
def impl_GreatestElasticity.f (k : Nat) (l0_0 : List Int) : Option (Int × Int) := (impl_IsSemigroup.f k l0_0).bind fun t1243 => (if t1243 = true then (if 0 ≤ (wrap64 ((l0_0.length : Int) - 1)) then (if (wrap64 ((l0_0.length : Int) - 1)) < (l0_0.length : Int) then (if 0 < (l0_0.length : Int) then ((impl_lowest.f k (rd l0_0 (wrap64 ((l0_0.length : Int) - 1))) (rd l0_0 0)).bind fun bt1246 => (some (bt1246.1, bt1246.2))) else (none)) else (none)) else (none)) else (some (0, 0)))
def impl_GreatestElasticity.T3 : Bool × List (List Nat × List Nat) := (true, [([], []), ([0], [0]), ([], []), ([2], [2]), ([3], [3]), ([4], [4]), ([1, 5], [1, 5]), ([6], [6]), ([], []), ([8], [8]), ([9], [9]), ([10], [10]), ([7, 11], [7, 11]), ([12], [12]), ([12], [12]), ([13, 12, 0, 1, 2, 3, 4, 5, 6, 7, 8, 9, 10, 11, 12, 13, 14], [13]), ([14, 15, 0, 1, 2, 3, 4, 5, 6, 7, 8, 9, 10, 11, 12, 13, 14, 15], [14])])
def impl_GreatestElasticity.B3 : List Nat := [0, 1, 0, 4, 12, 28, 63, 127, 0, 256, 768, 1792, 4095, 8191, 8191, 32767, 65535]
theorem impl_GreatestElasticity.tab3 : rtab .any (opsOf Try.f101 3) = impl_GreatestElasticity.T3 := by kernel_rfl
theorem impl_GreatestElasticity.bits3 : waitsOk impl_GreatestElasticity.T3.2 impl_GreatestElasticity.B3 = true := by kernel_rfl
set_option maxHeartbeats 8000000 in
set_option maxRecDepth 100000 in
theorem impl_GreatestElasticity.calls (k : Nat) (A0_0 : Option Addr) (c0_0 : Nat) (l0_0 : List Int) (r1 : Int) (r2 : Int) (w : World) (hr0_0 : Kd.C (Kd.int .i64) w A0_0 l0_0.length l0_0) (hc0_0 : l0_0.length ≤ c0_0) (h : impl_GreatestElasticity.f k l0_0 = some (r1, r2)) :
  Calls Try.prog 101 #[.agg #[.slice A0_0 l0_0.length c0_0]] w fun e w' => e = .returned (.tuple #[.int .i64 r1, .int .i64 r2]) ∧ Below w.heap.size w w' := by
 have hu26 := Try.underlying26
 have HR0_0 := am hr0_0
 have HC0_0 := am hc0_0
 clear hr0_0 hc0_0
 have HB := am (Below.refl w.heap.size w)
 have H : ((impl_IsSemigroup.f k l0_0).bind fun t1243 => (if t1243 = true then (if 0 ≤ (wrap64 ((l0_0.length : Int) - 1)) then (if (wrap64 ((l0_0.length : Int) - 1)) < (l0_0.length : Int) then (if 0 < (l0_0.length : Int) then ((impl_lowest.f k (rd l0_0 (wrap64 ((l0_0.length : Int) - 1))) (rd l0_0 0)).bind fun bt1246 => (some (bt1246.1, bt1246.2))) else (none)) else (none)) else (none)) else (some (0, 0)))) = some (r1, r2) := h
 clear h
 replace H := ga H; obtain ⟨t1243, A2, H⟩ := H
 replace H := gb H; obtain ⟨rfl, H⟩ | ⟨rfl, H⟩ := H
 ·obtain ⟨ji4, hji4⟩ : ∃ j_ : Int, (wrap64 ((l0_0.length : Int) - 1)) = j_ := ⟨_, rfl⟩
  replace H : (if 0 ≤ (ji4) then (if (ji4) < (l0_0.length : Int) then (if 0 < (l0_0.length : Int) then ((impl_lowest.f k (rd l0_0 (ji4)) (rd l0_0 0)).bind fun bt1246 => (some (bt1246.1, bt1246.2))) else (none)) else (none)) else (none)) = some (r1, r2) := by first | (rw [hji4] at H; exact H) | (simp only [hji4] at H ⊢; exact H)
  (try rw [hji4] at A2)
  have hji4w : (IntKind.i64.wrap ((l0_0.length : Int) - 1)) = ji4 := (i64_w _).trans hji4
  replace H := gd H; obtain ⟨c5b0, H⟩ := H
  replace H := gd H; obtain ⟨c6b0, H⟩ := H
  replace H := gp H; obtain ⟨c7, H⟩ := H
  have c7b0 : decide (0 < (l0_0.length : Int)) = true := decide_eq_true c7
  have c7b1 : decide (0 < l0_0.length) = true := decide_eq_true (by omega)
  clear c7
  replace H := ga H; obtain ⟨⟨t1246, t1247⟩, A8, H⟩ := H
  replace H : (some (t1246, t1247)) = some (r1, r2) := H
  simp only [Option.some.injEq, Prod.mk.injEq] at H
  obtain ⟨rfl, rfl⟩ := H
  go_enter Try.func101, Try.ntmps101
  try go_wp2_with (first | ((with_reducible refine gate_dst (N := 1) rfl ?_); refine bx 1 #[.slice A0_0 l0_0.length c0_0] 26 ?_; intro gb1242 hg w9 hbox hb; have BK1242 := am (hbox); have GW1242 := am (gs hg : w.heap.size ≤ gb1242); have GE1242 := GW1242; replace HB := am (below_step bw hb); clear hb hbox hg; have hcz10_0 := bc BK1242 0 (.slice A0_0 l0_0.length c0_0); have hfz10_0 := blk_frozen BK1242.out 0) | ((with_reducible refine gate_callee (f := 151) rfl ?_); refine gl (some 5) Try.func151 #[.agg #[.slice A0_0 l0_0.length c0_0]] ?_; (with_reducible refine (impl_IsSemigroup.calls k _ _ l0_0 true _ ?side1 ?side2 A2.out).mono ?_); (case side1 => exact co (Kd.C_below HR0_0.out HB.out)); (case side2 => exact HC0_0.out); rintro e w11 ⟨rfl, hb⟩; refine ⟨_, rfl, ?_⟩; replace BK1242 := kb BK1242 hb; replace HB := am (below_step bw hb); clear hb))
  replace BK1242 := am (blk_drew BK1242.out)
  replace HB := am (below_drew1 HB.out)
  obtain ⟨⟨ad1244, e1244, hx1244_0⟩, p1244, q1244⟩ := pq (Kd.at_int HR0_0.out (ji4))
  have hw1244_0 := hx1244_0
  cases e1244
  replace hx1244_0 := (HB.out.cell (World.block_lt_of_cell? w _ hx1244_0)).trans hx1244_0
  have p1245 : 0 ≤ (0 : Int) := (by omega)
  have q1245 : 0 < (l0_0.length : Int) := of_decide_eq_true (by first | (with_reducible assumption) | assumption)
  obtain ⟨ad1245, e1245, hx1245_0⟩ := Kd.at_int HR0_0.out 0 p1245 q1245
  have hw1245_0 := hx1245_0
  (try rw [show ((0 : Int)).toNat = 0 from rfl] at hw1245_0)
  (try rw [show 0 * 1 = 0 from rfl] at hw1245_0)
  (try rw [Addr.add_zero'] at hw1245_0)
  obtain rfl : ad1244 = ad1245 := (by injection e1245)
  have qi1245 : (0 < l0_0.length) = True := eq_true (by omega)
  (try rw [show ((0 : Int)).toNat = 0 from rfl] at hx1245_0)
  (try rw [Addr.add_zero'] at hx1245_0)
  replace hx1245_0 := (HB.out.cell (World.block_lt_of_cell? w _ hx1245_0)).trans hx1245_0
  replace p1245 := eq_true p1245
  replace q1245 := eq_true q1245
  refine start_ (n := 17) (S := fun w' => w'.cell? ⟨gb1242, 0, none⟩ = some (.slice (some ad1244) l0_0.length c0_0) ∧ w'.cell? (ad1244.add ((ji4)).toNat) = some (.int .i64 (rd l0_0 (ji4))) ∧ w'.cell? ad1244 = some (.int .i64 (rd l0_0 0))) (ds := []) (yz 17 0) (by kernel_rfl) rfl rfl ⟨(blk_cell BK1242.out 0).trans rfl, ((HB.out.cell (World.block_lt_of_cell? w _ hw1244_0)).trans hw1244_0), ((HB.out.cell (World.block_lt_of_cell? w _ hw1245_0)).trans hw1245_0)⟩ (fun hHeld => ?_); refine with_tabW impl_GreatestElasticity.tab3 impl_GreatestElasticity.bits3 (fun HT_ HW_ => ?_)
  generalize w11.drew = w12 at BK1242 HB hx1244_0 hx1245_0 hHeld ⊢
  refine pa 0 (some 7) (yz 17 1) HT_ ?_
  refine pa 2 (some 9) (yz 17 5) HT_ ?_
  refine pa 8 (some 15) (yz 17 261) HT_ ?_
  refine take_ (i := 1) (N := some 8) (v := ?_) (a' := ?_) (yz 17 263) rfl rfl (take_ofW HT_.out HW_.out (by kernel_rfl)) (fun _ _ _ h => h) (Or.inl ⟨by rfl, ?_⟩) hHeld ?_ ?_
  rotate_left
  ·rintro w' ⟨s0, s1, s2⟩
   go_simp
   with_reducible rfl
  rotate_left
  ·simp only [Act.put, qa, qb, qc, i64_w, i32_w]
   rfl
  refine take_ (i := 3) (N := some 10) (v := ?_) (a' := ?_) (yz 17 271) rfl rfl (take_ofW HT_.out HW_.out (by kernel_rfl)) (fun _ _ _ h => h) (Or.inl ⟨by rfl, ?_⟩) hHeld ?_ ?_
  rotate_left
  ·rintro w' ⟨s0, s1, s2⟩
   go_simp
   with_reducible rfl
  rotate_left
  ·simp only [Act.put, qa, qb, qc, i64_w, i32_w]
   rfl
  refine pa 4 (some 11) (yz 17 287) HT_ ?_
  refine pa 5 (some 12) (yz 17 319) HT_ ?_
  refine pa 6 (some 13) (yz 17 383) HT_ ?_
  refine take_ (i := 7) (N := some 14) (v := ?_) (a' := ?_) (yz 17 511) rfl rfl (take_ofW HT_.out HW_.out (by kernel_rfl)) (fun _ _ _ h => h) (Or.inl ⟨by rfl, ?_⟩) hHeld ?_ ?_
  rotate_left
  ·rintro w' ⟨s0, s1, s2⟩
   go_simp
   with_reducible rfl
  rotate_left
  ·simp only [Act.put, qa, qb, qc, i64_w, i32_w]
   rfl
  refine take_ (i := 9) (N := some 16) (v := ?_) (a' := ?_) (yz 17 1023) rfl rfl (take_ofW HT_.out HW_.out (by kernel_rfl)) (fun _ _ _ h => h) (Or.inl ⟨by rfl, ?_⟩) hHeld ?_ ?_
  rotate_left
  ·rintro w' ⟨s0, s1, s2⟩
   go_simp
   with_reducible rfl
  rotate_left
  ·simp only [Act.put, qa, qb, qc, i64_w, i32_w]
   rfl
  refine pa 10 (some 17) (yz 17 2047) HT_ ?_
  refine take_ (i := 11) (N := some 18) (v := ?_) (a' := ?_) (yz 17 4095) rfl rfl (take_ofW HT_.out HW_.out (by kernel_rfl)) (fun _ _ _ h => h) (Or.inl ⟨by rfl, ?_⟩) hHeld ?_ ?_
  rotate_left
  ·rintro w' ⟨s0, s1, s2⟩
   go_simp
   with_reducible rfl
  rotate_left
  ·simp only [Act.put, qa, qb, qc, i64_w, i32_w]
   rfl
  refine oa 12 (some 19) (yz 17 8191) HT_ (fun K hK => ?_)
  refine goes_ Try.func203 (by kernel_rfl) rfl #[.int .i64 (rd l0_0 (ji4)), .int .i64 (rd l0_0 0)] (by rfl) rfl rfl (by (try simp only [List.map_toArray, List.map_cons, List.map_nil]); first | done | (simp only [hji4]; rfl) | rfl | (simp only [List.length_drop, List.length_take]; rfl)) ?_
  with_reducible refine (impl_lowest.calls k (rd l0_0 (ji4)) (rd l0_0 0) t1246 t1247 _ A8.out).mono ?_
  rintro e w13 ⟨rfl, hb⟩
  refine ⟨_, rfl, ?_⟩
  replace BK1242 := kb BK1242 hb
  replace HB := am (below_step bw hb)
  clear hb
  refine hK.out _ _ ⟨(blk_cell BK1242.out 0).trans rfl, ((HB.out.cell (World.block_lt_of_cell? w _ hw1244_0)).trans hw1244_0), ((HB.out.cell (World.block_lt_of_cell? w _ hw1245_0)).trans hw1245_0)⟩ (fun hHeld => ?_)
  clear hK K
  refine norm_ (a' := ?_) ?_ ?_
  rotate_left
  ·show Act.put _ (some 19) _ = _
   simp only [Act.put, qa, qb, qc, i64_w, i32_w]
   rfl
  refine pa 13 (some 20) (yz 17 16383) HT_ ?_
  refine pa 14 (some 21) (yz 17 32767) HT_ ?_
  refine pa 15 (some 2) (yz 17 65535) HT_ ?_
  refine pa 16 (some 3) (yz 17 131071) HT_ ?_
  refine done_ (done_of HT_.out (by kernel_rfl)) ?_
  try go_wp2
  go_ret2
  exact ⟨by first | rfl | (simp [errW_none, errW_some] <;> rfl) | (simp only [← hji4]; first | rfl | (simp [errW_none, errW_some] <;> rfl)) | (simp [*, errW_none, errW_some] <;> rfl), bw⟩
 ·simp only [Option.some.injEq, Prod.mk.injEq] at H
  obtain ⟨rfl, rfl⟩ := H
  go_enter Try.func101, Try.ntmps101
  go_wp2_with (first | ((with_reducible refine gate_dst (N := 1) rfl ?_); refine bx 1 #[.slice A0_0 l0_0.length c0_0] 26 ?_; intro gb1242 hg w14 hbox hb; have BK1242 := am (hbox); have GW1242 := am (gs hg : w.heap.size ≤ gb1242); have GE1242 := GW1242; replace HB := am (below_step bw hb); clear hb hbox hg; have hcz15_0 := bc BK1242 0 (.slice A0_0 l0_0.length c0_0); have hfz15_0 := blk_frozen BK1242.out 0) | ((with_reducible refine gate_callee (f := 151) rfl ?_); refine gl (some 5) Try.func151 #[.agg #[.slice A0_0 l0_0.length c0_0]] ?_; (with_reducible refine (impl_IsSemigroup.calls k _ _ l0_0 false _ ?side1 ?side2 A2.out).mono ?_); (case side1 => exact co (Kd.C_below HR0_0.out HB.out)); (case side2 => exact HC0_0.out); rintro e w16 ⟨rfl, hb⟩; refine ⟨_, rfl, ?_⟩; replace BK1242 := kb BK1242 hb; replace HB := am (below_step bw hb); clear hb))
  go_ret2
  exact ⟨re, bw⟩


/-! ### spec_GreatestElasticity: function 102 -/
def spec_GreatestElasticity.f (k : Nat) (l0_0 : List Int) : Option (Int × Int) := (spec_IsSemigroup.f k l0_0).bind fun t1249 => (if t1249 = true then (if 0 ≤ (wrap64 ((l0_0.length : Int) - 1)) then (if (wrap64 ((l0_0.length : Int) - 1)) < (l0_0.length : Int) then (if 0 < (l0_0.length : Int) then ((spec_GcdOf.f k (rd l0_0 (wrap64 ((l0_0.length : Int) - 1))) (rd l0_0 0)).bind fun t1252 => (if t1252 = 0 then (none) else (some (wrap64 (Int.tdiv (rd l0_0 (wrap64 ((l0_0.length : Int) - 1))) t1252), wrap64 (Int.tdiv (rd l0_0 0) t1252))))) else (none)) else (none)) else (none)) else (some (0, 0)))
set_option maxHeartbeats 8000000 in
set_option maxRecDepth 100000 in
theorem spec_GreatestElasticity.calls (k : Nat) (A0_0 : Option Addr) (c0_0 : Nat) (l0_0 : List Int) (r1 : Int) (r2 : Int) (w : World) (hr0_0 : Kd.C (Kd.int .i64) w A0_0 l0_0.length l0_0) (hc0_0 : l0_0.length ≤ c0_0) (h : spec_GreatestElasticity.f k l0_0 = some (r1, r2)) :
  Calls Try.prog 102 #[.agg #[.slice A0_0 l0_0.length c0_0]] w fun e w' => e = .returned (.tuple #[.int .i64 r1, .int .i64 r2]) ∧ Below w.heap.size w w' := by
 have hu26 := Try.underlying26
 have HR0_0 := am hr0_0
 have HC0_0 := am hc0_0
 clear hr0_0 hc0_0
 have HB := am (Below.refl w.heap.size w)
 have H : ((spec_IsSemigroup.f k l0_0).bind fun t1249 => (if t1249 = true then (if 0 ≤ (wrap64 ((l0_0.length : Int) - 1)) then (if (wrap64 ((l0_0.length : Int) - 1)) < (l0_0.length : Int) then (if 0 < (l0_0.length : Int) then ((spec_GcdOf.f k (rd l0_0 (wrap64 ((l0_0.length : Int) - 1))) (rd l0_0 0)).bind fun t1252 => (if t1252 = 0 then (none) else (some (wrap64 (Int.tdiv (rd l0_0 (wrap64 ((l0_0.length : Int) - 1))) t1252), wrap64 (Int.tdiv (rd l0_0 0) t1252))))) else (none)) else (none)) else (none)) else (some (0, 0)))) = some (r1, r2) := h
 clear h
 replace H := ga H; obtain ⟨t1249, A2, H⟩ := H
 replace H := gb H; obtain ⟨rfl, H⟩ | ⟨rfl, H⟩ := H
 ·obtain ⟨ji4, hji4⟩ : ∃ j_ : Int, (wrap64 ((l0_0.length : Int) - 1)) = j_ := ⟨_, rfl⟩
  replace H : (if 0 ≤ (ji4) then (if (ji4) < (l0_0.length : Int) then (if 0 < (l0_0.length : Int) then ((spec_GcdOf.f k (rd l0_0 (ji4)) (rd l0_0 0)).bind fun t1252 => (if t1252 = 0 then (none) else (some (wrap64 (Int.tdiv (rd l0_0 (ji4)) t1252), wrap64 (Int.tdiv (rd l0_0 0) t1252))))) else (none)) else (none)) else (none)) = some (r1, r2) := by first | (rw [hji4] at H; exact H) | (simp only [hji4] at H ⊢; exact H)
  (try rw [hji4] at A2)
  have hji4w : (IntKind.i64.wrap ((l0_0.length : Int) - 1)) = ji4 := (i64_w _).trans hji4
  replace H := gd H; obtain ⟨c5b0, H⟩ := H
  replace H := gd H; obtain ⟨c6b0, H⟩ := H
  replace H := gp H; obtain ⟨c7, H⟩ := H
  have c7b0 : decide (0 < (l0_0.length : Int)) = true := decide_eq_true c7
  have c7b1 : decide (0 < l0_0.length) = true := decide_eq_true (by omega)
  clear c7
  replace H := ga H; obtain ⟨t1252, A8, H⟩ := H
  by_cases c9 : t1252 = 0
  ·rw [if_pos c9] at H
   exact absurd H (by simp)
  ·rw [if_neg c9] at H
   have c9b0 : (t1252 == 0) = false := beq_eq_false_iff_ne.mpr c9
   have c9b1 : (t1252 != 0) = true := bne_iff_ne.mpr c9
   simp only [Option.some.injEq, Prod.mk.injEq] at H
   obtain ⟨rfl, rfl⟩ := H
   go_enter Try.func102, Try.ntmps102
   go_wp2_with (first | ((with_reducible refine gate_dst (N := 1) rfl ?_); refine bx 1 #[.slice A0_0 l0_0.length c0_0] 26 ?_; intro gb1248 hg w10 hbox hb; have BK1248 := am (hbox); have GW1248 := am (gs hg : w.heap.size ≤ gb1248); have GE1248 := GW1248; replace HB := am (below_step bw hb); clear hb hbox hg; have hcz11_0 := bc BK1248 0 (.slice A0_0 l0_0.length c0_0); have hfz11_0 := blk_frozen BK1248.out 0) | (go_at_call 23; (with_reducible refine (spec_IsSemigroup.calls k _ _ l0_0 true _ ?side1 ?side2 A2.out).mono ?_); (case side1 => exact co (Kd.C_below HR0_0.out HB.out)); (case side2 => exact HC0_0.out); rintro e w12 ⟨rfl, hb⟩; replace BK1248 := kb BK1248 hb; replace HB := am (below_step bw hb); clear hb; have hcz13_0 := bc BK1248 0 (.slice A0_0 l0_0.length c0_0); have hfz13_0 := blk_frozen BK1248.out 0; have p1250 : 0 ≤ ((ji4) : Int) := of_decide_eq_true (by first | (with_reducible assumption) | assumption); have q1250 : (ji4) < (l0_0.length : Int) := of_decide_eq_true (by first | (with_reducible assumption) | assumption); obtain ⟨ad1250, e1250, hx1250_0⟩ := Kd.at_int HR0_0.out (ji4) p1250 q1250; cases e1250; replace hx1250_0 := (HB.out.cell (World.block_lt_of_cell? w _ hx1250_0)).trans hx1250_0; replace p1250 := eq_true p1250; replace q1250 := eq_true q1250; have p1251 : 0 ≤ (0 : Int) := (by omega); have q1251 : 0 < (l0_0.length : Int) := of_decide_eq_true (by first | (with_reducible assumption) | assumption); obtain ⟨ad1251, e1251, hx1251_0⟩ := Kd.at_int HR0_0.out 0 p1251 q1251; obtain rfl : ad1250 = ad1251 := (by injection e1251); have qi1251 : (0 < l0_0.length) = True := eq_true (by omega); (try rw [show ((0 : Int)).toNat = 0 from rfl] at hx1251_0); (try rw [Addr.add_zero'] at hx1251_0); replace hx1251_0 := (HB.out.cell (World.block_lt_of_cell? w _ hx1251_0)).trans hx1251_0; replace p1251 := eq_true p1251; replace q1251 := eq_true q1251) | (go_at_call 107; (with_reducible refine (spec_GcdOf.calls k (rd l0_0 (ji4)) (rd l0_0 0) t1252 _ A8.out).mono ?_); rintro e w' ⟨rfl, ⟨nd, rfl⟩⟩; (try first | exact ⟨rfl, _, World.drewN_drewN _ _ _⟩ | exact ⟨rfl, _, Eq.trans (World.drewN_drewN _ _ _) (congrArg (World.drewN _) (Nat.add_assoc _ _ _))⟩)))
   repeat (go_quiet (first | ((with_reducible refine gate_dst (N := 1) rfl ?_); refine bx 1 #[.slice A0_0 l0_0.length c0_0] 26 ?_; intro gb1248 hg w10 hbox hb; have n0_ := am (below_step bw hb); have n1_ := am (hbox); have n2_ := am (gs hg : w.heap.size ≤ gb1248); have n3_ := am (gs hg : w.heap.size ≤ gb1248); clear HB; have HB := n0_; have BK1248 := n1_; have GW1248 := n2_; have GE1248 := n3_; clear n0_ n1_ n2_ n3_; clear hb hbox hg; have hcz11_0 := bc BK1248 0 (.slice A0_0 l0_0.length c0_0); have hfz11_0 := blk_frozen BK1248.out 0) | (go_at_call 23; (with_reducible refine (spec_IsSemigroup.calls k _ _ l0_0 true _ ?side1 ?side2 A2.out).mono ?_); (case side1 => exact co (Kd.C_below HR0_0.out HB.out)); (case side2 => exact HC0_0.out); rintro e w12 ⟨rfl, hb⟩; have n0_ := am (blk_below (g := gb1248) (o := .cells #[.slice A0_0 l0_0.length c0_0] 26 (0, 0)) (bo BK1248.out) hb); have n1_ := am (below_step bw hb); clear BK1248; clear HB; have BK1248 := n0_; have HB := n1_; clear n0_ n1_; (try clear hb); (try clear hb2); (try clear hk); (try clear hi); have hcz13_0 := bc BK1248 0 (.slice A0_0 l0_0.length c0_0); have hfz13_0 := blk_frozen BK1248.out 0; have p1250 : 0 ≤ ((ji4) : Int) := of_decide_eq_true (by first | (with_reducible assumption) | assumption); have q1250 : (ji4) < (l0_0.length : Int) := of_decide_eq_true (by first | (with_reducible assumption) | assumption); obtain ⟨ad1250, e1250, hx1250_0⟩ := Kd.at_int HR0_0.out (ji4) p1250 q1250; cases e1250; replace hx1250_0 := (HB.out.cell (World.block_lt_of_cell? w _ hx1250_0)).trans hx1250_0; replace p1250 := eq_true p1250; replace q1250 := eq_true q1250; have p1251 : 0 ≤ (0 : Int) := (by omega); have q1251 : 0 < (l0_0.length : Int) := of_decide_eq_true (by first | (with_reducible assumption) | assumption); obtain ⟨ad1251, e1251, hx1251_0⟩ := Kd.at_int HR0_0.out 0 p1251 q1251; obtain rfl : ad1250 = ad1251 := (by injection e1251); have qi1251 : (0 < l0_0.length) = True := eq_true (by omega); (try rw [show ((0 : Int)).toNat = 0 from rfl] at hx1251_0); (try rw [Addr.add_zero'] at hx1251_0); replace hx1251_0 := (HB.out.cell (World.block_lt_of_cell? w _ hx1251_0)).trans hx1251_0; replace p1251 := eq_true p1251; replace q1251 := eq_true q1251) | (go_at_call 107; (with_reducible refine (spec_GcdOf.calls k (rd l0_0 (ji4)) (rd l0_0 0) t1252 _ A8.out).mono ?_); rintro e w' ⟨rfl, ⟨nd, rfl⟩⟩; (try first | exact ⟨rfl, _, World.drewN_drewN _ _ _⟩ | exact ⟨rfl, _, Eq.trans (World.drewN_drewN _ _ _) (congrArg (World.drewN _) (Nat.add_assoc _ _ _))⟩))); try go_wp2_with (first | ((with_reducible refine gate_dst (N := 1) rfl ?_); refine bx 1 #[.slice A0_0 l0_0.length c0_0] 26 ?_; intro gb1248 hg w10 hbox hb; have n0_ := am (below_step bw hb); have n1_ := am (hbox); have n2_ := am (gs hg : w.heap.size ≤ gb1248); have n3_ := am (gs hg : w.heap.size ≤ gb1248); clear HB; have HB := n0_; have BK1248 := n1_; have GW1248 := n2_; have GE1248 := n3_; clear n0_ n1_ n2_ n3_; clear hb hbox hg; have hcz11_0 := bc BK1248 0 (.slice A0_0 l0_0.length c0_0); have hfz11_0 := blk_frozen BK1248.out 0) | (go_at_call 23; (with_reducible refine (spec_IsSemigroup.calls k _ _ l0_0 true _ ?side1 ?side2 A2.out).mono ?_); (case side1 => exact co (Kd.C_below HR0_0.out HB.out)); (case side2 => exact HC0_0.out); rintro e w12 ⟨rfl, hb⟩; have n0_ := am (blk_below (g := gb1248) (o := .cells #[.slice A0_0 l0_0.length c0_0] 26 (0, 0)) (bo BK1248.out) hb); have n1_ := am (below_step bw hb); clear BK1248; clear HB; have BK1248 := n0_; have HB := n1_; clear n0_ n1_; (try clear hb); (try clear hb2); (try clear hk); (try clear hi); have hcz13_0 := bc BK1248 0 (.slice A0_0 l0_0.length c0_0); have hfz13_0 := blk_frozen BK1248.out 0; have p1250 : 0 ≤ ((ji4) : Int) := of_decide_eq_true (by first | (with_reducible assumption) | assumption); have q1250 : (ji4) < (l0_0.length : Int) := of_decide_eq_true (by first | (with_reducible assumption) | assumption); obtain ⟨ad1250, e1250, hx1250_0⟩ := Kd.at_int HR0_0.out (ji4) p1250 q1250; cases e1250; replace hx1250_0 := (HB.out.cell (World.block_lt_of_cell? w _ hx1250_0)).trans hx1250_0; replace p1250 := eq_true p1250; replace q1250 := eq_true q1250; have p1251 : 0 ≤ (0 : Int) := (by omega); have q1251 : 0 < (l0_0.length : Int) := of_decide_eq_true (by first | (with_reducible assumption) | assumption); obtain ⟨ad1251, e1251, hx1251_0⟩ := Kd.at_int HR0_0.out 0 p1251 q1251; obtain rfl : ad1250 = ad1251 := (by injection e1251); have qi1251 : (0 < l0_0.length) = True := eq_true (by omega); (try rw [show ((0 : Int)).toNat = 0 from rfl] at hx1251_0); (try rw [Addr.add_zero'] at hx1251_0); replace hx1251_0 := (HB.out.cell (World.block_lt_of_cell? w _ hx1251_0)).trans hx1251_0; replace p1251 := eq_true p1251; replace q1251 := eq_true q1251) | (go_at_call 107; (with_reducible refine (spec_GcdOf.calls k (rd l0_0 (ji4)) (rd l0_0 0) t1252 _ A8.out).mono ?_); rintro e w' ⟨rfl, ⟨nd, rfl⟩⟩; (try first | exact ⟨rfl, _, World.drewN_drewN _ _ _⟩ | exact ⟨rfl, _, Eq.trans (World.drewN_drewN _ _ _) (congrArg (World.drewN _) (Nat.add_assoc _ _ _))⟩))))
   go_ret2
   exact ⟨by first | rfl | (simp [errW_none, errW_some] <;> rfl) | (simp only [← hji4]; first | rfl | (simp [errW_none, errW_some] <;> rfl)) | (simp [*, errW_none, errW_some] <;> rfl), bw⟩
 ·simp only [Option.some.injEq, Prod.mk.injEq] at H
  obtain ⟨rfl, rfl⟩ := H
  go_enter Try.func102, Try.ntmps102
  go_wp2_with (first | ((with_reducible refine gate_dst (N := 1) rfl ?_); refine bx 1 #[.slice A0_0 l0_0.length c0_0] 26 ?_; intro gb1248 hg w14 hbox hb; have BK1248 := am (hbox); have GW1248 := am (gs hg : w.heap.size ≤ gb1248); have GE1248 := GW1248; replace HB := am (below_step bw hb); clear hb hbox hg; have hcz15_0 := bc BK1248 0 (.slice A0_0 l0_0.length c0_0); have hfz15_0 := blk_frozen BK1248.out 0) | (go_at_call 23; (with_reducible refine (spec_IsSemigroup.calls k _ _ l0_0 false _ ?side1 ?side2 A2.out).mono ?_); (case side1 => exact co (Kd.C_below HR0_0.out HB.out)); (case side2 => exact HC0_0.out); rintro e w16 ⟨rfl, hb⟩; replace BK1248 := kb BK1248 hb; replace HB := am (below_step bw hb); clear hb))
  repeat (go_quiet (first | ((with_reducible refine gate_dst (N := 1) rfl ?_); refine bx 1 #[.slice A0_0 l0_0.length c0_0] 26 ?_; intro gb1248 hg w14 hbox hb; have n0_ := am (below_step bw hb); have n1_ := am (hbox); have n2_ := am (gs hg : w.heap.size ≤ gb1248); have n3_ := am (gs hg : w.heap.size ≤ gb1248); clear HB; have HB := n0_; have BK1248 := n1_; have GW1248 := n2_; have GE1248 := n3_; clear n0_ n1_ n2_ n3_; clear hb hbox hg; have hcz15_0 := bc BK1248 0 (.slice A0_0 l0_0.length c0_0); have hfz15_0 := blk_frozen BK1248.out 0) | (go_at_call 23; (with_reducible refine (spec_IsSemigroup.calls k _ _ l0_0 false _ ?side1 ?side2 A2.out).mono ?_); (case side1 => exact co (Kd.C_below HR0_0.out HB.out)); (case side2 => exact HC0_0.out); rintro e w16 ⟨rfl, hb⟩; have n0_ := am (blk_below (g := gb1248) (o := .cells #[.slice A0_0 l0_0.length c0_0] 26 (0, 0)) (bo BK1248.out) hb); have n1_ := am (below_step bw hb); clear BK1248; clear HB; have BK1248 := n0_; have HB := n1_; clear n0_ n1_; (try clear hb); (try clear hb2); (try clear hk); (try clear hi))); try go_wp2_with (first | ((with_reducible refine gate_dst (N := 1) rfl ?_); refine bx 1 #[.slice A0_0 l0_0.length c0_0] 26 ?_; intro gb1248 hg w14 hbox hb; have n0_ := am (below_step bw hb); have n1_ := am (hbox); have n2_ := am (gs hg : w.heap.size ≤ gb1248); have n3_ := am (gs hg : w.heap.size ≤ gb1248); clear HB; have HB := n0_; have BK1248 := n1_; have GW1248 := n2_; have GE1248 := n3_; clear n0_ n1_ n2_ n3_; clear hb hbox hg; have hcz15_0 := bc BK1248 0 (.slice A0_0 l0_0.length c0_0); have hfz15_0 := blk_frozen BK1248.out 0) | (go_at_call 23; (with_reducible refine (spec_IsSemigroup.calls k _ _ l0_0 false _ ?side1 ?side2 A2.out).mono ?_); (case side1 => exact co (Kd.C_below HR0_0.out HB.out)); (case side2 => exact HC0_0.out); rintro e w16 ⟨rfl, hb⟩; have n0_ := am (blk_below (g := gb1248) (o := .cells #[.slice A0_0 l0_0.length c0_0] 26 (0, 0)) (bo BK1248.out) hb); have n1_ := am (below_step bw hb); clear BK1248; clear HB; have BK1248 := n0_; have HB := n1_; clear n0_ n1_; (try clear hb); (try clear hb2); (try clear hk); (try clear hi))))
  go_ret2
  exact ⟨re, bw⟩


/-! ### spec_DrawDeltaSet: function 103 -/
def spec_DrawDeltaSet.f (k : Nat) (l0 : List Int) : Option (List Int × Int) := (spec_l11Case.f k l0).bind fun bt1254 => (if bt1254.2 > 30 then (if bt1254.2 < 101 then (some (bt1254.1, 30)) else (some (bt1254.1, bt1254.2))) else (some (bt1254.1, bt1254.2)))
set_option maxHeartbeats 8000000 in
set_option maxRecDepth 100000 in
theorem spec_DrawDeltaSet.calls (k : Nat) (A0 : Option Addr) (c0 : Nat) (l0 : List Int) (r1 : List Int) (r2 : Int) (w : World) (hr0 : Kd.C (Kd.int .u8) w A0 l0.length l0) (hc0 : l0.length ≤ c0) (h : spec_DrawDeltaSet.f k l0 = some (r1, r2)) :
  Calls Try.prog 103 #[.slice A0 l0.length c0] w fun e w' => ∃ v0_ : Value, e = .returned (.tuple #[.agg #[v0_], .int .i64 r2]) ∧ Kd.Q (Kd.int .i64) 3 w' w.heap.size (fun _ => True) v0_ r1 ∧ Below w.heap.size w w' := by
 have hu26 := Try.underlying26
 have HR0 := am hr0
 have HC0 := am hc0
 clear hr0 hc0
 have HB := am (Below.refl w.heap.size w)
 have H : ((spec_l11Case.f k l0).bind fun bt1254 => (if bt1254.2 > 30 then (if bt1254.2 < 101 then (some (bt1254.1, 30)) else (some (bt1254.1, bt1254.2))) else (some (bt1254.1, bt1254.2)))) = some (r1, r2) := h
 clear h
 replace H := ga H; obtain ⟨⟨t1254, t1257⟩, A2, H⟩ := H
 replace H : (if t1257 > 30 then (if t1257 < 101 then (some (t1254, 30)) else (some (t1254, t1257))) else (some (t1254, t1257))) = some (r1, r2) := H
 replace H := gj H; obtain ⟨c3, H⟩ | ⟨c3, H⟩ := H
 ·have c3b0 : decide (30 < t1257) = true := decide_eq_true c3
  clear c3
  replace H := gi H; obtain ⟨c4b0, H⟩ | ⟨c4b0, H⟩ := H
  ·simp only [Option.some.injEq, Prod.mk.injEq] at H
   obtain ⟨rfl, rfl⟩ := H
   go_enter Try.func103, Try.ntmps103
   go_wp2_with (first | ((with_reducible refine gate_dst (N := 2) rfl ?_); refine bx 2 #[.slice none 0 0] 26 ?_; intro gb1253 hg w5 hbox hb; have BK1253 := am (hbox); have GW1253 := am (gs hg : w.heap.size ≤ gb1253); have GE1253 := GW1253; replace HB := am (below_step bw hb); clear hb hbox hg) | ((with_reducible refine gate_callee (f := 185) rfl ?_); refine gl (some 8) Try.func185 #[.slice A0 l0.length c0] ?_; (with_reducible refine (spec_l11Case.calls k _ _ l0 t1254 t1257 _ ?side1 ?side2 A2.out).mono ?_); (case side1 => exact co (Kd.C_below HR0.out HB.out)); (case side2 => exact HC0.out); rintro e w6 ⟨v1255, rfl, ho0, hb⟩; refine ⟨_, rfl, ?_⟩; have HO1256 := am (Kd.Q_lower ho0 (below_size bw)); replace BK1253 := kb BK1253 hb; replace HB := am (below_step bw hb); clear hb ho0) | ((with_reducible refine gate_dst (N := 4) rfl ?_); refine bx 4 #[.slice none 0 0] 26 ?_; intro gb1258 hg w7 hbox hb; replace HO1256 := am (Kd.Q_below (qo HO1256.out) hb); have BK1258 := am (hbox); have GW1258 := am (gs hg : w.heap.size ≤ gb1258); have GE1258 := GW1258; replace HB := am (below_step bw hb); have NB1253_1258 := nl hg BK1253; have NB1258_1253 := ns NB1253_1258; replace BK1253 := kb BK1253 hb; clear hb hbox hg; obtain ⟨Ao8, co8, eo8, _⟩ := Kd.Q_slice HO1256.out; subst eo8; have hnb9 := NB1258_1253.out; have hnc9 := NB1253_1258.out; have hcz10_0 := bc BK1258 0 (.slice none 0 0); have hfz10_0 := blk_frozen BK1258.out 0; have hcz11_0 := bc BK1253 0 (.slice none 0 0); have hfz11_0 := blk_frozen BK1253.out 0))
   refine bodyPost_ret (results_ct rfl _ _ gb1253 26 #[.slice Ao8 t1254.length co8] (0, 0) _ rfl (by (with_reducible repeat (first | refine blk_drewN ?_ _ | refine blk_drew ?_ | refine blk_alloc ?_ _)); refine blk_put (cs := #[.slice none 0 0]) ?_ 0 _ rfl; (with_reducible repeat (first | refine blk_drewN ?_ _ | refine blk_drew ?_ | refine blk_alloc ?_ _)); refine blk_far ?_ NB1253_1258.out _; (with_reducible repeat (first | refine blk_drewN ?_ _ | refine blk_drew ?_ | refine blk_alloc ?_ _)); exact BK1253.out) Try.underlying26 rfl (by kernel_rfl)) rfl ?_
   exact ⟨_, re, by (with_reducible repeat (first | apply Kd.Q_alloc | apply Kd.Q_drewN | apply Kd.Q_drew)); exact Kd.Q_mono (Kd.Q_far (p := ⟨gb1253, 0, none⟩) (Kd.Q_far (p := ⟨gb1258, 0, none⟩) (Kd.Q_types (Kd.Q_types HO1256.out BK1258.out (by decide)) BK1253.out (by decide)) (fun _ hk => by first | exact hk.1.2 | simp_all) (.slice Ao8 t1254.length co8)) (fun _ hk => hk.2) (.slice Ao8 t1254.length co8)) (fun _ hk => trivial), bw⟩
  ·simp only [Option.some.injEq, Prod.mk.injEq] at H
   obtain ⟨rfl, rfl⟩ := H
   go_enter Try.func103, Try.ntmps103
   go_wp2_with (first | ((with_reducible refine gate_dst (N := 2) rfl ?_); refine bx 2 #[.slice none 0 0] 26 ?_; intro gb1253 hg w12 hbox hb; have BK1253 := am (hbox); have GW1253 := am (gs hg : w.heap.size ≤ gb1253); have GE1253 := GW1253; replace HB := am (below_step bw hb); clear hb hbox hg) | ((with_reducible refine gate_callee (f := 185) rfl ?_); refine gl (some 8) Try.func185 #[.slice A0 l0.length c0] ?_; (with_reducible refine (spec_l11Case.calls k _ _ l0 t1254 t1257 _ ?side1 ?side2 A2.out).mono ?_); (case side1 => exact co (Kd.C_below HR0.out HB.out)); (case side2 => exact HC0.out); rintro e w13 ⟨v1255, rfl, ho0, hb⟩; refine ⟨_, rfl, ?_⟩; have HO1256 := am (Kd.Q_lower ho0 (below_size bw)); replace BK1253 := kb BK1253 hb; replace HB := am (below_step bw hb); clear hb ho0) | ((with_reducible refine gate_dst (N := 4) rfl ?_); refine bx 4 #[.slice none 0 0] 26 ?_; intro gb1258 hg w14 hbox hb; replace HO1256 := am (Kd.Q_below (qo HO1256.out) hb); have BK1258 := am (hbox); have GW1258 := am (gs hg : w.heap.size ≤ gb1258); have GE1258 := GW1258; replace HB := am (below_step bw hb); have NB1253_1258 := nl hg BK1253; have NB1258_1253 := ns NB1253_1258; replace BK1253 := kb BK1253 hb; clear hb hbox hg; obtain ⟨Ao15, co15, eo15, _⟩ := Kd.Q_slice HO1256.out; subst eo15; have hnb16 := NB1258_1253.out; have hnc16 := NB1253_1258.out; have hcz17_0 := bc BK1258 0 (.slice none 0 0); have hfz17_0 := blk_frozen BK1258.out 0; have hcz18_0 := bc BK1253 0 (.slice none 0 0); have hfz18_0 := blk_frozen BK1253.out 0))
   refine bodyPost_ret (results_ct rfl _ _ gb1253 26 #[.slice Ao15 t1254.length co15] (0, 0) _ rfl (by (with_reducible repeat (first | refine blk_drewN ?_ _ | refine blk_drew ?_ | refine blk_alloc ?_ _)); refine blk_put (cs := #[.slice none 0 0]) ?_ 0 _ rfl; (with_reducible repeat (first | refine blk_drewN ?_ _ | refine blk_drew ?_ | refine blk_alloc ?_ _)); refine blk_far ?_ NB1253_1258.out _; (with_reducible repeat (first | refine blk_drewN ?_ _ | refine blk_drew ?_ | refine blk_alloc ?_ _)); exact BK1253.out) Try.underlying26 rfl (by kernel_rfl)) rfl ?_
   exact ⟨_, re, by (with_reducible repeat (first | apply Kd.Q_alloc | apply Kd.Q_drewN | apply Kd.Q_drew)); exact Kd.Q_mono (Kd.Q_far (p := ⟨gb1253, 0, none⟩) (Kd.Q_far (p := ⟨gb1258, 0, none⟩) (Kd.Q_types (Kd.Q_types HO1256.out BK1258.out (by decide)) BK1253.out (by decide)) (fun _ hk => by first | exact hk.1.2 | simp_all) (.slice Ao15 t1254.length co15)) (fun _ hk => hk.2) (.slice Ao15 t1254.length co15)) (fun _ hk => trivial), bw⟩
 ·have c3b0 : decide (30 < t1257) = false := decide_eq_false c3
  clear c3
  simp only [Option.some.injEq, Prod.mk.injEq] at H
  obtain ⟨rfl, rfl⟩ := H
  go_enter Try.func103, Try.ntmps103
  go_wp2_with (first | ((with_reducible refine gate_dst (N := 2) rfl ?_); refine bx 2 #[.slice none 0 0] 26 ?_; intro gb1253 hg w19 hbox hb; have BK1253 := am (hbox); have GW1253 := am (gs hg : w.heap.size ≤ gb1253); have GE1253 := GW1253; replace HB := am (below_step bw hb); clear hb hbox hg) | ((with_reducible refine gate_callee (f := 185) rfl ?_); refine gl (some 8) Try.func185 #[.slice A0 l0.length c0] ?_; (with_reducible refine (spec_l11Case.calls k _ _ l0 t1254 t1257 _ ?side1 ?side2 A2.out).mono ?_); (case side1 => exact co (Kd.C_below HR0.out HB.out)); (case side2 => exact HC0.out); rintro e w20 ⟨v1255, rfl, ho0, hb⟩; refine ⟨_, rfl, ?_⟩; have HO1256 := am (Kd.Q_lower ho0 (below_size bw)); replace BK1253 := kb BK1253 hb; replace HB := am (below_step bw hb); clear hb ho0) | ((with_reducible refine gate_dst (N := 4) rfl ?_); refine bx 4 #[.slice none 0 0] 26 ?_; intro gb1258 hg w21 hbox hb; replace HO1256 := am (Kd.Q_below (qo HO1256.out) hb); have BK1258 := am (hbox); have GW1258 := am (gs hg : w.heap.size ≤ gb1258); have GE1258 := GW1258; replace HB := am (below_step bw hb); have NB1253_1258 := nl hg BK1253; have NB1258_1253 := ns NB1253_1258; replace BK1253 := kb BK1253 hb; clear hb hbox hg; obtain ⟨Ao22, co22, eo22, _⟩ := Kd.Q_slice HO1256.out; subst eo22; have hnb23 := NB1258_1253.out; have hnc23 := NB1253_1258.out; have hcz24_0 := bc BK1258 0 (.slice none 0 0); have hfz24_0 := blk_frozen BK1258.out 0; have hcz25_0 := bc BK1253 0 (.slice none 0 0); have hfz25_0 := blk_frozen BK1253.out 0))
  refine bodyPost_ret (results_ct rfl _ _ gb1253 26 #[.slice Ao22 t1254.length co22] (0, 0) _ rfl (by (with_reducible repeat (first | refine blk_drewN ?_ _ | refine blk_drew ?_ | refine blk_alloc ?_ _)); refine blk_put (cs := #[.slice none 0 0]) ?_ 0 _ rfl; (with_reducible repeat (first | refine blk_drewN ?_ _ | refine blk_drew ?_ | refine blk_alloc ?_ _)); refine blk_far ?_ NB1253_1258.out _; (with_reducible repeat (first | refine blk_drewN ?_ _ | refine blk_drew ?_ | refine blk_alloc ?_ _)); exact BK1253.out) Try.underlying26 rfl (by kernel_rfl)) rfl ?_
  exact ⟨_, re, by (with_reducible repeat (first | apply Kd.Q_alloc | apply Kd.Q_drewN | apply Kd.Q_drew)); exact Kd.Q_mono (Kd.Q_far (p := ⟨gb1253, 0, none⟩) (Kd.Q_far (p := ⟨gb1258, 0, none⟩) (Kd.Q_types (Kd.Q_types HO1256.out BK1258.out (by decide)) BK1253.out (by decide)) (fun _ hk => by first | exact hk.1.2 | simp_all) (.slice Ao22 t1254.length co22)) (fun _ hk => hk.2) (.slice Ao22 t1254.length co22)) (fun _ hk => trivial), bw⟩


/-! ### impl_DeltaSet: function 105 -/
mutual
def impl_DeltaSet.j0 : Nat → Int → Bool → List Int → Option (List Int)
 | 0, _, _, _ => none
 | k + 1, x1, x14, x1260000 => if x14 = true then (some ([] : List Int)) else (impl_DeltaSet.l0 k (([] : List Int)) (wrap64 (x1 + 1)) 0 x1260000)
def impl_DeltaSet.l0 : Nat → List Int → Int → Int → List Int → Option (List Int)
 | 0, _, _, _, _ => none
 | k + 1, x5, x17, x18, x1260000 => if x18 < x17 then ((impl_DeltaOf.f k x1260000 x18).bind fun t1265 => (if x5.length + t1265.length < 17592186044416 then (impl_DeltaSet.l0 k (x5 ++ t1265) x17 (wrap64 (x18 + 1)) x1260000) else (none))) else ((impl_SortList.f x5).bind fun t1271 => (some t1271))
end
def impl_DeltaSet.f (k : Nat) (l0_0 : List Int) (a1 : Int) : Option (List Int) := (impl_IsSemigroup.f k l0_0).bind fun t1260 => (if t1260 = true then ((impl_within.f a1 0 100).bind fun t1261 => (impl_DeltaSet.j0 k a1 (!t1261) l0_0)) else (impl_DeltaSet.j0 k a1 true l0_0))
set_option maxHeartbeats 8000000 in
set_option maxRecDepth 100000 in
theorem impl_DeltaSet.calls (k : Nat) (A0_0 : Option Addr) (c0_0 : Nat) (l0_0 : List Int) (a1 : Int) (r : List Int) (w : World) (hr0_0 : Kd.C (Kd.int .i64) w A0_0 l0_0.length l0_0) (hc0_0 : l0_0.length ≤ c0_0) (h : impl_DeltaSet.f k l0_0 a1 = some r) :
  Calls Try.prog 105 #[.agg #[.slice A0_0 l0_0.length c0_0], .int .i64 a1] w fun e w' => ∃ v0_ : Value, e = .returned (v0_) ∧ Kd.R (Kd.int .i64) 3 w' w.heap.size (fun _ => True) v0_ r ∧ Below w.heap.size w w' := by
 have hu26 := Try.underlying26
 have HR0_0 := am hr0_0
 have HC0_0 := am hc0_0
 clear hr0_0 hc0_0
 have HB := am (Below.refl w.heap.size w)
 have H : ((impl_IsSemigroup.f k l0_0).bind fun t1260 => (if t1260 = true then ((impl_within.f a1 0 100).bind fun t1261 => (impl_DeltaSet.j0 k a1 (!t1261) l0_0)) else (impl_DeltaSet.j0 k a1 true l0_0))) = some r := h
 clear h
 have HC3 := am H
 clear H
 go_enter Try.func105, Try.ntmps105
 go_upto_region 1 with (first | ((with_reducible refine gate_dst (N := 2) rfl ?_); refine bx 2 #[.slice A0_0 l0_0.length c0_0] 26 ?_; intro gb1259 hg w4 hbox hb; have BK1259 := am (hbox); have GW1259 := am (gs hg : w.heap.size ≤ gb1259); have GE1259 := GW1259; replace HB := am (below_step bw hb); clear hb hbox hg))
 (try simp only [Act.put, List.setIfInBounds_toArray, List.set_cons_zero, List.set_cons_succ])
 go_cut [14] (fun v14 wc => ∃ (kq : Nat) (x14_2 : Bool), v14 = .bool x14_2 ∧ Aside0 (impl_DeltaSet.j0 kq a1 x14_2 l0_0 = some r) ∧ Aside0 (kq ≤ k) ∧ Aside0 (wc.heap[gb1259]? = some (.cells #[(.slice A0_0 l0_0.length c0_0)] 26 (0, 0))) ∧ Aside0 (Below w.heap.size w wc))
 case first =>
  have H := HC3.out
  clear HC3
  replace H := ga H; obtain ⟨t1260, A5, H⟩ := H
  replace H := gb H; obtain ⟨rfl, H⟩ | ⟨rfl, H⟩ := H
  ·replace H := ga H; obtain ⟨t1261, A7, H⟩ := H
   have H' := am H
   clear H
   have hcz8_0 := bc BK1259 0 (.slice A0_0 l0_0.length c0_0)
   have hfz8_0 := blk_frozen BK1259.out 0
   go_wp2_with (first | ((with_reducible refine gate_callee (f := 151) rfl ?_); refine gl (some 8) Try.func151 #[.agg #[.slice A0_0 l0_0.length c0_0]] ?_; (with_reducible refine (impl_IsSemigroup.calls k _ _ l0_0 true _ ?side1 ?side2 A5.out).mono ?_); (case side1 => exact co (Kd.C_below HR0_0.out HB.out)); (case side2 => exact HC0_0.out); rintro e w9 ⟨rfl, hb⟩; refine ⟨_, rfl, ?_⟩; replace BK1259 := kb BK1259 hb; replace HB := am (below_step bw hb); clear hb) | (go_at_call 139; (with_reducible refine (impl_within.calls a1 0 100 t1261 _ A7.out).mono ?_); rintro e w' ⟨rfl, ⟨nd, rfl⟩⟩))
   go_meet
   case rel => exact ⟨_, (!t1261), rr, H', ⟨om⟩, ⟨bo BK1259.out⟩, ⟨bw⟩⟩
  ·have H' := am H
   clear H
   have hcz10_0 := bc BK1259 0 (.slice A0_0 l0_0.length c0_0)
   have hfz10_0 := blk_frozen BK1259.out 0
   go_wp2_with (first | ((with_reducible refine gate_callee (f := 151) rfl ?_); refine gl (some 8) Try.func151 #[.agg #[.slice A0_0 l0_0.length c0_0]] ?_; (with_reducible refine (impl_IsSemigroup.calls k _ _ l0_0 false _ ?side1 ?side2 A5.out).mono ?_); (case side1 => exact co (Kd.C_below HR0_0.out HB.out)); (case side2 => exact HC0_0.out); rintro e w11 ⟨rfl, hb⟩; refine ⟨_, rfl, ?_⟩; replace BK1259 := kb BK1259 hb; replace HB := am (below_step bw hb); clear hb))
   go_meet
   case rel => exact ⟨_, (true), rr, H', ⟨om⟩, ⟨bo BK1259.out⟩, ⟨bw⟩⟩
 case rest =>
  clear HC3
  try clear hcz10_0; try clear hcz8_0; try clear hfz10_0; try clear hfz8_0
  obtain ⟨kq, x14_2, rfl, HA, HJ2, BK1259, HB⟩ := hcut
  cases kq with
  | zero => exact absurd HA.out (by simp [impl_DeltaSet.j0])
  | succ kj2 =>
   have H := HA.out
   clear HA
   simp only [impl_DeltaSet.j0] at H
   replace H := gb H; obtain ⟨rfl, H⟩ | ⟨rfl, H⟩ := H
   ·obtain rfl := Option.some.inj H
    go_wp2
    go_ret
    exact ⟨_, re, by first | exact Kd.R_nil _ _ _ _ _ | exact Kd.N_nil _ _ _ _ _ | exact Kd.V_nil _ _ _ _ _ | exact Kd.Q_nil _ _ _ _ _ | exact Kd.S_nil _ _ _ _ _, bw⟩
   ·obtain ⟨y1262, hy1262⟩ : ∃ y_ : List Int, y_ = (([] : List Int)) := ⟨_, rfl⟩
    replace H : (impl_DeltaSet.l0 kj2 y1262 (wrap64 (a1 + 1)) 0 l0_0) = some r := by first | (rw [hy1262]; with_reducible exact H) | (have H2_ := (Option.bind_some _ _).symm.trans H; rw [hy1262]; with_reducible exact H2_) | (have H2_ := (Option.bind_some _ _).symm.trans H; with_reducible exact H2_) | with_reducible exact H | (rw [hy1262]; exact H) | exact H
    have Ny1262 := am hy1262
    clear hy1262
    have H' := am H
    clear H
    go_wp2_with (first | ((with_reducible refine gate_dst (N := 15) rfl ?_); refine Kd.R_lit (Kd.int .i64) _ 3 ?hg (N := 15) ?hd (xs := ([] : List Int)) (inner := []) (ok := fun _ => True) (okp := fun _ => True) ?hr ?hp (fun _ hk => hk) trivial (Below.refl _ _) (Nat.le_refl _) (by simp) ?_; (case hd => rfl); (case hg => rfl); (case hr => first | (go_simp; done) | (go_simp; rfl)); (case hp => exact (Reps.none _ _)); intro v1263 w13 ho14 hb hg_ hnew_; clear hg_ hnew_; (first | rw [← Ny1262.out] at ho14 | (simp only [Int.reduceToNat] at ho14; rw [← Ny1262.out] at ho14)); have HO1264 := am (Kd.R_lower ho14 (below_size bw)); replace BK1259 := kb BK1259 hb; replace HB := am (below_step bw hb); clear hb ho14))
    go_loopg [5, 18] kj2 (fun kq v5 v18 w' => ∃ (x5_2 : List Int) (x18_2 : Int), v18 = .int .i64 x18_2 ∧ Aside0 (impl_DeltaSet.l0 kq x5_2 (wrap64 (a1 + 1)) x18_2 l0_0 = some r) ∧ Aside0 (kq ≤ kj2) ∧ Aside0 (Kd.R (Kd.int .i64) 3 w' w.heap.size (fun _ => True) v5 x5_2) ∧ Aside0 (w'.heap[gb1259]? = some (.cells #[(.slice A0_0 l0_0.length c0_0)] 26 (0, 0))) ∧ Aside0 (Below w.heap.size w w'))
    case atStart => exact ⟨(y1262), (0), rr, H', ⟨Nat.le_refl _⟩, ⟨ro HO1264.out⟩, ⟨bo BK1259.out⟩, ⟨bw⟩⟩
    case round =>
     clear H'
     try clear hcz10_0; try clear hcz8_0; try clear hfz10_0; try clear hfz8_0
     obtain ⟨x5_2, x18_2, rfl, HA, HK2, HO_5, BK1259, HB⟩ := hrel
     cases gk with
     | zero => exact absurd HA.out (by simp [impl_DeltaSet.l0])
     | succ k2 =>
      have H := HA.out
      clear HA
      simp only [impl_DeltaSet.l0] at H
      replace H := gi H; obtain ⟨c15b0, H⟩ | ⟨c15b0, H⟩ := H
      ·replace H := ga H; obtain ⟨t1265, A16, H⟩ := H
       by_cases c17 : x5_2.length + t1265.length < 17592186044416
       rotate_left
       ·rw [if_neg c17] at H
        exact absurd H (by simp)
       rw [if_pos c17] at H
       have LMc17 := am c17
       clear c17
       obtain ⟨y1268, hy1268⟩ : ∃ y_ : List Int, y_ = (x5_2 ++ t1265) := ⟨_, rfl⟩
       replace H : (impl_DeltaSet.l0 k2 y1268 (wrap64 (a1 + 1)) (wrap64 (x18_2 + 1)) l0_0) = some r := by first | (rw [hy1268]; with_reducible exact H) | (have H2_ := (Option.bind_some _ _).symm.trans H; rw [hy1268]; with_reducible exact H2_) | (have H2_ := (Option.bind_some _ _).symm.trans H; with_reducible exact H2_) | with_reducible exact H | (rw [hy1268]; exact H) | exact H
       have Ny1268 := am hy1268
       clear hy1268
       have H' := am H
       clear H
       have hcz18_0 := bc BK1259 0 (.slice A0_0 l0_0.length c0_0)
       have hfz18_0 := blk_frozen BK1259.out 0
       go_wp2_with (first | ((with_reducible refine gate_callee (f := 98) rfl ?_); refine gl (some 24) Try.func98 #[.agg #[.slice A0_0 l0_0.length c0_0], .int .i64 x18_2] ?_; (with_reducible refine (impl_DeltaOf.calls k2 _ _ l0_0 x18_2 t1265 _ ?side1 ?side2 A16.out).mono ?_); (case side1 => exact co (Kd.C_below HR0_0.out HB.out)); (case side2 => exact HC0_0.out); rintro e w19 ⟨v1266, rfl, ho0, hb⟩; refine ⟨_, rfl, ?_⟩; have HO1267 := am (Kd.R_lower (Kd.R_new' ho0 (Kd.R_lt (ro HO_5.out))) (below_size bw)); replace HO_5 := am (Kd.R_elder' (ro HO_5.out) (Kd.R_base ho0) hb); replace BK1259 := kb BK1259 hb; replace HB := am (below_step bw hb); clear hb ho0; obtain ⟨Ao21, co21, eo21⟩ := Kd.R_slice HO1267.out; subst eo21) | ((with_reducible refine gate_builtin (b := .append) (xs := #[.tmp 21, .tmp 24]) rfl ?_); at_builtin; refine Kd.R_append_rows (Kd.int .i64) (w0 := w) w.heap.size rfl (.tmp 21) (.tmp 24) 24 3 (.int .i64 0) 8 rfl Try.underlying24 info3 rfl (by decide) (by omega) u5 x5_2 t1265 _ _ _ (fun k_ => some k_ ≠ (.slice Ao21 t1265.length co21 : Value).ownBlock) (fun _ => False) rfl rfl ?aO ?aR (fun _ _ h => h) (fun _ h => h.elim) ?aF ?aB ?aS ?aL ?_; (case aR => exact co (Kd.R_reads' HO1267.out).2.2); (case aB => exact bw); (case aF => exact (fun k_ hk => Kd.fresh' (Kd.R_lt (ro HO1267.out)) k_ hk)); (case aO => exact (by (with_reducible repeat (first | apply Kd.R_alloc | apply Kd.R_drewN | apply Kd.R_drew)); exact Kd.R_mono HO_5.out (fun _ hk => hk.2))); (case aS => exact (below_size bw)); (case aL => have := LMc17.out; omega); intro v1269 w20 ho hb hg hat; rw [← Ny1268.out] at ho; replace BK1259 := am (blk_grown (g := gb1259) (o := .cells #[.slice A0_0 l0_0.length c0_0] 26 (0, 0)) (bo BK1259.out) hg (Kd.R_ne HO_5.out BK1259.out (by decide))); replace HO1267 := am (Kd.R_after (ok := (fun _ => True)) (ro HO1267.out) hg hat); replace HB := am (hb); have HO1270 := am (ho); clear HO_5 ho hb hg hat))
       go_roundg k2
       case measure => have := HJ2.out; have := HK2.out; omega
       case rel => exact ⟨(y1268), (wrap64 (x18_2 + 1)), rr, H', ⟨by have := HJ2.out; have := HK2.out; omega⟩, ⟨by (with_reducible repeat (first | apply Kd.R_alloc | apply Kd.R_drewN | apply Kd.R_drew)); exact Kd.R_mono HO1270.out (fun _ hk => trivial)⟩, ⟨bo BK1259.out⟩, ⟨bw⟩⟩
      ·replace H := ga H; obtain ⟨t1271, A22, H⟩ := H
       obtain rfl := Option.some.inj H
       obtain ⟨Ao23, co23, eo23⟩ := Kd.R_slice HO_5.out
       subst eo23
       go_wp2_with (first | ((with_reducible refine gate_callee (f := 89) rfl ?_); refine gl (some 28) Try.func89 #[.slice Ao23 x5_2.length co23] ?_; (with_reducible refine (impl_SortList.calls _ _ x5_2 t1271 _ ?side1 ?side2 A22.out).mono ?_); (case side1 => exact co (Kd.R_reads' HO_5.out).2.2); (case side2 => exact (Kd.R_reads' HO_5.out).2.1); rintro e w24 ⟨v1272, rfl, ho0, hb⟩; refine ⟨_, rfl, ?_⟩; have HO1273 := am (Kd.R_lower (Kd.R_new' ho0 (Kd.R_lt (ro HO_5.out))) (below_size bw)); replace HO_5 := am (Kd.R_elder' (ro HO_5.out) (Kd.R_base ho0) hb); replace BK1259 := kb BK1259 hb; replace HB := am (below_step bw hb); clear hb ho0))
       go_ret
       exact ⟨_, re, by (with_reducible repeat (first | apply Kd.R_alloc | apply Kd.R_drewN | apply Kd.R_drew)); exact Kd.R_mono HO1273.out (fun _ hk => trivial), bw⟩

end Go.Proofs.Ytkfplkdchkmgbaa.C
