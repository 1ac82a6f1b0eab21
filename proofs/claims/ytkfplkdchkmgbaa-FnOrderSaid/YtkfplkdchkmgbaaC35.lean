/- Contracts of functions of the program: spec_FrobeniusOf, spec_ConductorOf, spec_SmallElements, spec_ElementAt, spec_l6Case, spec_DrawExceedingOf, impl_MaximalOf. -/
import Derived.Test.YtkfplkdchkmgbaaC0
import Derived.Test.YtkfplkdchkmgbaaC1
import Derived.Test.YtkfplkdchkmgbaaC3
import Derived.Test.YtkfplkdchkmgbaaC5
import Derived.Test.YtkfplkdchkmgbaaC6
import Derived.Test.YtkfplkdchkmgbaaC16
import Derived.Test.YtkfplkdchkmgbaaC18
import Derived.Test.YtkfplkdchkmgbaaC21
namespace Go.Proofs.Ytkfplkdchkmgbaa.C
open Go.RowKit Go.Proofs.YtkfplkdchkmgbaaW.PrintWords Go.Proofs.YtkfplkdchkmgbaaW.PrintLast Go.Proofs.YtkfplkdchkmgbaaW.PrintMore
attribute [local go_sem] max2_int min2_int max_two min_two max_three min_three max_four min_four
set_option linter.unusedVariables false
set_option linter.unusedSimpArgs false

/-! ### spec_FrobeniusOf: function 172 -/
def spec_FrobeniusOf.f (k : Nat) (l0_0 : List Int) : Option (Int) := (spec_Gaps.f k l0_0).bind fun t1350 => (if (t1350.length : Int) = 0 then (some (-1)) else (if 0 ≤ (wrap64 ((t1350.length : Int) - 1)) then (if (wrap64 ((t1350.length : Int) - 1)) < (t1350.length : Int) then (some (rd t1350 (wrap64 ((t1350.length : Int) - 1)))) else (none)) else (none)))
set_option maxHeartbeats 8000000 in
set_option maxRecDepth 100000 in
theorem spec_FrobeniusOf.calls (k : Nat) (A0_0 : Option Addr) (c0_0 : Nat) (l0_0 : List Int) (r : Int) (w : World) (hr0_0 : Kd.C (Kd.int .i64) w A0_0 l0_0.length l0_0) (hc0_0 : l0_0.length ≤ c0_0) (h : spec_FrobeniusOf.f k l0_0 = some r) :
  Calls Try.prog 172 #[.agg #[.slice A0_0 l0_0.length c0_0]] w fun e w' => e = .returned (.int .i64 r) ∧ Below w.heap.size w w' := by
 have hu26 := Try.underlying26
 have HR0_0 := am hr0_0
 have HC0_0 := am hc0_0
 clear hr0_0 hc0_0
 have HB := am (Below.refl w.heap.size w)
 have H : ((spec_Gaps.f k l0_0).bind fun t1350 => (if (t1350.length : Int) = 0 then (some (-1)) else (if 0 ≤ (wrap64 ((t1350.length : Int) - 1)) then (if (wrap64 ((t1350.length : Int) - 1)) < (t1350.length : Int) then (some (rd t1350 (wrap64 ((t1350.length : Int) - 1)))) else (none)) else (none)))) = some r := h
 clear h
 replace H := ga H; obtain ⟨t1350, A2, H⟩ := H
 by_cases c3 : (t1350.length : Int) = 0
 ·rw [if_pos c3] at H
  have c3b0 : ((t1350.length : Int) == 0) = true := beq_iff_eq.mpr c3
  have c3b1 : ((t1350.length : Int) != 0) = false := bne_eq_false_iff_eq.mpr c3
  clear c3
  obtain rfl := Option.some.inj H
  go_enter Try.func172, Try.ntmps172
  go_wp2_with (first | ((with_reducible refine gate_dst (N := 1) rfl ?_); refine bx 1 #[.slice A0_0 l0_0.length c0_0] 26 ?_; intro gb1349 hg w4 hbox hb; have BK1349 := am (hbox); have GW1349 := am (gs hg : w.heap.size ≤ gb1349); have GE1349 := GW1349; replace HB := am (below_step bw hb); clear hb hbox hg; have hcz5_0 := bc BK1349 0 (.slice A0_0 l0_0.length c0_0); have hfz5_0 := blk_frozen BK1349.out 0) | ((with_reducible refine gate_callee (f := 94) rfl ?_); refine gl (some 5) Try.func94 #[.agg #[.slice A0_0 l0_0.length c0_0]] ?_; (with_reducible refine (spec_Gaps.calls k _ _ l0_0 t1350 _ ?side1 ?side2 A2.out).mono ?_); (case side1 => exact co (Kd.C_below HR0_0.out HB.out)); (case side2 => exact HC0_0.out); rintro e w6 ⟨v1351, rfl, ho0, hb⟩; refine ⟨_, rfl, ?_⟩; have HO1352 := am (Kd.R_lower ho0 (below_size bw)); replace BK1349 := kb BK1349 hb; replace HB := am (below_step bw hb); clear hb ho0; obtain ⟨Ao7, co7, eo7⟩ := Kd.R_slice HO1352.out; subst eo7))
  go_ret
  exact ⟨re, bw⟩
 ·rw [if_neg c3] at H
  have c3b0 : ((t1350.length : Int) == 0) = false := beq_eq_false_iff_ne.mpr c3
  have c3b1 : ((t1350.length : Int) != 0) = true := bne_iff_ne.mpr c3
  have c3b2 : ¬ (t1350 = []) := fun h_ => c3 (by rw [h_]; rfl)
  obtain ⟨ji8, hji8⟩ : ∃ j_ : Int, (wrap64 ((t1350.length : Int) - 1)) = j_ := ⟨_, rfl⟩
  replace H : (if 0 ≤ (ji8) then (if (ji8) < (t1350.length : Int) then (some (rd t1350 (ji8))) else (none)) else (none)) = some r := by first | (rw [hji8] at H; exact H) | (simp only [hji8] at H ⊢; exact H)
  (try rw [hji8] at A2)
  have hji8w : (IntKind.i64.wrap ((t1350.length : Int) - 1)) = ji8 := (i64_w _).trans hji8
  replace H := gd H; obtain ⟨c9b0, H⟩ := H
  replace H := gd H; obtain ⟨c10b0, H⟩ := H
  obtain rfl := Option.some.inj H
  go_enter Try.func172, Try.ntmps172
  go_wp2_with (first | ((with_reducible refine gate_dst (N := 1) rfl ?_); refine bx 1 #[.slice A0_0 l0_0.length c0_0] 26 ?_; intro gb1349 hg w11 hbox hb; have BK1349 := am (hbox); have GW1349 := am (gs hg : w.heap.size ≤ gb1349); have GE1349 := GW1349; replace HB := am (below_step bw hb); clear hb hbox hg; have hcz12_0 := bc BK1349 0 (.slice A0_0 l0_0.length c0_0); have hfz12_0 := blk_frozen BK1349.out 0) | ((with_reducible refine gate_callee (f := 94) rfl ?_); refine gl (some 5) Try.func94 #[.agg #[.slice A0_0 l0_0.length c0_0]] ?_; (with_reducible refine (spec_Gaps.calls k _ _ l0_0 t1350 _ ?side1 ?side2 A2.out).mono ?_); (case side1 => exact co (Kd.C_below HR0_0.out HB.out)); (case side2 => exact HC0_0.out); rintro e w13 ⟨v1351, rfl, ho0, hb⟩; refine ⟨_, rfl, ?_⟩; have HO1352 := am (Kd.R_lower ho0 (below_size bw)); replace BK1349 := kb BK1349 hb; replace HB := am (below_step bw hb); clear hb ho0; obtain ⟨Ao14, co14, eo14⟩ := Kd.R_slice HO1352.out; subst eo14; have p1353 : 0 ≤ ((ji8) : Int) := of_decide_eq_true (by first | (with_reducible assumption) | assumption); have q1353 : (ji8) < (t1350.length : Int) := of_decide_eq_true (by first | (with_reducible assumption) | assumption); obtain ⟨ad1353, e1353, hx1353_0⟩ := Kd.at_int (Kd.R_reads' HO1352.out).2.2 (ji8) p1353 q1353; cases e1353; replace p1353 := eq_true p1353; replace q1353 := eq_true q1353))
  go_ret
  exact ⟨by first | rfl | (simp [errW_none, errW_some] <;> rfl) | (simp only [← hji8]; first | rfl | (simp [errW_none, errW_some] <;> rfl)) | (simp [*, errW_none, errW_some] <;> rfl), bw⟩


/-! ### spec_ConductorOf: function 168 -/
def spec_ConductorOf.f (k : Nat) (l0_0 : List Int) : Option (Int) := (spec_FrobeniusOf.f k l0_0).bind fun t1355 => (some (wrap64 (t1355 + 1)))
set_option maxHeartbeats 8000000 in
set_option maxRecDepth 100000 in
theorem spec_ConductorOf.calls (k : Nat) (A0_0 : Option Addr) (c0_0 : Nat) (l0_0 : List Int) (r : Int) (w : World) (hr0_0 : Kd.C (Kd.int .i64) w A0_0 l0_0.length l0_0) (hc0_0 : l0_0.length ≤ c0_0) (h : spec_ConductorOf.f k l0_0 = some r) :
  Calls Try.prog 168 #[.agg #[.slice A0_0 l0_0.length c0_0]] w fun e w' => e = .returned (.int .i64 r) ∧ Below w.heap.size w w' := by
 have hu26 := Try.underlying26
 have HR0_0 := am hr0_0
 have HC0_0 := am hc0_0
 clear hr0_0 hc0_0
 have HB := am (Below.refl w.heap.size w)
 have H : ((spec_FrobeniusOf.f k l0_0).bind fun t1355 => (some (wrap64 (t1355 + 1)))) = some r := h
 clear h
 replace H := ga H; obtain ⟨t1355, A2, H⟩ := H
 obtain rfl := Option.some.inj H
 go_enter Try.func168, Try.ntmps168
 go_wp2_with (first | ((with_reducible refine gate_dst (N := 1) rfl ?_); refine bx 1 #[.slice A0_0 l0_0.length c0_0] 26 ?_; intro gb1354 hg w3 hbox hb; have BK1354 := am (hbox); have GW1354 := am (gs hg : w.heap.size ≤ gb1354); have GE1354 := GW1354; replace HB := am (below_step bw hb); clear hb hbox hg; have hcz4_0 := bc BK1354 0 (.slice A0_0 l0_0.length c0_0); have hfz4_0 := blk_frozen BK1354.out 0) | ((with_reducible refine gate_callee (f := 172) rfl ?_); refine gl (some 4) Try.func172 #[.agg #[.slice A0_0 l0_0.length c0_0]] ?_; (with_reducible refine (spec_FrobeniusOf.calls k _ _ l0_0 t1355 _ ?side1 ?side2 A2.out).mono ?_); (case side1 => exact co (Kd.C_below HR0_0.out HB.out)); (case side2 => exact HC0_0.out); rintro e w5 ⟨rfl, hb⟩; refine ⟨_, rfl, ?_⟩; replace BK1354 := kb BK1354 hb; replace HB := am (below_step bw hb); clear hb))
 go_ret
 exact ⟨re, bw⟩


/-! ### spec_SmallElements: function 245 -/
def spec_SmallElements.f (k : Nat) (l0_0 : List Int) : Option (List Int) := (spec_IsSemigroup.f k l0_0).bind fun t1357 => (if t1357 = true then ((spec_ConductorOf.f k l0_0).bind fun t1358 => ((spec_l4Small.f k l0_0 t1358).bind fun t1359 => (some t1359))) else (some (([] : List Int))))
set_option maxHeartbeats 8000000 in
set_option maxRecDepth 100000 in
theorem spec_SmallElements.calls (k : Nat) (A0_0 : Option Addr) (c0_0 : Nat) (l0_0 : List Int) (r : List Int) (w : World) (hr0_0 : Kd.C (Kd.int .i64) w A0_0 l0_0.length l0_0) (hc0_0 : l0_0.length ≤ c0_0) (h : spec_SmallElements.f k l0_0 = some r) :
  Calls Try.prog 245 #[.agg #[.slice A0_0 l0_0.length c0_0]] w fun e w' => ∃ v0_ : Value, e = .returned (v0_) ∧ Kd.R (Kd.int .i64) 3 w' w.heap.size (fun _ => True) v0_ r ∧ Below w.heap.size w w' := by
 have hu26 := Try.underlying26
 have HR0_0 := am hr0_0
 have HC0_0 := am hc0_0
 clear hr0_0 hc0_0
 have HB := am (Below.refl w.heap.size w)
 have H : ((spec_IsSemigroup.f k l0_0).bind fun t1357 => (if t1357 = true then ((spec_ConductorOf.f k l0_0).bind fun t1358 => ((spec_l4Small.f k l0_0 t1358).bind fun t1359 => (some t1359))) else (some (([] : List Int))))) = some r := h
 clear h
 replace H := ga H; obtain ⟨t1357, A2, H⟩ := H
 replace H := gb H; obtain ⟨rfl, H⟩ | ⟨rfl, H⟩ := H
 ·replace H := ga H; obtain ⟨t1358, A4, H⟩ := H
  replace H := ga H; obtain ⟨t1359, A5, H⟩ := H
  obtain rfl := Option.some.inj H
  go_enter Try.func245, Try.ntmps245
  try go_wp2_with (first | ((with_reducible refine gate_dst (N := 1) rfl ?_); refine bx 1 #[.slice A0_0 l0_0.length c0_0] 26 ?_; intro gb1356 hg w6 hbox hb; have BK1356 := am (hbox); have GW1356 := am (gs hg : w.heap.size ≤ gb1356); have GE1356 := GW1356; replace HB := am (below_step bw hb); clear hb hbox hg; have hcz7_0 := bc BK1356 0 (.slice A0_0 l0_0.length c0_0); have hfz7_0 := blk_frozen BK1356.out 0) | ((with_reducible refine gate_callee (f := 23) rfl ?_); refine gl (some 4) Try.func23 #[.agg #[.slice A0_0 l0_0.length c0_0]] ?_; (with_reducible refine (spec_IsSemigroup.calls k _ _ l0_0 true _ ?side1 ?side2 A2.out).mono ?_); (case side1 => exact co (Kd.C_below HR0_0.out HB.out)); (case side2 => exact HC0_0.out); rintro e w8 ⟨rfl, hb⟩; refine ⟨_, rfl, ?_⟩; replace BK1356 := kb BK1356 hb; replace HB := am (below_step bw hb); clear hb))
  replace BK1356 := am (blk_drew BK1356.out)
  replace HB := am (below_drew1 HB.out)
  refine start_ (n := 5) (S := fun w' => w'.cell? ⟨gb1356, 0, none⟩ = some (.slice A0_0 l0_0.length c0_0)) (ds := []) (yz 5 0) (by kernel_rfl) rfl rfl ((blk_cell BK1356.out 0).trans rfl) (fun hHeld => ?_)
  generalize w8.drew = w9 at BK1356 HB hHeld ⊢
  refine take_ (i := 0) (N := some 7) (v := ?_) (a' := ?_) (yz 5 1) rfl rfl (by kernel_rfl) (fun _ _ _ h => h) (Or.inl ⟨by rfl, ?_⟩) hHeld ?_ ?_
  rotate_left
  ·intro w' s0
   go_simp
   with_reducible rfl
  rotate_left
  ·simp only [Act.put, qa, qb, qc, i64_w, i32_w]
   rfl
  refine take_ (i := 1) (N := some 8) (v := ?_) (a' := ?_) (yz 5 3) rfl rfl (by kernel_rfl) (fun _ _ _ h => h) (Or.inl ⟨by rfl, ?_⟩) hHeld ?_ ?_
  rotate_left
  ·intro w' s0
   go_simp
   with_reducible rfl
  rotate_left
  ·simp only [Act.put, qa, qb, qc, i64_w, i32_w]
   rfl
  refine one_ (i := 2) (N := some 9) (yz 5 7) rfl rfl (by kernel_rfl) (by decide) (fun K hK => ?_)
  refine gm Try.func168 #[.agg #[.slice A0_0 l0_0.length c0_0]] ?_
  with_reducible refine (spec_ConductorOf.calls k _ _ l0_0 t1358 _ ?side1 ?side2 A4.out).mono ?_
  (case side1 => exact co (Kd.C_below HR0_0.out HB.out))
  (case side2 => exact HC0_0.out)
  rintro e w10 ⟨rfl, hb⟩
  refine ⟨_, rfl, ?_⟩
  replace BK1356 := kb BK1356 hb
  replace HB := am (below_step bw hb)
  clear hb
  refine hK.out _ _ ((blk_cell BK1356.out 0).trans rfl) (fun hHeld => ?_)
  clear hK K
  refine norm_ (a' := ?_) ?_ ?_
  rotate_left
  ·show Act.put _ (some 9) _ = _
   simp only [Act.put, qa, qb, qc, i64_w, i32_w]
   rfl
  refine one_ (i := 3) (N := some 10) (yz 5 15) rfl rfl (by kernel_rfl) (by decide) (fun K hK => ?_)
  refine gm Try.func158 #[.agg #[.slice A0_0 l0_0.length c0_0], .int .i64 t1358] ?_
  with_reducible refine (spec_l4Small.calls k _ _ l0_0 t1358 t1359 _ ?side1 ?side2 A5.out).mono ?_
  (case side1 => exact co (Kd.C_below HR0_0.out HB.out))
  (case side2 => exact HC0_0.out)
  rintro e w11 ⟨v1360, rfl, ho0, hb⟩
  refine ⟨_, rfl, ?_⟩
  have HO1361 := am (Kd.R_lower ho0 (below_size bw))
  replace BK1356 := kb BK1356 hb
  replace HB := am (below_step bw hb)
  clear hb ho0
  refine hK.out _ _ ((blk_cell BK1356.out 0).trans rfl) (fun hHeld => ?_)
  clear hK K
  refine norm_ (a' := ?_) ?_ ?_
  rotate_left
  ·show Act.put _ (some 10) _ = _
   simp only [Act.put, qa, qb, qc, i64_w, i32_w]
   rfl
  refine pure_ (i := 4) (N := some 2) (v := ?_) (a' := ?_) (yz 5 31) rfl rfl (by kernel_rfl) (fun _ _ _ h => h) (Or.inl ⟨by rfl, ?_⟩) ?_ ?_
  rotate_left
  ·intro w'
   go_simp
   with_reducible rfl
  rotate_left
  ·simp only [Act.put, qa, qb, qc, i64_w, i32_w]
   rfl
  refine done_ (by kernel_rfl) ?_
  try go_wp2
  go_ret
  exact ⟨_, re, ro HO1361.out, bw⟩
 ·obtain ⟨y1362, hy1362⟩ : ∃ y_ : List Int, y_ = (([] : List Int)) := ⟨_, rfl⟩
  replace H : (some y1362) = some r := by first | (rw [hy1362]; with_reducible exact H) | (have H2_ := (Option.bind_some _ _).symm.trans H; rw [hy1362]; with_reducible exact H2_) | (have H2_ := (Option.bind_some _ _).symm.trans H; with_reducible exact H2_) | with_reducible exact H | (rw [hy1362]; exact H) | exact H
  have Ny1362 := am hy1362
  clear hy1362
  obtain rfl := Option.some.inj H
  go_enter Try.func245, Try.ntmps245
  go_wp2_with (first | ((with_reducible refine gate_dst (N := 1) rfl ?_); refine bx 1 #[.slice A0_0 l0_0.length c0_0] 26 ?_; intro gb1356 hg w12 hbox hb; have BK1356 := am (hbox); have GW1356 := am (gs hg : w.heap.size ≤ gb1356); have GE1356 := GW1356; replace HB := am (below_step bw hb); clear hb hbox hg; have hcz13_0 := bc BK1356 0 (.slice A0_0 l0_0.length c0_0); have hfz13_0 := blk_frozen BK1356.out 0) | ((with_reducible refine gate_callee (f := 23) rfl ?_); refine gl (some 4) Try.func23 #[.agg #[.slice A0_0 l0_0.length c0_0]] ?_; (with_reducible refine (spec_IsSemigroup.calls k _ _ l0_0 false _ ?side1 ?side2 A2.out).mono ?_); (case side1 => exact co (Kd.C_below HR0_0.out HB.out)); (case side2 => exact HC0_0.out); rintro e w14 ⟨rfl, hb⟩; refine ⟨_, rfl, ?_⟩; replace BK1356 := kb BK1356 hb; replace HB := am (below_step bw hb); clear hb) | ((with_reducible refine gate_dst (N := 6) rfl ?_); refine Kd.R_lit (Kd.int .i64) _ 3 ?hg (N := 6) ?hd (xs := ([] : List Int)) (inner := []) (ok := fun _ => True) (okp := fun _ => True) ?hr ?hp (fun _ hk => hk) trivial (Below.refl _ _) (Nat.le_refl _) (by simp) ?_; (case hd => rfl); (case hg => rfl); (case hr => first | (go_simp; done) | (go_simp; rfl)); (case hp => exact (Reps.none _ _)); intro v1363 w15 ho16 hb hg_ hnew_; clear hg_ hnew_; (first | rw [← Ny1362.out] at ho16 | (simp only [Int.reduceToNat] at ho16; rw [← Ny1362.out] at ho16)); have HO1364 := am (Kd.R_lower ho16 (below_size bw)); replace BK1356 := kb BK1356 hb; replace HB := am (below_step bw hb); clear hb ho16))
  go_ret
  exact ⟨_, re, ro HO1364.out, bw⟩


/-! ### spec_ElementAt: function 231 -/
def spec_ElementAt.j0 : Nat → Int → Bool → List Int → Option (Int)
 | 0, _, _, _ => none
 | k + 1, x1, x13, x1366000 => if x13 = true then (some (-1)) else ((spec_SmallElements.f k x1366000).bind fun t1368 => (if x1 < (t1368.length : Int) then (if 0 ≤ x1 then (some (rd t1368 x1)) else (none)) else ((spec_ConductorOf.f k x1366000).bind fun t1372 => (some (wrap64 ((wrap64 (t1372 + x1)) - (t1368.length : Int)))))))
def spec_ElementAt.f (k : Nat) (l0_0 : List Int) (a1 : Int) : Option (Int) := (spec_IsSemigroup.f k l0_0).bind fun t1366 => (if t1366 = true then ((spec_l1In.f a1 0 200).bind fun t1367 => (spec_ElementAt.j0 k a1 (!t1367) l0_0)) else (spec_ElementAt.j0 k a1 true l0_0))
set_option maxHeartbeats 8000000 in
set_option maxRecDepth 100000 in
theorem spec_ElementAt.calls (k : Nat) (A0_0 : Option Addr) (c0_0 : Nat) (l0_0 : List Int) (a1 : Int) (r : Int) (w : World) (hr0_0 : Kd.C (Kd.int .i64) w A0_0 l0_0.length l0_0) (hc0_0 : l0_0.length ≤ c0_0) (h : spec_ElementAt.f k l0_0 a1 = some r) :
  Calls Try.prog 231 #[.agg #[.slice A0_0 l0_0.length c0_0], .int .i64 a1] w fun e w' => e = .returned (.int .i64 r) ∧ Below w.heap.size w w' := by
 have hu26 := Try.underlying26
 have HR0_0 := am hr0_0
 have HC0_0 := am hc0_0
 clear hr0_0 hc0_0
 have HB := am (Below.refl w.heap.size w)
 have H : ((spec_IsSemigroup.f k l0_0).bind fun t1366 => (if t1366 = true then ((spec_l1In.f a1 0 200).bind fun t1367 => (spec_ElementAt.j0 k a1 (!t1367) l0_0)) else (spec_ElementAt.j0 k a1 true l0_0))) = some r := h
 clear h
 have HC3 := am H
 clear H
 go_enter Try.func231, Try.ntmps231
 go_upto_region 1 with (first | ((with_reducible refine gate_dst (N := 2) rfl ?_); refine bx 2 #[.slice A0_0 l0_0.length c0_0] 26 ?_; intro gb1365 hg w4 hbox hb; have BK1365 := am (hbox); have GW1365 := am (gs hg : w.heap.size ≤ gb1365); have GE1365 := GW1365; replace HB := am (below_step bw hb); clear hb hbox hg))
 (try simp only [Act.put, List.setIfInBounds_toArray, List.set_cons_zero, List.set_cons_succ])
 go_cut [13] (fun v13 wc => ∃ (kq : Nat) (x13_2 : Bool), v13 = .bool x13_2 ∧ Aside0 (spec_ElementAt.j0 kq a1 x13_2 l0_0 = some r) ∧ Aside0 (kq ≤ k) ∧ Aside0 (wc.heap[gb1365]? = some (.cells #[(.slice A0_0 l0_0.length c0_0)] 26 (0, 0))) ∧ Aside0 (Below w.heap.size w wc))
 case first =>
  have H := HC3.out
  clear HC3
  replace H := ga H; obtain ⟨t1366, A5, H⟩ := H
  replace H := gb H; obtain ⟨rfl, H⟩ | ⟨rfl, H⟩ := H
  ·replace H := ga H; obtain ⟨t1367, A7, H⟩ := H
   have H' := am H
   clear H
   have hcz8_0 := bc BK1365 0 (.slice A0_0 l0_0.length c0_0)
   have hfz8_0 := blk_frozen BK1365.out 0
   go_wp2_with (first | ((with_reducible refine gate_callee (f := 23) rfl ?_); refine gl (some 7) Try.func23 #[.agg #[.slice A0_0 l0_0.length c0_0]] ?_; (with_reducible refine (spec_IsSemigroup.calls k _ _ l0_0 true _ ?side1 ?side2 A5.out).mono ?_); (case side1 => exact co (Kd.C_below HR0_0.out HB.out)); (case side2 => exact HC0_0.out); rintro e w9 ⟨rfl, hb⟩; refine ⟨_, rfl, ?_⟩; replace BK1365 := kb BK1365 hb; replace HB := am (below_step bw hb); clear hb) | (go_at_call 140; (with_reducible refine (spec_l1In.calls a1 0 200 t1367 _ A7.out).mono ?_); rintro e w' ⟨rfl, ⟨nd, rfl⟩⟩))
   go_meet
   case rel => exact ⟨_, (!t1367), rr, H', ⟨om⟩, ⟨bo BK1365.out⟩, ⟨bw⟩⟩
  ·have H' := am H
   clear H
   have hcz10_0 := bc BK1365 0 (.slice A0_0 l0_0.length c0_0)
   have hfz10_0 := blk_frozen BK1365.out 0
   go_wp2_with (first | ((with_reducible refine gate_callee (f := 23) rfl ?_); refine gl (some 7) Try.func23 #[.agg #[.slice A0_0 l0_0.length c0_0]] ?_; (with_reducible refine (spec_IsSemigroup.calls k _ _ l0_0 false _ ?side1 ?side2 A5.out).mono ?_); (case side1 => exact co (Kd.C_below HR0_0.out HB.out)); (case side2 => exact HC0_0.out); rintro e w11 ⟨rfl, hb⟩; refine ⟨_, rfl, ?_⟩; replace BK1365 := kb BK1365 hb; replace HB := am (below_step bw hb); clear hb))
   go_meet
   case rel => exact ⟨_, (true), rr, H', ⟨om⟩, ⟨bo BK1365.out⟩, ⟨bw⟩⟩
 case rest =>
  clear HC3
  try clear hcz10_0; try clear hcz8_0; try clear hfz10_0; try clear hfz8_0
  obtain ⟨kq, x13_2, rfl, HA, HJ2, BK1365, HB⟩ := hcut
  cases kq with
  | zero => exact absurd HA.out (by simp [spec_ElementAt.j0])
  | succ kj2 =>
   have H := HA.out
   clear HA
   simp only [spec_ElementAt.j0] at H
   replace H := gb H; obtain ⟨rfl, H⟩ | ⟨rfl, H⟩ := H
   ·obtain rfl := Option.some.inj H
    go_wp2
    go_ret
    exact ⟨re, bw⟩
   ·replace H := ga H; obtain ⟨t1368, A13, H⟩ := H
    replace H := gi H; obtain ⟨c14b0, H⟩ | ⟨c14b0, H⟩ := H
    ·replace H := gd H; obtain ⟨c15b0, H⟩ := H
     obtain rfl := Option.some.inj H
     have hcz16_0 := bc BK1365 0 (.slice A0_0 l0_0.length c0_0)
     have hfz16_0 := blk_frozen BK1365.out 0
     go_wp2_with (first | ((with_reducible refine gate_callee (f := 245) rfl ?_); refine gl (some 15) Try.func245 #[.agg #[.slice A0_0 l0_0.length c0_0]] ?_; (with_reducible refine (spec_SmallElements.calls kj2 _ _ l0_0 t1368 _ ?side1 ?side2 A13.out).mono ?_); (case side1 => exact co (Kd.C_below HR0_0.out HB.out)); (case side2 => exact HC0_0.out); rintro e w17 ⟨v1369, rfl, ho0, hb⟩; refine ⟨_, rfl, ?_⟩; have HO1370 := am (Kd.R_lower ho0 (below_size bw)); replace BK1365 := kb BK1365 hb; replace HB := am (below_step bw hb); clear hb ho0; obtain ⟨Ao18, co18, eo18⟩ := Kd.R_slice HO1370.out; subst eo18; have p1371 : 0 ≤ (a1 : Int) := of_decide_eq_true (by first | (with_reducible assumption) | assumption); have q1371 : a1 < (t1368.length : Int) := of_decide_eq_true (by first | (with_reducible assumption) | assumption); obtain ⟨ad1371, e1371, hx1371_0⟩ := Kd.at_int (Kd.R_reads' HO1370.out).2.2 a1 p1371 q1371; cases e1371; replace p1371 := eq_true p1371; replace q1371 := eq_true q1371))
     go_ret
     exact ⟨re, bw⟩
    ·replace H := ga H; obtain ⟨t1372, A19, H⟩ := H
     obtain rfl := Option.some.inj H
     have hcz20_0 := bc BK1365 0 (.slice A0_0 l0_0.length c0_0)
     have hfz20_0 := blk_frozen BK1365.out 0
     go_wp2_with (first | ((with_reducible refine gate_callee (f := 245) rfl ?_); refine gl (some 15) Try.func245 #[.agg #[.slice A0_0 l0_0.length c0_0]] ?_; (with_reducible refine (spec_SmallElements.calls kj2 _ _ l0_0 t1368 _ ?side1 ?side2 A13.out).mono ?_); (case side1 => exact co (Kd.C_below HR0_0.out HB.out)); (case side2 => exact HC0_0.out); rintro e w21 ⟨v1369, rfl, ho0, hb⟩; refine ⟨_, rfl, ?_⟩; have HO1370 := am (Kd.R_lower ho0 (below_size bw)); replace BK1365 := kb BK1365 hb; replace HB := am (below_step bw hb); clear hb ho0; obtain ⟨Ao22, co22, eo22⟩ := Kd.R_slice HO1370.out; subst eo22; have hcz23_0 := bc BK1365 0 (.slice A0_0 l0_0.length c0_0); have hfz23_0 := blk_frozen BK1365.out 0) | ((with_reducible refine gate_callee (f := 168) rfl ?_); refine gl (some 25) Try.func168 #[.agg #[.slice A0_0 l0_0.length c0_0]] ?_; (with_reducible refine (spec_ConductorOf.calls kj2 _ _ l0_0 t1372 _ ?side1 ?side2 A19.out).mono ?_); (case side1 => exact co (Kd.C_below HR0_0.out HB.out)); (case side2 => exact HC0_0.out); rintro e w24 ⟨rfl, hb⟩; refine ⟨_, rfl, ?_⟩; replace HO1370 := am (Kd.R_below (ro HO1370.out) hb); replace BK1365 := kb BK1365 hb; replace HB := am (below_step bw hb); clear hb))
     go_ret
     exact ⟨re, bw⟩


/-! ### spec_l6Case: function 207 -/
def spec_l6Case.f (k : Nat) (l0 : List Int) : Option (List Int × Int) := (spec_l1New.f k l0).bind fun bt1374 => ((spec_l3Draw.f k bt1374.1 bt1374.2.1 bt1374.2.2).bind fun bt1378 => ((spec_l1Below.f bt1374.1 bt1378.2.1 bt1378.2.2 (bt1378.1.length : Int)).bind fun bt1384 => (if 0 ≤ bt1384.1 then (if bt1384.1 < (bt1378.1.length : Int) then ((spec_l1Below.f bt1374.1 bt1384.2.1 bt1384.2.2 8).bind fun bt1388 => (if bt1388.1 = 0 then ((spec_l1PickInt.f bt1374.1 bt1388.2.1 bt1388.2.2 (([0, (-1), 61, 60, 7] : List Int))).bind fun bt1394 => (some (bt1378.1, bt1394.1))) else (if bt1388.1 = 1 then ((spec_l1Below.f bt1374.1 bt1388.2.1 bt1388.2.2 6).bind fun bt1397 => ((spec_ElementAt.f k bt1378.1 (wrap64 (1 + bt1397.1))).bind fun t1400 => (some (bt1378.1, t1400)))) else (if bt1388.1 = 2 then ((spec_l3Bent.f k bt1374.1 bt1388.2.1 bt1388.2.2).bind fun bt1401 => (some (bt1401.1, rd bt1378.1 bt1384.1))) else (some (bt1378.1, rd bt1378.1 bt1384.1)))))) else (none)) else (none))))
def spec_l6Case.T3 : Bool × List (List Nat × List Nat) := (true, [([], []), ([0], [0]), ([], []), ([], []), ([3], [3]), ([4], [4]), ([2, 5], [2, 5]), ([1, 6], [1, 6]), ([7], [7]), ([8, 6, 0, 1, 2, 3, 4, 5, 6, 7, 8], [8])])
def spec_l6Case.B3 : List Nat := [0, 1, 0, 0, 8, 24, 60, 127, 255, 511]
theorem spec_l6Case.tab3 : rtab .any (opsOf Try.f207 3) = spec_l6Case.T3 := by kernel_rfl
theorem spec_l6Case.bits3 : waitsOk spec_l6Case.T3.2 spec_l6Case.B3 = true := by kernel_rfl
set_option maxHeartbeats 8000000 in
set_option maxRecDepth 100000 in
theorem spec_l6Case.calls (k : Nat) (A0 : Option Addr) (c0 : Nat) (l0 : List Int) (r1 : List Int) (r2 : Int) (w : World) (hr0 : Kd.C (Kd.int .u8) w A0 l0.length l0) (hc0 : l0.length ≤ c0) (h : spec_l6Case.f k l0 = some (r1, r2)) :
  Calls Try.prog 207 #[.slice A0 l0.length c0] w fun e w' => ∃ v0_ : Value, e = .returned (.tuple #[.agg #[v0_], .int .i64 r2]) ∧ Kd.Q (Kd.int .i64) 3 w' w.heap.size (fun _ => True) v0_ r1 ∧ Below w.heap.size w w' := by
 have hu26 := Try.underlying26
 have HR0 := am hr0
 have HC0 := am hc0
 clear hr0 hc0
 have HB := am (Below.refl w.heap.size w)
 have H : ((spec_l1New.f k l0).bind fun bt1374 => ((spec_l3Draw.f k bt1374.1 bt1374.2.1 bt1374.2.2).bind fun bt1378 => ((spec_l1Below.f bt1374.1 bt1378.2.1 bt1378.2.2 (bt1378.1.length : Int)).bind fun bt1384 => (if 0 ≤ bt1384.1 then (if bt1384.1 < (bt1378.1.length : Int) then ((spec_l1Below.f bt1374.1 bt1384.2.1 bt1384.2.2 8).bind fun bt1388 => (if bt1388.1 = 0 then ((spec_l1PickInt.f bt1374.1 bt1388.2.1 bt1388.2.2 (([0, (-1), 61, 60, 7] : List Int))).bind fun bt1394 => (some (bt1378.1, bt1394.1))) else (if bt1388.1 = 1 then ((spec_l1Below.f bt1374.1 bt1388.2.1 bt1388.2.2 6).bind fun bt1397 => ((spec_ElementAt.f k bt1378.1 (wrap64 (1 + bt1397.1))).bind fun t1400 => (some (bt1378.1, t1400)))) else (if bt1388.1 = 2 then ((spec_l3Bent.f k bt1374.1 bt1388.2.1 bt1388.2.2).bind fun bt1401 => (some (bt1401.1, rd bt1378.1 bt1384.1))) else (some (bt1378.1, rd bt1378.1 bt1384.1)))))) else (none)) else (none))))) = some (r1, r2) := h
 clear h
 replace H := ga H; obtain ⟨⟨t1374, t1375, t1376⟩, A2, H⟩ := H
 replace H : ((spec_l3Draw.f k t1374 t1375 t1376).bind fun bt1378 => ((spec_l1Below.f t1374 bt1378.2.1 bt1378.2.2 (bt1378.1.length : Int)).bind fun bt1384 => (if 0 ≤ bt1384.1 then (if bt1384.1 < (bt1378.1.length : Int) then ((spec_l1Below.f t1374 bt1384.2.1 bt1384.2.2 8).bind fun bt1388 => (if bt1388.1 = 0 then ((spec_l1PickInt.f t1374 bt1388.2.1 bt1388.2.2 (([0, (-1), 61, 60, 7] : List Int))).bind fun bt1394 => (some (bt1378.1, bt1394.1))) else (if bt1388.1 = 1 then ((spec_l1Below.f t1374 bt1388.2.1 bt1388.2.2 6).bind fun bt1397 => ((spec_ElementAt.f k bt1378.1 (wrap64 (1 + bt1397.1))).bind fun t1400 => (some (bt1378.1, t1400)))) else (if bt1388.1 = 2 then ((spec_l3Bent.f k t1374 bt1388.2.1 bt1388.2.2).bind fun bt1401 => (some (bt1401.1, rd bt1378.1 bt1384.1))) else (some (bt1378.1, rd bt1378.1 bt1384.1)))))) else (none)) else (none)))) = some (r1, r2) := H
 replace H := ga H; obtain ⟨⟨t1378, t1381, t1382⟩, A3, H⟩ := H
 replace H : ((spec_l1Below.f t1374 t1381 t1382 (t1378.length : Int)).bind fun bt1384 => (if 0 ≤ bt1384.1 then (if bt1384.1 < (t1378.length : Int) then ((spec_l1Below.f t1374 bt1384.2.1 bt1384.2.2 8).bind fun bt1388 => (if bt1388.1 = 0 then ((spec_l1PickInt.f t1374 bt1388.2.1 bt1388.2.2 (([0, (-1), 61, 60, 7] : List Int))).bind fun bt1394 => (some (t1378, bt1394.1))) else (if bt1388.1 = 1 then ((spec_l1Below.f t1374 bt1388.2.1 bt1388.2.2 6).bind fun bt1397 => ((spec_ElementAt.f k t1378 (wrap64 (1 + bt1397.1))).bind fun t1400 => (some (t1378, t1400)))) else (if bt1388.1 = 2 then ((spec_l3Bent.f k t1374 bt1388.2.1 bt1388.2.2).bind fun bt1401 => (some (bt1401.1, rd t1378 bt1384.1))) else (some (t1378, rd t1378 bt1384.1)))))) else (none)) else (none))) = some (r1, r2) := H
 replace H := ga H; obtain ⟨⟨t1384, t1385, t1386⟩, A4, H⟩ := H
 replace H : (if 0 ≤ t1384 then (if t1384 < (t1378.length : Int) then ((spec_l1Below.f t1374 t1385 t1386 8).bind fun bt1388 => (if bt1388.1 = 0 then ((spec_l1PickInt.f t1374 bt1388.2.1 bt1388.2.2 (([0, (-1), 61, 60, 7] : List Int))).bind fun bt1394 => (some (t1378, bt1394.1))) else (if bt1388.1 = 1 then ((spec_l1Below.f t1374 bt1388.2.1 bt1388.2.2 6).bind fun bt1397 => ((spec_ElementAt.f k t1378 (wrap64 (1 + bt1397.1))).bind fun t1400 => (some (t1378, t1400)))) else (if bt1388.1 = 2 then ((spec_l3Bent.f k t1374 bt1388.2.1 bt1388.2.2).bind fun bt1401 => (some (bt1401.1, rd t1378 t1384))) else (some (t1378, rd t1378 t1384)))))) else (none)) else (none)) = some (r1, r2) := H
 replace H := gd H; obtain ⟨c5b0, H⟩ := H
 replace H := gd H; obtain ⟨c6b0, H⟩ := H
 replace H := ga H; obtain ⟨⟨t1388, t1389, t1390⟩, A7, H⟩ := H
 replace H : (if t1388 = 0 then ((spec_l1PickInt.f t1374 t1389 t1390 (([0, (-1), 61, 60, 7] : List Int))).bind fun bt1394 => (some (t1378, bt1394.1))) else (if t1388 = 1 then ((spec_l1Below.f t1374 t1389 t1390 6).bind fun bt1397 => ((spec_ElementAt.f k t1378 (wrap64 (1 + bt1397.1))).bind fun t1400 => (some (t1378, t1400)))) else (if t1388 = 2 then ((spec_l3Bent.f k t1374 t1389 t1390).bind fun bt1401 => (some (bt1401.1, rd t1378 t1384))) else (some (t1378, rd t1378 t1384))))) = some (r1, r2) := H
 by_cases c8 : t1388 = 0
 ·rw [if_pos c8] at H
  have c8b0 : (t1388 == 0) = true := beq_iff_eq.mpr c8
  have c8b1 : (t1388 != 0) = false := bne_eq_false_iff_eq.mpr c8
  clear c8
  obtain ⟨y1391, hy1391⟩ : ∃ y_ : List Int, y_ = (([0, (-1), 61, 60, 7] : List Int)) := ⟨_, rfl⟩
  replace H : ((spec_l1PickInt.f t1374 t1389 t1390 y1391).bind fun bt1394 => (some (t1378, bt1394.1))) = some (r1, r2) := by first | (rw [hy1391]; with_reducible exact H) | (have H2_ := (Option.bind_some _ _).symm.trans H; rw [hy1391]; with_reducible exact H2_) | (have H2_ := (Option.bind_some _ _).symm.trans H; with_reducible exact H2_) | with_reducible exact H | (rw [hy1391]; exact H) | exact H
  have Ny1391 := am hy1391
  clear hy1391
  replace H := ga H; obtain ⟨⟨t1394, t1395, t1396⟩, A9, H⟩ := H
  replace H : (some (t1378, t1394)) = some (r1, r2) := H
  simp only [Option.some.injEq, Prod.mk.injEq] at H
  obtain ⟨rfl, rfl⟩ := H
  go_enter Try.func207, Try.ntmps207
  try go_wp2_with (first | ((with_reducible refine gate_dst (N := 2) rfl ?_); refine bx 2 #[.slice none 0 0] 26 ?_; intro gb1373 hg w10 hbox hb; have BK1373 := am (hbox); have GW1373 := am (gs hg : w.heap.size ≤ gb1373); have GE1373 := GW1373; replace HB := am (below_step bw hb); clear hb hbox hg) | ((with_reducible refine gate_callee (f := 131) rfl ?_); refine gl (some 8) Try.func131 #[.slice A0 l0.length c0] ?_; (with_reducible refine (spec_l1New.calls k _ _ l0 t1374 t1375 t1376 w _ ?side1 ?side2 ?side3 A2.out).mono ?_); (case side1 => exact bw); (case side2 => exact HR0.out); (case side3 => exact HC0.out); rintro e w11 ⟨g1377, rfl, hi, hb, hb2⟩; refine ⟨_, rfl, ?_⟩; replace HB := am (hb); have HI1377 := am (hi); have NB1377_1373 := am (IsS132.ne_blk hi (blk_below (g := gb1373) (o := .cells #[.slice none 0 0] 26 (0, 0)) (bo BK1373.out) hb2) (by decide)); have NB1373_1377 := ns NB1377_1373; replace BK1373 := kb BK1373 hb2; clear hb hb2 hi) | ((with_reducible refine gate_callee (f := 213) rfl ?_); refine gl (some 10) Try.func213 #[.pointer (some ⟨g1377, 0, none⟩)] ?_; (with_reducible refine (spec_l3Draw.calls k g1377 t1374 t1375 t1376 t1378 t1381 t1382 w _ ?side1 ?side2 A3.out).mono ?_); (case side1 => exact iw HI1377.out); (case side2 => exact bv); rintro e w12 ⟨v1379, rfl, ho0, hi, hb, hk⟩; refine ⟨_, rfl, ?_⟩; replace BK1373 := kk hk BK1373 NB1373_1377; have HO1380 := am (Kd.R_lower ho0 (below_size bv)); replace HB := am (hb); replace HI1377 := am (hi); clear hb hk hi ho0) | ((with_reducible refine gate_dst (N := 5) rfl ?_); refine bx 5 #[.slice none 0 0] 26 ?_; intro gb1383 hg w13 hbox hb; replace HO1380 := am (Kd.R_below (ro HO1380.out) hb); have BK1383 := am (hbox); have GW1383 := am ((by rw [hg]; exact (below_size bv) : w.heap.size ≤ gb1383)); have GE1383 := GW1383; replace HB := am (below_step bv hb); have NB1373_1383 := nl hg BK1373; have NB1383_1373 := ns NB1373_1383; replace BK1373 := kb BK1373 hb; have NB1377_1383 := am ((by rw [hg]; exact Nat.ne_of_lt (IsS132.lt (show IsS132 w _ g1377 t1374 t1381 t1382 from (iw HI1377.out))) : g1377 ≠ gb1383)); have NB1383_1377 := ns NB1377_1383; replace HI1377 := am (IsS132.below (iw HI1377.out) hb); clear hb hbox hg; obtain ⟨Ao14, co14, eo14⟩ := Kd.R_slice HO1380.out; subst eo14; have hnb15 := NB1383_1373.out; have hnc15 := NB1373_1383.out; have hnb16 := NB1383_1377.out; have hnc16 := NB1377_1383.out; have hcz17_0 := bc BK1383 0 (.slice none 0 0); have hfz17_0 := blk_frozen BK1383.out 0))
  have n0_ : Aside0 (Kd.R (Kd.int .i64) 3 (w13.setCell ⟨gb1383, 0, none⟩ (.slice Ao14 t1378.length co14)) w.heap.size (fun _ => True) (.slice Ao14 t1378.length co14) t1378) := ⟨by (with_reducible repeat (first | apply Kd.R_alloc | apply Kd.R_drewN | apply Kd.R_drew)); exact Kd.R_mono (Kd.R_far (p := ⟨gb1383, 0, none⟩) (Kd.R_types HO1380.out BK1383.out (by decide)) (fun _ hk => hk.2) (.slice Ao14 t1378.length co14)) (fun _ hk => trivial)⟩
  have n1_ : Aside0 ((w13.setCell ⟨gb1383, 0, none⟩ (.slice Ao14 t1378.length co14)).heap[gb1373]? = some (.cells #[.slice none 0 0] 26 (0, 0))) := ⟨bf BK1373.out⟩
  have n2_ : Aside0 ((w13.setCell ⟨gb1383, 0, none⟩ (.slice Ao14 t1378.length co14)).heap[gb1383]? = some (.cells #[.slice Ao14 t1378.length co14] 26 (0, 0))) := ⟨by (with_reducible repeat (first | refine blk_drewN ?_ _ | refine blk_drew ?_ | refine blk_alloc ?_ _)); refine blk_put (cs := #[.slice none 0 0]) ?_ 0 _ rfl; (with_reducible repeat (first | refine blk_drewN ?_ _ | refine blk_drew ?_ | refine blk_alloc ?_ _)); exact BK1383.out⟩
  have n3_ : Aside0 (IsS132 w (w13.setCell ⟨gb1383, 0, none⟩ (.slice Ao14 t1378.length co14)) g1377 t1374 t1381 t1382) := ⟨(iw HI1377.out)⟩
  have n4_ : Aside0 (Below w.heap.size w (w13.setCell ⟨gb1383, 0, none⟩ (.slice Ao14 t1378.length co14))) := ⟨bv⟩
  (try clear HO1380); (try clear BK1373); (try clear BK1383); (try clear HI1377); (try clear HB)
  generalize (w13.setCell ⟨gb1383, 0, none⟩ (.slice Ao14 t1378.length co14)) = w18 at n0_ n1_ n2_ n3_ n4_ ⊢
  have HO1380 := n0_
  have BK1373 := n1_
  have BK1383 := n2_
  have HI1377 := n3_
  have HB := n4_
  clear n0_ n1_ n2_ n3_ n4_
  replace HO1380 := am (Kd.R_drew HO1380.out)
  replace BK1373 := am (blk_drew BK1373.out)
  replace BK1383 := am (blk_drew BK1383.out)
  replace HI1377 := am (IsS132.drew HI1377.out)
  replace HB := am (below_drew1 HB.out)
  obtain ⟨⟨ad1387, e1387, hx1387_0⟩, p1387, q1387⟩ := pq (Kd.at_int (Kd.R_reads' HO1380.out).2.2 t1384)
  cases e1387
  refine start_ (n := 10) (S := fun w' => w'.cell? ⟨gb1383, 0, none⟩ = some (.slice (some ad1387) t1378.length co14) ∧ w'.cell? (ad1387.add (t1384).toNat) = some (.int .i64 (rd t1378 t1384))) (ds := []) (yz 10 0) (by kernel_rfl) rfl rfl ⟨(blk_cell BK1383.out 0).trans rfl, hx1387_0⟩ (fun hHeld => ?_); refine with_tabW spec_l6Case.tab3 spec_l6Case.bits3 (fun HT_ HW_ => ?_)
  generalize w18.drew = w19 at HO1380 BK1373 BK1383 HI1377 HB hx1387_0 hHeld ⊢
  refine pa 0 (some 11) (yz 10 1) HT_ ?_
  refine pa 2 (some 13) (yz 10 5) HT_ ?_
  refine pa 3 (some 14) (yz 10 13) HT_ ?_
  refine take_ (i := 1) (N := some 12) (v := ?_) (a' := ?_) (yz 10 15) rfl rfl (take_ofW HT_.out HW_.out (by kernel_rfl)) (fun _ _ _ h => h) (Or.inl ⟨by rfl, ?_⟩) hHeld ?_ ?_
  rotate_left
  ·rintro w' ⟨s0, s1⟩
   go_simp
   with_reducible rfl
  rotate_left
  ·simp only [Act.put, qa, qb, qc, i64_w, i32_w]
   rfl
  refine take_ (i := 4) (N := some 15) (v := ?_) (a' := ?_) (yz 10 31) rfl rfl (take_ofW HT_.out HW_.out (by kernel_rfl)) (fun _ _ _ h => h) (Or.inl ⟨by rfl, ?_⟩) hHeld ?_ ?_
  rotate_left
  ·rintro w' ⟨s0, s1⟩
   go_simp
   with_reducible rfl
  rotate_left
  ·simp only [Act.put, qa, qb, qc, i64_w, i32_w]
   rfl
  refine pa 5 (some 16) (yz 10 63) HT_ ?_
  refine oa 6 (some 17) (yz 10 127) HT_ (fun K hK => ?_)
  refine gm Try.func156 #[.pointer (some ⟨g1377, 0, none⟩), .int .i64 (t1378.length : Int)] ?_
  with_reducible refine (spec_l1Below.calls g1377 t1374 t1381 t1382 (t1378.length : Int) t1384 t1385 t1386 w _ ?side1 ?side2 A4.out).mono ?_
  (case side1 => exact iw HI1377.out)
  (case side2 => exact bv)
  rintro e w20 ⟨rfl, hi, hb, hk⟩
  have HS1_ := keep_cell hk (hHeld.2) (by first | (rw [add_block]; exact Kd.own_blk (IsS132.own_ne HI1377.out HO1380.out (by decide))) | (show (Addr.add _ _).block ≠ _; rw [add_block]; exact Kd.own_blk (IsS132.own_ne HI1377.out HO1380.out (by decide))) | exact Kd.own_blk (IsS132.own_ne HI1377.out HO1380.out (by decide)))
  refine ⟨_, rfl, ?_⟩
  replace BK1373 := kk hk BK1373 NB1373_1377
  replace HO1380 := am (Kd.R_mono (Kd.R_keep (IsS132.apart (show IsS132 w _ g1377 t1374 t1381 t1382 from (iw HI1377.out)) (ro HO1380.out) (by decide)) hk (fun _ h => h.2)) (fun _ h => h.1))
  replace BK1383 := kk hk BK1383 NB1383_1377
  replace HB := am (hb)
  replace HI1377 := am (hi)
  clear hb hk hi
  refine hK.out _ _ ⟨(blk_cell BK1383.out 0).trans rfl, HS1_⟩ (fun hHeld => ?_)
  clear hK K
  refine norm_ (a' := ?_) ?_ ?_
  rotate_left
  ·show Act.put _ (some 17) _ = _
   simp only [Act.put, qa, qb, qc, i64_w, i32_w]
   rfl
  refine pa 7 (some 18) (yz 10 255) HT_ ?_
  refine take_ (i := 8) (N := some 19) (v := ?_) (a' := ?_) (yz 10 511) rfl rfl (take_ofW HT_.out HW_.out (by kernel_rfl)) (fun _ _ _ h => h) (Or.inl ⟨by rfl, ?_⟩) hHeld ?_ ?_
  rotate_left
  ·rintro w' ⟨s0, s1⟩
   go_simp
   with_reducible rfl
  rotate_left
  ·simp only [Act.put, qa, qb, qc, i64_w, i32_w]
   rfl
  refine pa 9 (some 6) (yz 10 1023) HT_ ?_
  refine done_ (done_of HT_.out (by kernel_rfl)) ?_
  try go_wp2_with (first | ((with_reducible refine gate_callee (f := 156) rfl ?_); refine gl (some 21) Try.func156 #[.pointer (some ⟨g1377, 0, none⟩), .int .i64 8] ?_; (with_reducible refine (spec_l1Below.calls g1377 t1374 t1385 t1386 8 t1388 t1389 t1390 w _ ?side1 ?side2 A7.out).mono ?_); (case side1 => exact iw HI1377.out); (case side2 => exact bv); rintro e w21 ⟨rfl, hi, hb, hk⟩; refine ⟨_, rfl, ?_⟩; replace BK1373 := kk hk BK1373 NB1373_1377; replace HO1380 := am (Kd.R_mono (Kd.R_keep (IsS132.apart (show IsS132 w _ g1377 t1374 t1385 t1386 from (iw HI1377.out)) (ro HO1380.out) (by decide)) hk (fun _ h => h.2)) (fun _ h => h.1)); replace BK1383 := kk hk BK1383 NB1383_1377; replace HB := am (hb); replace HI1377 := am (hi); clear hb hk hi) | ((with_reducible refine gate_dst (N := 25) rfl ?_); refine Kd.R_lit (Kd.int .i64) _ 3 ?hg (N := 25) ?hd (xs := ([0, (-1), 61, 60, 7] : List Int)) (inner := [.int .i64 0, .int .i64 (-1), .int .i64 61, .int .i64 60, .int .i64 7]) (ok := fun _ => True) (okp := fun _ => True) ?hr ?hp (fun _ hk => hk) trivial (Below.refl _ _) (Nat.le_refl _) (by simp) ?_; (case hd => rfl); (case hg => rfl); (case hr => first | (go_simp; done) | (go_simp; rfl)); (case hp => exact (Reps.one (show Kd.M (Kd.int .i64) _ _ _ 0 [.int .i64 0] from rfl) (Reps.one (show Kd.M (Kd.int .i64) _ _ _ (-1) [.int .i64 (-1)] from rfl) (Reps.one (show Kd.M (Kd.int .i64) _ _ _ 61 [.int .i64 61] from rfl) (Reps.one (show Kd.M (Kd.int .i64) _ _ _ 60 [.int .i64 60] from rfl) (Reps.one (show Kd.M (Kd.int .i64) _ _ _ 7 [.int .i64 7] from rfl) (Reps.none _ _))))))); intro v1392 w22 ho23 hb hg_ hnew_; clear hg_ hnew_; (first | rw [← Ny1391.out] at ho23 | (simp only [Int.reduceToNat] at ho23; rw [← Ny1391.out] at ho23)); have HO1393 := am (Kd.R_lower (Kd.R_new' ho23 (Kd.R_lt (ro HO1380.out))) (below_size bv)); replace HO1380 := am (Kd.R_elder' (ro HO1380.out) (Kd.R_base ho23) hb); replace BK1373 := kb BK1373 hb; replace BK1383 := kb BK1383 hb; replace HB := am (below_step bv hb); replace HI1377 := am (IsS132.below (iw HI1377.out) hb); clear hb ho23; obtain ⟨Ao24, co24, eo24⟩ := Kd.R_slice HO1393.out; subst eo24) | ((with_reducible refine gate_callee (f := 150) rfl ?_); refine gl (some 26) Try.func150 #[.pointer (some ⟨g1377, 0, none⟩), .slice Ao24 y1391.length co24] ?_; (with_reducible refine (spec_l1PickInt.calls g1377 t1374 t1389 t1390 _ _ y1391 t1394 t1395 t1396 w _ ?side1 ?side2 ?side3 ?side4 ?side5 A9.out).mono ?_); (case side1 => exact iw HI1377.out); (case side2 => exact bv); (case side3 => exact co (Kd.R_reads' HO1393.out).2.2); (case side4 => exact (Kd.R_reads' HO1393.out).2.1); (case side5 => exact far_slice (IsS132.own_ne HI1377.out HO1393.out (by decide))); rintro e w25 ⟨rfl, hi, hb, hk⟩; refine ⟨_, rfl, ?_⟩; replace BK1373 := kk hk BK1373 NB1373_1377; replace HO1380 := am (Kd.R_mono (Kd.R_keep (IsS132.apart (show IsS132 w _ g1377 t1374 t1389 t1390 from (iw HI1377.out)) (ro HO1380.out) (by decide)) hk (fun _ h => h.2)) (fun _ h => h.1)); replace BK1383 := kk hk BK1383 NB1383_1377; replace HO1393 := am (Kd.R_mono (Kd.R_keep (IsS132.apart (show IsS132 w _ g1377 t1374 t1389 t1390 from (iw HI1377.out)) (ro HO1393.out) (by decide)) hk (fun _ h => h.2)) (fun _ h => h.1)); replace HB := am (hb); replace HI1377 := am (hi); clear hb hk hi; have hcz26_0 := bc BK1383 0 (.slice (some ad1387) t1378.length co14); have hfz26_0 := blk_frozen BK1383.out 0; have hnb27 := NB1373_1377.out; have hnc27 := NB1377_1373.out; have hcz28_0 := bc BK1373 0 (.slice none 0 0); have hfz28_0 := blk_frozen BK1373.out 0))
  refine bodyPost_ret (results_ct rfl _ _ gb1373 26 #[.slice (some ad1387) t1378.length co14] (0, 0) _ rfl (by (with_reducible repeat (first | refine blk_drewN ?_ _ | refine blk_drew ?_ | refine blk_alloc ?_ _)); refine blk_put (cs := #[.slice none 0 0]) ?_ 0 _ rfl; (with_reducible repeat (first | refine blk_drewN ?_ _ | refine blk_drew ?_ | refine blk_alloc ?_ _)); exact BK1373.out) Try.underlying26 rfl (by kernel_rfl)) rfl ?_
  exact ⟨_, re, Kd.Q_of_R (by (with_reducible repeat (first | apply Kd.R_alloc | apply Kd.R_drewN | apply Kd.R_drew)); exact Kd.R_mono (Kd.R_far (p := ⟨gb1373, 0, none⟩) (Kd.R_types HO1380.out BK1373.out (by decide)) (fun _ hk => hk.2) (.slice (some ad1387) t1378.length co14)) (fun _ hk => trivial)), bv⟩
 ·rw [if_neg c8] at H
  have c8b0 : (t1388 == 0) = false := beq_eq_false_iff_ne.mpr c8
  have c8b1 : (t1388 != 0) = true := bne_iff_ne.mpr c8
  by_cases c29 : t1388 = 1
  ·rw [if_pos c29] at H
   have c29b0 : (t1388 == 1) = true := beq_iff_eq.mpr c29
   have c29b1 : (t1388 != 1) = false := bne_eq_false_iff_eq.mpr c29
   clear c29
   replace H := ga H; obtain ⟨⟨t1397, t1398, t1399⟩, A30, H⟩ := H
   replace H : ((spec_ElementAt.f k t1378 (wrap64 (1 + t1397))).bind fun t1400 => (some (t1378, t1400))) = some (r1, r2) := H
   replace H := ga H; obtain ⟨t1400, A31, H⟩ := H
   simp only [Option.some.injEq, Prod.mk.injEq] at H
   obtain ⟨rfl, rfl⟩ := H
   go_enter Try.func207, Try.ntmps207
   try go_wp2_with (first | ((with_reducible refine gate_dst (N := 2) rfl ?_); refine bx 2 #[.slice none 0 0] 26 ?_; intro gb1373 hg w32 hbox hb; have BK1373 := am (hbox); have GW1373 := am (gs hg : w.heap.size ≤ gb1373); have GE1373 := GW1373; replace HB := am (below_step bw hb); clear hb hbox hg) | ((with_reducible refine gate_callee (f := 131) rfl ?_); refine gl (some 8) Try.func131 #[.slice A0 l0.length c0] ?_; (with_reducible refine (spec_l1New.calls k _ _ l0 t1374 t1375 t1376 w _ ?side1 ?side2 ?side3 A2.out).mono ?_); (case side1 => exact bw); (case side2 => exact HR0.out); (case side3 => exact HC0.out); rintro e w33 ⟨g1377, rfl, hi, hb, hb2⟩; refine ⟨_, rfl, ?_⟩; replace HB := am (hb); have HI1377 := am (hi); have NB1377_1373 := am (IsS132.ne_blk hi (blk_below (g := gb1373) (o := .cells #[.slice none 0 0] 26 (0, 0)) (bo BK1373.out) hb2) (by decide)); have NB1373_1377 := ns NB1377_1373; replace BK1373 := kb BK1373 hb2; clear hb hb2 hi) | ((with_reducible refine gate_callee (f := 213) rfl ?_); refine gl (some 10) Try.func213 #[.pointer (some ⟨g1377, 0, none⟩)] ?_; (with_reducible refine (spec_l3Draw.calls k g1377 t1374 t1375 t1376 t1378 t1381 t1382 w _ ?side1 ?side2 A3.out).mono ?_); (case side1 => exact iw HI1377.out); (case side2 => exact bv); rintro e w34 ⟨v1379, rfl, ho0, hi, hb, hk⟩; refine ⟨_, rfl, ?_⟩; replace BK1373 := kk hk BK1373 NB1373_1377; have HO1380 := am (Kd.R_lower ho0 (below_size bv)); replace HB := am (hb); replace HI1377 := am (hi); clear hb hk hi ho0) | ((with_reducible refine gate_dst (N := 5) rfl ?_); refine bx 5 #[.slice none 0 0] 26 ?_; intro gb1383 hg w35 hbox hb; replace HO1380 := am (Kd.R_below (ro HO1380.out) hb); have BK1383 := am (hbox); have GW1383 := am ((by rw [hg]; exact (below_size bv) : w.heap.size ≤ gb1383)); have GE1383 := GW1383; replace HB := am (below_step bv hb); have NB1373_1383 := nl hg BK1373; have NB1383_1373 := ns NB1373_1383; replace BK1373 := kb BK1373 hb; have NB1377_1383 := am ((by rw [hg]; exact Nat.ne_of_lt (IsS132.lt (show IsS132 w _ g1377 t1374 t1381 t1382 from (iw HI1377.out))) : g1377 ≠ gb1383)); have NB1383_1377 := ns NB1377_1383; replace HI1377 := am (IsS132.below (iw HI1377.out) hb); clear hb hbox hg; obtain ⟨Ao36, co36, eo36⟩ := Kd.R_slice HO1380.out; subst eo36; have hnb37 := NB1383_1373.out; have hnc37 := NB1373_1383.out; have hnb38 := NB1383_1377.out; have hnc38 := NB1377_1383.out; have hcz39_0 := bc BK1383 0 (.slice none 0 0); have hfz39_0 := blk_frozen BK1383.out 0))
   have n0_ : Aside0 (Kd.R (Kd.int .i64) 3 (w35.setCell ⟨gb1383, 0, none⟩ (.slice Ao36 t1378.length co36)) w.heap.size (fun _ => True) (.slice Ao36 t1378.length co36) t1378) := ⟨by (with_reducible repeat (first | apply Kd.R_alloc | apply Kd.R_drewN | apply Kd.R_drew)); exact Kd.R_mono (Kd.R_far (p := ⟨gb1383, 0, none⟩) (Kd.R_types HO1380.out BK1383.out (by decide)) (fun _ hk => hk.2) (.slice Ao36 t1378.length co36)) (fun _ hk => trivial)⟩
   have n1_ : Aside0 ((w35.setCell ⟨gb1383, 0, none⟩ (.slice Ao36 t1378.length co36)).heap[gb1373]? = some (.cells #[.slice none 0 0] 26 (0, 0))) := ⟨bf BK1373.out⟩
   have n2_ : Aside0 ((w35.setCell ⟨gb1383, 0, none⟩ (.slice Ao36 t1378.length co36)).heap[gb1383]? = some (.cells #[.slice Ao36 t1378.length co36] 26 (0, 0))) := ⟨by (with_reducible repeat (first | refine blk_drewN ?_ _ | refine blk_drew ?_ | refine blk_alloc ?_ _)); refine blk_put (cs := #[.slice none 0 0]) ?_ 0 _ rfl; (with_reducible repeat (first | refine blk_drewN ?_ _ | refine blk_drew ?_ | refine blk_alloc ?_ _)); exact BK1383.out⟩
   have n3_ : Aside0 (IsS132 w (w35.setCell ⟨gb1383, 0, none⟩ (.slice Ao36 t1378.length co36)) g1377 t1374 t1381 t1382) := ⟨(iw HI1377.out)⟩
   have n4_ : Aside0 (Below w.heap.size w (w35.setCell ⟨gb1383, 0, none⟩ (.slice Ao36 t1378.length co36))) := ⟨bv⟩
   (try clear HO1380); (try clear BK1373); (try clear BK1383); (try clear HI1377); (try clear HB)
   generalize (w35.setCell ⟨gb1383, 0, none⟩ (.slice Ao36 t1378.length co36)) = w40 at n0_ n1_ n2_ n3_ n4_ ⊢
   have HO1380 := n0_
   have BK1373 := n1_
   have BK1383 := n2_
   have HI1377 := n3_
   have HB := n4_
   clear n0_ n1_ n2_ n3_ n4_
   replace HO1380 := am (Kd.R_drew HO1380.out)
   replace BK1373 := am (blk_drew BK1373.out)
   replace BK1383 := am (blk_drew BK1383.out)
   replace HI1377 := am (IsS132.drew HI1377.out)
   replace HB := am (below_drew1 HB.out)
   obtain ⟨⟨ad1387, e1387, hx1387_0⟩, p1387, q1387⟩ := pq (Kd.at_int (Kd.R_reads' HO1380.out).2.2 t1384)
   cases e1387
   refine start_ (n := 10) (S := fun w' => w'.cell? ⟨gb1383, 0, none⟩ = some (.slice (some ad1387) t1378.length co36) ∧ w'.cell? (ad1387.add (t1384).toNat) = some (.int .i64 (rd t1378 t1384))) (ds := []) (yz 10 0) (by kernel_rfl) rfl rfl ⟨(blk_cell BK1383.out 0).trans rfl, hx1387_0⟩ (fun hHeld => ?_); refine with_tabW spec_l6Case.tab3 spec_l6Case.bits3 (fun HT_ HW_ => ?_)
   generalize w40.drew = w41 at HO1380 BK1373 BK1383 HI1377 HB hx1387_0 hHeld ⊢
   refine pa 0 (some 11) (yz 10 1) HT_ ?_
   refine pa 2 (some 13) (yz 10 5) HT_ ?_
   refine pa 3 (some 14) (yz 10 13) HT_ ?_
   refine take_ (i := 1) (N := some 12) (v := ?_) (a' := ?_) (yz 10 15) rfl rfl (take_ofW HT_.out HW_.out (by kernel_rfl)) (fun _ _ _ h => h) (Or.inl ⟨by rfl, ?_⟩) hHeld ?_ ?_
   rotate_left
   ·rintro w' ⟨s0, s1⟩
    go_simp
    with_reducible rfl
   rotate_left
   ·simp only [Act.put, qa, qb, qc, i64_w, i32_w]
    rfl
   refine take_ (i := 4) (N := some 15) (v := ?_) (a' := ?_) (yz 10 31) rfl rfl (take_ofW HT_.out HW_.out (by kernel_rfl)) (fun _ _ _ h => h) (Or.inl ⟨by rfl, ?_⟩) hHeld ?_ ?_
   rotate_left
   ·rintro w' ⟨s0, s1⟩
    go_simp
    with_reducible rfl
   rotate_left
   ·simp only [Act.put, qa, qb, qc, i64_w, i32_w]
    rfl
   refine pa 5 (some 16) (yz 10 63) HT_ ?_
   refine oa 6 (some 17) (yz 10 127) HT_ (fun K hK => ?_)
   refine gm Try.func156 #[.pointer (some ⟨g1377, 0, none⟩), .int .i64 (t1378.length : Int)] ?_
   with_reducible refine (spec_l1Below.calls g1377 t1374 t1381 t1382 (t1378.length : Int) t1384 t1385 t1386 w _ ?side1 ?side2 A4.out).mono ?_
   (case side1 => exact iw HI1377.out)
   (case side2 => exact bv)
   rintro e w42 ⟨rfl, hi, hb, hk⟩
   have HS1_ := keep_cell hk (hHeld.2) (by first | (rw [add_block]; exact Kd.own_blk (IsS132.own_ne HI1377.out HO1380.out (by decide))) | (show (Addr.add _ _).block ≠ _; rw [add_block]; exact Kd.own_blk (IsS132.own_ne HI1377.out HO1380.out (by decide))) | exact Kd.own_blk (IsS132.own_ne HI1377.out HO1380.out (by decide)))
   refine ⟨_, rfl, ?_⟩
   replace BK1373 := kk hk BK1373 NB1373_1377
   replace HO1380 := am (Kd.R_mono (Kd.R_keep (IsS132.apart (show IsS132 w _ g1377 t1374 t1381 t1382 from (iw HI1377.out)) (ro HO1380.out) (by decide)) hk (fun _ h => h.2)) (fun _ h => h.1))
   replace BK1383 := kk hk BK1383 NB1383_1377
   replace HB := am (hb)
   replace HI1377 := am (hi)
   clear hb hk hi
   refine hK.out _ _ ⟨(blk_cell BK1383.out 0).trans rfl, HS1_⟩ (fun hHeld => ?_)
   clear hK K
   refine norm_ (a' := ?_) ?_ ?_
   rotate_left
   ·show Act.put _ (some 17) _ = _
    simp only [Act.put, qa, qb, qc, i64_w, i32_w]
    rfl
   refine pa 7 (some 18) (yz 10 255) HT_ ?_
   refine take_ (i := 8) (N := some 19) (v := ?_) (a' := ?_) (yz 10 511) rfl rfl (take_ofW HT_.out HW_.out (by kernel_rfl)) (fun _ _ _ h => h) (Or.inl ⟨by rfl, ?_⟩) hHeld ?_ ?_
   rotate_left
   ·rintro w' ⟨s0, s1⟩
    go_simp
    with_reducible rfl
   rotate_left
   ·simp only [Act.put, qa, qb, qc, i64_w, i32_w]
    rfl
   refine pa 9 (some 6) (yz 10 1023) HT_ ?_
   refine done_ (done_of HT_.out (by kernel_rfl)) ?_
   try go_wp2_with (first | ((with_reducible refine gate_callee (f := 156) rfl ?_); refine gl (some 21) Try.func156 #[.pointer (some ⟨g1377, 0, none⟩), .int .i64 8] ?_; (with_reducible refine (spec_l1Below.calls g1377 t1374 t1385 t1386 8 t1388 t1389 t1390 w _ ?side1 ?side2 A7.out).mono ?_); (case side1 => exact iw HI1377.out); (case side2 => exact bv); rintro e w43 ⟨rfl, hi, hb, hk⟩; refine ⟨_, rfl, ?_⟩; replace BK1373 := kk hk BK1373 NB1373_1377; replace HO1380 := am (Kd.R_mono (Kd.R_keep (IsS132.apart (show IsS132 w _ g1377 t1374 t1385 t1386 from (iw HI1377.out)) (ro HO1380.out) (by decide)) hk (fun _ h => h.2)) (fun _ h => h.1)); replace BK1383 := kk hk BK1383 NB1383_1377; replace HB := am (hb); replace HI1377 := am (hi); clear hb hk hi))
   replace HO1380 := am (Kd.R_drew HO1380.out)
   replace BK1373 := am (blk_drew BK1373.out)
   replace BK1383 := am (blk_drew BK1383.out)
   replace HI1377 := am (IsS132.drew HI1377.out)
   replace HB := am (below_drew1 HB.out)
   refine start_ (n := 6) (S := fun w' => w'.cell? ⟨gb1383, 0, none⟩ = some (.slice (some ad1387) t1378.length co36)) (ds := []) (yz 6 0) (by kernel_rfl) rfl rfl ((blk_cell BK1383.out 0).trans rfl) (fun hHeld => ?_)
   generalize w43.drew = w44 at HO1380 BK1373 BK1383 HI1377 HB hHeld ⊢
   refine pure_ (i := 1) (N := some 30) (v := ?_) (a' := ?_) (yz 6 2) rfl rfl (by kernel_rfl) (fun _ _ _ h => h) (Or.inl ⟨by rfl, ?_⟩) ?_ ?_
   rotate_left
   ·intro w'
    go_simp
    with_reducible rfl
   rotate_left
   ·simp only [Act.put, qa, qb, qc, i64_w, i32_w]
    rfl
   refine take_ (i := 0) (N := some 29) (v := ?_) (a' := ?_) (yz 6 3) rfl rfl (by kernel_rfl) (fun _ _ _ h => h) (Or.inl ⟨by rfl, ?_⟩) hHeld ?_ ?_
   rotate_left
   ·intro w' s0
    go_simp
    with_reducible rfl
   rotate_left
   ·simp only [Act.put, qa, qb, qc, i64_w, i32_w]
    rfl
   refine one_ (i := 2) (N := some 31) (yz 6 7) rfl rfl (by kernel_rfl) (by decide) (fun K hK => ?_)
   refine gm Try.func156 #[.pointer (some ⟨g1377, 0, none⟩), .int .i64 6] ?_
   with_reducible refine (spec_l1Below.calls g1377 t1374 t1389 t1390 6 t1397 t1398 t1399 w _ ?side1 ?side2 A30.out).mono ?_
   (case side1 => exact iw HI1377.out)
   (case side2 => exact bv)
   rintro e w45 ⟨rfl, hi, hb, hk⟩
   refine ⟨_, rfl, ?_⟩
   replace BK1373 := kk hk BK1373 NB1373_1377
   replace HO1380 := am (Kd.R_mono (Kd.R_keep (IsS132.apart (show IsS132 w _ g1377 t1374 t1389 t1390 from (iw HI1377.out)) (ro HO1380.out) (by decide)) hk (fun _ h => h.2)) (fun _ h => h.1))
   replace BK1383 := kk hk BK1383 NB1383_1377
   replace HB := am (hb)
   replace HI1377 := am (hi)
   clear hb hk hi
   refine hK.out _ _ ((blk_cell BK1383.out 0).trans rfl) (fun hHeld => ?_)
   clear hK K
   refine norm_ (a' := ?_) ?_ ?_
   rotate_left
   ·show Act.put _ (some 31) _ = _
    simp only [Act.put, qa, qb, qc, i64_w, i32_w]
    rfl
   refine pure_ (i := 3) (N := some 32) (v := ?_) (a' := ?_) (yz 6 15) rfl rfl (by kernel_rfl) (fun _ _ _ h => h) (Or.inl ⟨by rfl, ?_⟩) ?_ ?_
   rotate_left
   ·intro w'
    go_simp
    with_reducible rfl
   rotate_left
   ·simp only [Act.put, qa, qb, qc, i64_w, i32_w]
    rfl
   refine one_ (i := 4) (N := some 33) (yz 6 31) rfl rfl (by kernel_rfl) (by decide) (fun K hK => ?_)
   refine gm Try.func231 #[.agg #[.slice (some ad1387) t1378.length co36], .int .i64 (wrap64 (1 + t1397))] ?_
   with_reducible refine (spec_ElementAt.calls k _ _ t1378 (wrap64 (1 + t1397)) t1400 _ ?side1 ?side2 A31.out).mono ?_
   (case side1 => exact co (Kd.R_reads' HO1380.out).2.2)
   (case side2 => exact (Kd.R_reads' HO1380.out).2.1)
   rintro e w46 ⟨rfl, hb⟩
   refine ⟨_, rfl, ?_⟩
   replace HO1380 := am (Kd.R_below (ro HO1380.out) hb)
   replace BK1373 := kb BK1373 hb
   replace BK1383 := kb BK1383 hb
   replace HB := am (below_step bv hb)
   replace HI1377 := am (IsS132.below (iw HI1377.out) hb)
   clear hb
   refine hK.out _ _ ((blk_cell BK1383.out 0).trans rfl) (fun hHeld => ?_)
   clear hK K
   refine norm_ (a' := ?_) ?_ ?_
   rotate_left
   ·show Act.put _ (some 33) _ = _
    simp only [Act.put, qa, qb, qc, i64_w, i32_w]
    rfl
   refine pure_ (i := 5) (N := some 6) (v := ?_) (a' := ?_) (yz 6 63) rfl rfl (by kernel_rfl) (fun _ _ _ h => h) (Or.inl ⟨by rfl, ?_⟩) ?_ ?_
   rotate_left
   ·intro w'
    go_simp
    with_reducible rfl
   rotate_left
   ·simp only [Act.put, qa, qb, qc, i64_w, i32_w]
    rfl
   refine done_ (by kernel_rfl) ?_
   have hcz47_0 := bc BK1383 0 (.slice (some ad1387) t1378.length co36)
   have hfz47_0 := blk_frozen BK1383.out 0
   have hnb48 := NB1373_1377.out
   have hnc48 := NB1377_1373.out
   have hcz49_0 := bc BK1373 0 (.slice none 0 0)
   have hfz49_0 := blk_frozen BK1373.out 0
   try go_wp2
   refine bodyPost_ret (results_ct rfl _ _ gb1373 26 #[.slice (some ad1387) t1378.length co36] (0, 0) _ rfl (by (with_reducible repeat (first | refine blk_drewN ?_ _ | refine blk_drew ?_ | refine blk_alloc ?_ _)); refine blk_put (cs := #[.slice none 0 0]) ?_ 0 _ rfl; (with_reducible repeat (first | refine blk_drewN ?_ _ | refine blk_drew ?_ | refine blk_alloc ?_ _)); exact BK1373.out) Try.underlying26 rfl (by kernel_rfl)) rfl ?_
   exact ⟨_, re, Kd.Q_of_R (by (with_reducible repeat (first | apply Kd.R_alloc | apply Kd.R_drewN | apply Kd.R_drew)); exact Kd.R_mono (Kd.R_far (p := ⟨gb1373, 0, none⟩) (Kd.R_types HO1380.out BK1373.out (by decide)) (fun _ hk => hk.2) (.slice (some ad1387) t1378.length co36)) (fun _ hk => trivial)), bv⟩
  ·rw [if_neg c29] at H
   have c29b0 : (t1388 == 1) = false := beq_eq_false_iff_ne.mpr c29
   have c29b1 : (t1388 != 1) = true := bne_iff_ne.mpr c29
   by_cases c50 : t1388 = 2
   ·rw [if_pos c50] at H
    have c50b0 : (t1388 == 2) = true := beq_iff_eq.mpr c50
    have c50b1 : (t1388 != 2) = false := bne_eq_false_iff_eq.mpr c50
    clear c50
    replace H := ga H; obtain ⟨⟨t1401, t1404, t1405⟩, A51, H⟩ := H
    replace H : (some (t1401, rd t1378 t1384)) = some (r1, r2) := H
    simp only [Option.some.injEq, Prod.mk.injEq] at H
    obtain ⟨rfl, rfl⟩ := H
    go_enter Try.func207, Try.ntmps207
    try go_wp2_with (first | ((with_reducible refine gate_dst (N := 2) rfl ?_); refine bx 2 #[.slice none 0 0] 26 ?_; intro gb1373 hg w52 hbox hb; have BK1373 := am (hbox); have GW1373 := am (gs hg : w.heap.size ≤ gb1373); have GE1373 := GW1373; replace HB := am (below_step bw hb); clear hb hbox hg) | ((with_reducible refine gate_callee (f := 131) rfl ?_); refine gl (some 8) Try.func131 #[.slice A0 l0.length c0] ?_; (with_reducible refine (spec_l1New.calls k _ _ l0 t1374 t1375 t1376 w _ ?side1 ?side2 ?side3 A2.out).mono ?_); (case side1 => exact bw); (case side2 => exact HR0.out); (case side3 => exact HC0.out); rintro e w53 ⟨g1377, rfl, hi, hb, hb2⟩; refine ⟨_, rfl, ?_⟩; replace HB := am (hb); have HI1377 := am (hi); have NB1377_1373 := am (IsS132.ne_blk hi (blk_below (g := gb1373) (o := .cells #[.slice none 0 0] 26 (0, 0)) (bo BK1373.out) hb2) (by decide)); have NB1373_1377 := ns NB1377_1373; replace BK1373 := kb BK1373 hb2; clear hb hb2 hi) | ((with_reducible refine gate_callee (f := 213) rfl ?_); refine gl (some 10) Try.func213 #[.pointer (some ⟨g1377, 0, none⟩)] ?_; (with_reducible refine (spec_l3Draw.calls k g1377 t1374 t1375 t1376 t1378 t1381 t1382 w _ ?side1 ?side2 A3.out).mono ?_); (case side1 => exact iw HI1377.out); (case side2 => exact bv); rintro e w54 ⟨v1379, rfl, ho0, hi, hb, hk⟩; refine ⟨_, rfl, ?_⟩; replace BK1373 := kk hk BK1373 NB1373_1377; have HO1380 := am (Kd.R_lower ho0 (below_size bv)); replace HB := am (hb); replace HI1377 := am (hi); clear hb hk hi ho0) | ((with_reducible refine gate_dst (N := 5) rfl ?_); refine bx 5 #[.slice none 0 0] 26 ?_; intro gb1383 hg w55 hbox hb; replace HO1380 := am (Kd.R_below (ro HO1380.out) hb); have BK1383 := am (hbox); have GW1383 := am ((by rw [hg]; exact (below_size bv) : w.heap.size ≤ gb1383)); have GE1383 := GW1383; replace HB := am (below_step bv hb); have NB1373_1383 := nl hg BK1373; have NB1383_1373 := ns NB1373_1383; replace BK1373 := kb BK1373 hb; have NB1377_1383 := am ((by rw [hg]; exact Nat.ne_of_lt (IsS132.lt (show IsS132 w _ g1377 t1374 t1381 t1382 from (iw HI1377.out))) : g1377 ≠ gb1383)); have NB1383_1377 := ns NB1377_1383; replace HI1377 := am (IsS132.below (iw HI1377.out) hb); clear hb hbox hg; obtain ⟨Ao56, co56, eo56⟩ := Kd.R_slice HO1380.out; subst eo56; have hnb57 := NB1383_1373.out; have hnc57 := NB1373_1383.out; have hnb58 := NB1383_1377.out; have hnc58 := NB1377_1383.out; have hcz59_0 := bc BK1383 0 (.slice none 0 0); have hfz59_0 := blk_frozen BK1383.out 0))
    have n0_ : Aside0 (Kd.R (Kd.int .i64) 3 (w55.setCell ⟨gb1383, 0, none⟩ (.slice Ao56 t1378.length co56)) w.heap.size (fun _ => True) (.slice Ao56 t1378.length co56) t1378) := ⟨by (with_reducible repeat (first | apply Kd.R_alloc | apply Kd.R_drewN | apply Kd.R_drew)); exact Kd.R_mono (Kd.R_far (p := ⟨gb1383, 0, none⟩) (Kd.R_types HO1380.out BK1383.out (by decide)) (fun _ hk => hk.2) (.slice Ao56 t1378.length co56)) (fun _ hk => trivial)⟩
    have n1_ : Aside0 ((w55.setCell ⟨gb1383, 0, none⟩ (.slice Ao56 t1378.length co56)).heap[gb1373]? = some (.cells #[.slice none 0 0] 26 (0, 0))) := ⟨bf BK1373.out⟩
    have n2_ : Aside0 ((w55.setCell ⟨gb1383, 0, none⟩ (.slice Ao56 t1378.length co56)).heap[gb1383]? = some (.cells #[.slice Ao56 t1378.length co56] 26 (0, 0))) := ⟨by (with_reducible repeat (first | refine blk_drewN ?_ _ | refine blk_drew ?_ | refine blk_alloc ?_ _)); refine blk_put (cs := #[.slice none 0 0]) ?_ 0 _ rfl; (with_reducible repeat (first | refine blk_drewN ?_ _ | refine blk_drew ?_ | refine blk_alloc ?_ _)); exact BK1383.out⟩
    have n3_ : Aside0 (IsS132 w (w55.setCell ⟨gb1383, 0, none⟩ (.slice Ao56 t1378.length co56)) g1377 t1374 t1381 t1382) := ⟨(iw HI1377.out)⟩
    have n4_ : Aside0 (Below w.heap.size w (w55.setCell ⟨gb1383, 0, none⟩ (.slice Ao56 t1378.length co56))) := ⟨bv⟩
    (try clear HO1380); (try clear BK1373); (try clear BK1383); (try clear HI1377); (try clear HB)
    generalize (w55.setCell ⟨gb1383, 0, none⟩ (.slice Ao56 t1378.length co56)) = w60 at n0_ n1_ n2_ n3_ n4_ ⊢
    have HO1380 := n0_
    have BK1373 := n1_
    have BK1383 := n2_
    have HI1377 := n3_
    have HB := n4_
    clear n0_ n1_ n2_ n3_ n4_
    replace HO1380 := am (Kd.R_drew HO1380.out)
    replace BK1373 := am (blk_drew BK1373.out)
    replace BK1383 := am (blk_drew BK1383.out)
    replace HI1377 := am (IsS132.drew HI1377.out)
    replace HB := am (below_drew1 HB.out)
    obtain ⟨⟨ad1387, e1387, hx1387_0⟩, p1387, q1387⟩ := pq (Kd.at_int (Kd.R_reads' HO1380.out).2.2 t1384)
    cases e1387
    refine start_ (n := 10) (S := fun w' => w'.cell? ⟨gb1383, 0, none⟩ = some (.slice (some ad1387) t1378.length co56) ∧ w'.cell? (ad1387.add (t1384).toNat) = some (.int .i64 (rd t1378 t1384))) (ds := []) (yz 10 0) (by kernel_rfl) rfl rfl ⟨(blk_cell BK1383.out 0).trans rfl, hx1387_0⟩ (fun hHeld => ?_); refine with_tabW spec_l6Case.tab3 spec_l6Case.bits3 (fun HT_ HW_ => ?_)
    generalize w60.drew = w61 at HO1380 BK1373 BK1383 HI1377 HB hx1387_0 hHeld ⊢
    refine pa 0 (some 11) (yz 10 1) HT_ ?_
    refine pa 2 (some 13) (yz 10 5) HT_ ?_
    refine pa 3 (some 14) (yz 10 13) HT_ ?_
    refine take_ (i := 1) (N := some 12) (v := ?_) (a' := ?_) (yz 10 15) rfl rfl (take_ofW HT_.out HW_.out (by kernel_rfl)) (fun _ _ _ h => h) (Or.inl ⟨by rfl, ?_⟩) hHeld ?_ ?_
    rotate_left
    ·rintro w' ⟨s0, s1⟩
     go_simp
     with_reducible rfl
    rotate_left
    ·simp only [Act.put, qa, qb, qc, i64_w, i32_w]
     rfl
    refine take_ (i := 4) (N := some 15) (v := ?_) (a' := ?_) (yz 10 31) rfl rfl (take_ofW HT_.out HW_.out (by kernel_rfl)) (fun _ _ _ h => h) (Or.inl ⟨by rfl, ?_⟩) hHeld ?_ ?_
    rotate_left
    ·rintro w' ⟨s0, s1⟩
     go_simp
     with_reducible rfl
    rotate_left
    ·simp only [Act.put, qa, qb, qc, i64_w, i32_w]
     rfl
    refine pa 5 (some 16) (yz 10 63) HT_ ?_
    refine oa 6 (some 17) (yz 10 127) HT_ (fun K hK => ?_)
    refine gm Try.func156 #[.pointer (some ⟨g1377, 0, none⟩), .int .i64 (t1378.length : Int)] ?_
    with_reducible refine (spec_l1Below.calls g1377 t1374 t1381 t1382 (t1378.length : Int) t1384 t1385 t1386 w _ ?side1 ?side2 A4.out).mono ?_
    (case side1 => exact iw HI1377.out)
    (case side2 => exact bv)
    rintro e w62 ⟨rfl, hi, hb, hk⟩
    have HS1_ := keep_cell hk (hHeld.2) (by first | (rw [add_block]; exact Kd.own_blk (IsS132.own_ne HI1377.out HO1380.out (by decide))) | (show (Addr.add _ _).block ≠ _; rw [add_block]; exact Kd.own_blk (IsS132.own_ne HI1377.out HO1380.out (by decide))) | exact Kd.own_blk (IsS132.own_ne HI1377.out HO1380.out (by decide)))
    refine ⟨_, rfl, ?_⟩
    replace BK1373 := kk hk BK1373 NB1373_1377
    replace HO1380 := am (Kd.R_mono (Kd.R_keep (IsS132.apart (show IsS132 w _ g1377 t1374 t1381 t1382 from (iw HI1377.out)) (ro HO1380.out) (by decide)) hk (fun _ h => h.2)) (fun _ h => h.1))
    replace BK1383 := kk hk BK1383 NB1383_1377
    replace HB := am (hb)
    replace HI1377 := am (hi)
    clear hb hk hi
    refine hK.out _ _ ⟨(blk_cell BK1383.out 0).trans rfl, HS1_⟩ (fun hHeld => ?_)
    clear hK K
    refine norm_ (a' := ?_) ?_ ?_
    rotate_left
    ·show Act.put _ (some 17) _ = _
     simp only [Act.put, qa, qb, qc, i64_w, i32_w]
     rfl
    refine pa 7 (some 18) (yz 10 255) HT_ ?_
    refine take_ (i := 8) (N := some 19) (v := ?_) (a' := ?_) (yz 10 511) rfl rfl (take_ofW HT_.out HW_.out (by kernel_rfl)) (fun _ _ _ h => h) (Or.inl ⟨by rfl, ?_⟩) hHeld ?_ ?_
    rotate_left
    ·rintro w' ⟨s0, s1⟩
     go_simp
     with_reducible rfl
    rotate_left
    ·simp only [Act.put, qa, qb, qc, i64_w, i32_w]
     rfl
    refine pa 9 (some 6) (yz 10 1023) HT_ ?_
    refine done_ (done_of HT_.out (by kernel_rfl)) ?_
    try go_wp2_with (first | ((with_reducible refine gate_callee (f := 156) rfl ?_); refine gl (some 21) Try.func156 #[.pointer (some ⟨g1377, 0, none⟩), .int .i64 8] ?_; (with_reducible refine (spec_l1Below.calls g1377 t1374 t1385 t1386 8 t1388 t1389 t1390 w _ ?side1 ?side2 A7.out).mono ?_); (case side1 => exact iw HI1377.out); (case side2 => exact bv); rintro e w63 ⟨rfl, hi, hb, hk⟩; refine ⟨_, rfl, ?_⟩; replace BK1373 := kk hk BK1373 NB1373_1377; replace HO1380 := am (Kd.R_mono (Kd.R_keep (IsS132.apart (show IsS132 w _ g1377 t1374 t1385 t1386 from (iw HI1377.out)) (ro HO1380.out) (by decide)) hk (fun _ h => h.2)) (fun _ h => h.1)); replace BK1383 := kk hk BK1383 NB1383_1377; replace HB := am (hb); replace HI1377 := am (hi); clear hb hk hi) | ((with_reducible refine gate_callee (f := 130) rfl ?_); refine gl (some 37) Try.func130 #[.pointer (some ⟨g1377, 0, none⟩)] ?_; (with_reducible refine (spec_l3Bent.calls k g1377 t1374 t1389 t1390 t1401 t1404 t1405 w _ ?side1 ?side2 A51.out).mono ?_); (case side1 => exact iw HI1377.out); (case side2 => exact bv); rintro e w64 ⟨v1402, rfl, ho0, hi, hb, hk⟩; refine ⟨_, rfl, ?_⟩; replace BK1373 := kk hk BK1373 NB1373_1377; replace BK1383 := kk hk BK1383 NB1383_1377; have HO1403 := am (Kd.Q_lower (Kd.Q_new' ho0 (Kd.R_lt (ro HO1380.out))) (below_size bv)); replace HO1380 := am (Kd.R_mono (Kd.R_told (Kd.R_oldK (IsS132.apart (show IsS132 w _ g1377 t1374 t1389 t1390 from (iw HI1377.out)) (ro HO1380.out) (by decide)) hk) (Kd.Q_base ho0)) (fun _ h_ => h_.1)); replace HB := am (hb); replace HI1377 := am (hi); clear hb hk hi ho0; obtain ⟨Ao65, co65, eo65, _⟩ := Kd.Q_slice HO1403.out; subst eo65; have hcz66_0 := bc BK1383 0 (.slice (some ad1387) t1378.length co56); have hfz66_0 := blk_frozen BK1383.out 0; have hnb67 := NB1373_1377.out; have hnc67 := NB1377_1373.out; have hcz68_0 := bc BK1373 0 (.slice none 0 0); have hfz68_0 := blk_frozen BK1373.out 0))
    refine bodyPost_ret (results_ct rfl _ _ gb1373 26 #[.slice Ao65 t1401.length co65] (0, 0) _ rfl (by (with_reducible repeat (first | refine blk_drewN ?_ _ | refine blk_drew ?_ | refine blk_alloc ?_ _)); refine blk_put (cs := #[.slice none 0 0]) ?_ 0 _ rfl; (with_reducible repeat (first | refine blk_drewN ?_ _ | refine blk_drew ?_ | refine blk_alloc ?_ _)); refine blk_far ?_ NB1373_1383.out _; (with_reducible repeat (first | refine blk_drewN ?_ _ | refine blk_drew ?_ | refine blk_alloc ?_ _)); exact BK1373.out) Try.underlying26 rfl (by kernel_rfl)) rfl ?_
    exact ⟨_, re, by (with_reducible repeat (first | apply Kd.Q_alloc | apply Kd.Q_drewN | apply Kd.Q_drew)); exact Kd.Q_mono (Kd.Q_far (p := ⟨gb1373, 0, none⟩) (Kd.Q_far (p := ⟨gb1383, 0, none⟩) (Kd.Q_types (Kd.Q_types HO1403.out BK1383.out (by decide)) BK1373.out (by decide)) (fun _ hk => by first | exact hk.1.2 | simp_all) (.slice Ao65 t1401.length co65)) (fun _ hk => hk.2) (.slice Ao65 t1401.length co65)) (fun _ hk => trivial), bv⟩
   ·rw [if_neg c50] at H
    have c50b0 : (t1388 == 2) = false := beq_eq_false_iff_ne.mpr c50
    have c50b1 : (t1388 != 2) = true := bne_iff_ne.mpr c50
    simp only [Option.some.injEq, Prod.mk.injEq] at H
    obtain ⟨rfl, rfl⟩ := H
    go_enter Try.func207, Try.ntmps207
    try go_wp2_with (first | ((with_reducible refine gate_dst (N := 2) rfl ?_); refine bx 2 #[.slice none 0 0] 26 ?_; intro gb1373 hg w69 hbox hb; have BK1373 := am (hbox); have GW1373 := am (gs hg : w.heap.size ≤ gb1373); have GE1373 := GW1373; replace HB := am (below_step bw hb); clear hb hbox hg) | ((with_reducible refine gate_callee (f := 131) rfl ?_); refine gl (some 8) Try.func131 #[.slice A0 l0.length c0] ?_; (with_reducible refine (spec_l1New.calls k _ _ l0 t1374 t1375 t1376 w _ ?side1 ?side2 ?side3 A2.out).mono ?_); (case side1 => exact bw); (case side2 => exact HR0.out); (case side3 => exact HC0.out); rintro e w70 ⟨g1377, rfl, hi, hb, hb2⟩; refine ⟨_, rfl, ?_⟩; replace HB := am (hb); have HI1377 := am (hi); have NB1377_1373 := am (IsS132.ne_blk hi (blk_below (g := gb1373) (o := .cells #[.slice none 0 0] 26 (0, 0)) (bo BK1373.out) hb2) (by decide)); have NB1373_1377 := ns NB1377_1373; replace BK1373 := kb BK1373 hb2; clear hb hb2 hi) | ((with_reducible refine gate_callee (f := 213) rfl ?_); refine gl (some 10) Try.func213 #[.pointer (some ⟨g1377, 0, none⟩)] ?_; (with_reducible refine (spec_l3Draw.calls k g1377 t1374 t1375 t1376 t1378 t1381 t1382 w _ ?side1 ?side2 A3.out).mono ?_); (case side1 => exact iw HI1377.out); (case side2 => exact bv); rintro e w71 ⟨v1379, rfl, ho0, hi, hb, hk⟩; refine ⟨_, rfl, ?_⟩; replace BK1373 := kk hk BK1373 NB1373_1377; have HO1380 := am (Kd.R_lower ho0 (below_size bv)); replace HB := am (hb); replace HI1377 := am (hi); clear hb hk hi ho0) | ((with_reducible refine gate_dst (N := 5) rfl ?_); refine bx 5 #[.slice none 0 0] 26 ?_; intro gb1383 hg w72 hbox hb; replace HO1380 := am (Kd.R_below (ro HO1380.out) hb); have BK1383 := am (hbox); have GW1383 := am ((by rw [hg]; exact (below_size bv) : w.heap.size ≤ gb1383)); have GE1383 := GW1383; replace HB := am (below_step bv hb); have NB1373_1383 := nl hg BK1373; have NB1383_1373 := ns NB1373_1383; replace BK1373 := kb BK1373 hb; have NB1377_1383 := am ((by rw [hg]; exact Nat.ne_of_lt (IsS132.lt (show IsS132 w _ g1377 t1374 t1381 t1382 from (iw HI1377.out))) : g1377 ≠ gb1383)); have NB1383_1377 := ns NB1377_1383; replace HI1377 := am (IsS132.below (iw HI1377.out) hb); clear hb hbox hg; obtain ⟨Ao73, co73, eo73⟩ := Kd.R_slice HO1380.out; subst eo73; have hnb74 := NB1383_1373.out; have hnc74 := NB1373_1383.out; have hnb75 := NB1383_1377.out; have hnc75 := NB1377_1383.out; have hcz76_0 := bc BK1383 0 (.slice none 0 0); have hfz76_0 := blk_frozen BK1383.out 0))
    have n0_ : Aside0 (Kd.R (Kd.int .i64) 3 (w72.setCell ⟨gb1383, 0, none⟩ (.slice Ao73 t1378.length co73)) w.heap.size (fun _ => True) (.slice Ao73 t1378.length co73) t1378) := ⟨by (with_reducible repeat (first | apply Kd.R_alloc | apply Kd.R_drewN | apply Kd.R_drew)); exact Kd.R_mono (Kd.R_far (p := ⟨gb1383, 0, none⟩) (Kd.R_types HO1380.out BK1383.out (by decide)) (fun _ hk => hk.2) (.slice Ao73 t1378.length co73)) (fun _ hk => trivial)⟩
    have n1_ : Aside0 ((w72.setCell ⟨gb1383, 0, none⟩ (.slice Ao73 t1378.length co73)).heap[gb1373]? = some (.cells #[.slice none 0 0] 26 (0, 0))) := ⟨bf BK1373.out⟩
    have n2_ : Aside0 ((w72.setCell ⟨gb1383, 0, none⟩ (.slice Ao73 t1378.length co73)).heap[gb1383]? = some (.cells #[.slice Ao73 t1378.length co73] 26 (0, 0))) := ⟨by (with_reducible repeat (first | refine blk_drewN ?_ _ | refine blk_drew ?_ | refine blk_alloc ?_ _)); refine blk_put (cs := #[.slice none 0 0]) ?_ 0 _ rfl; (with_reducible repeat (first | refine blk_drewN ?_ _ | refine blk_drew ?_ | refine blk_alloc ?_ _)); exact BK1383.out⟩
    have n3_ : Aside0 (IsS132 w (w72.setCell ⟨gb1383, 0, none⟩ (.slice Ao73 t1378.length co73)) g1377 t1374 t1381 t1382) := ⟨(iw HI1377.out)⟩
    have n4_ : Aside0 (Below w.heap.size w (w72.setCell ⟨gb1383, 0, none⟩ (.slice Ao73 t1378.length co73))) := ⟨bv⟩
    (try clear HO1380); (try clear BK1373); (try clear BK1383); (try clear HI1377); (try clear HB)
    generalize (w72.setCell ⟨gb1383, 0, none⟩ (.slice Ao73 t1378.length co73)) = w77 at n0_ n1_ n2_ n3_ n4_ ⊢
    have HO1380 := n0_
    have BK1373 := n1_
    have BK1383 := n2_
    have HI1377 := n3_
    have HB := n4_
    clear n0_ n1_ n2_ n3_ n4_
    replace HO1380 := am (Kd.R_drew HO1380.out)
    replace BK1373 := am (blk_drew BK1373.out)
    replace BK1383 := am (blk_drew BK1383.out)
    replace HI1377 := am (IsS132.drew HI1377.out)
    replace HB := am (below_drew1 HB.out)
    obtain ⟨⟨ad1387, e1387, hx1387_0⟩, p1387, q1387⟩ := pq (Kd.at_int (Kd.R_reads' HO1380.out).2.2 t1384)
    cases e1387
    refine start_ (n := 10) (S := fun w' => w'.cell? ⟨gb1383, 0, none⟩ = some (.slice (some ad1387) t1378.length co73) ∧ w'.cell? (ad1387.add (t1384).toNat) = some (.int .i64 (rd t1378 t1384))) (ds := []) (yz 10 0) (by kernel_rfl) rfl rfl ⟨(blk_cell BK1383.out 0).trans rfl, hx1387_0⟩ (fun hHeld => ?_); refine with_tabW spec_l6Case.tab3 spec_l6Case.bits3 (fun HT_ HW_ => ?_)
    generalize w77.drew = w78 at HO1380 BK1373 BK1383 HI1377 HB hx1387_0 hHeld ⊢
    refine pa 0 (some 11) (yz 10 1) HT_ ?_
    refine pa 2 (some 13) (yz 10 5) HT_ ?_
    refine pa 3 (some 14) (yz 10 13) HT_ ?_
    refine take_ (i := 1) (N := some 12) (v := ?_) (a' := ?_) (yz 10 15) rfl rfl (take_ofW HT_.out HW_.out (by kernel_rfl)) (fun _ _ _ h => h) (Or.inl ⟨by rfl, ?_⟩) hHeld ?_ ?_
    rotate_left
    ·rintro w' ⟨s0, s1⟩
     go_simp
     with_reducible rfl
    rotate_left
    ·simp only [Act.put, qa, qb, qc, i64_w, i32_w]
     rfl
    refine take_ (i := 4) (N := some 15) (v := ?_) (a' := ?_) (yz 10 31) rfl rfl (take_ofW HT_.out HW_.out (by kernel_rfl)) (fun _ _ _ h => h) (Or.inl ⟨by rfl, ?_⟩) hHeld ?_ ?_
    rotate_left
    ·rintro w' ⟨s0, s1⟩
     go_simp
     with_reducible rfl
    rotate_left
    ·simp only [Act.put, qa, qb, qc, i64_w, i32_w]
     rfl
    refine pa 5 (some 16) (yz 10 63) HT_ ?_
    refine oa 6 (some 17) (yz 10 127) HT_ (fun K hK => ?_)
    refine gm Try.func156 #[.pointer (some ⟨g1377, 0, none⟩), .int .i64 (t1378.length : Int)] ?_
    with_reducible refine (spec_l1Below.calls g1377 t1374 t1381 t1382 (t1378.length : Int) t1384 t1385 t1386 w _ ?side1 ?side2 A4.out).mono ?_
    (case side1 => exact iw HI1377.out)
    (case side2 => exact bv)
    rintro e w79 ⟨rfl, hi, hb, hk⟩
    have HS1_ := keep_cell hk (hHeld.2) (by first | (rw [add_block]; exact Kd.own_blk (IsS132.own_ne HI1377.out HO1380.out (by decide))) | (show (Addr.add _ _).block ≠ _; rw [add_block]; exact Kd.own_blk (IsS132.own_ne HI1377.out HO1380.out (by decide))) | exact Kd.own_blk (IsS132.own_ne HI1377.out HO1380.out (by decide)))
    refine ⟨_, rfl, ?_⟩
    replace BK1373 := kk hk BK1373 NB1373_1377
    replace HO1380 := am (Kd.R_mono (Kd.R_keep (IsS132.apart (show IsS132 w _ g1377 t1374 t1381 t1382 from (iw HI1377.out)) (ro HO1380.out) (by decide)) hk (fun _ h => h.2)) (fun _ h => h.1))
    replace BK1383 := kk hk BK1383 NB1383_1377
    replace HB := am (hb)
    replace HI1377 := am (hi)
    clear hb hk hi
    refine hK.out _ _ ⟨(blk_cell BK1383.out 0).trans rfl, HS1_⟩ (fun hHeld => ?_)
    clear hK K
    refine norm_ (a' := ?_) ?_ ?_
    rotate_left
    ·show Act.put _ (some 17) _ = _
     simp only [Act.put, qa, qb, qc, i64_w, i32_w]
     rfl
    refine pa 7 (some 18) (yz 10 255) HT_ ?_
    refine take_ (i := 8) (N := some 19) (v := ?_) (a' := ?_) (yz 10 511) rfl rfl (take_ofW HT_.out HW_.out (by kernel_rfl)) (fun _ _ _ h => h) (Or.inl ⟨by rfl, ?_⟩) hHeld ?_ ?_
    rotate_left
    ·rintro w' ⟨s0, s1⟩
     go_simp
     with_reducible rfl
    rotate_left
    ·simp only [Act.put, qa, qb, qc, i64_w, i32_w]
     rfl
    refine pa 9 (some 6) (yz 10 1023) HT_ ?_
    refine done_ (done_of HT_.out (by kernel_rfl)) ?_
    try go_wp2_with (first | ((with_reducible refine gate_callee (f := 156) rfl ?_); refine gl (some 21) Try.func156 #[.pointer (some ⟨g1377, 0, none⟩), .int .i64 8] ?_; (with_reducible refine (spec_l1Below.calls g1377 t1374 t1385 t1386 8 t1388 t1389 t1390 w _ ?side1 ?side2 A7.out).mono ?_); (case side1 => exact iw HI1377.out); (case side2 => exact bv); rintro e w80 ⟨rfl, hi, hb, hk⟩; refine ⟨_, rfl, ?_⟩; replace BK1373 := kk hk BK1373 NB1373_1377; replace HO1380 := am (Kd.R_mono (Kd.R_keep (IsS132.apart (show IsS132 w _ g1377 t1374 t1385 t1386 from (iw HI1377.out)) (ro HO1380.out) (by decide)) hk (fun _ h => h.2)) (fun _ h => h.1)); replace BK1383 := kk hk BK1383 NB1383_1377; replace HB := am (hb); replace HI1377 := am (hi); clear hb hk hi; have hcz81_0 := bc BK1383 0 (.slice (some ad1387) t1378.length co73); have hfz81_0 := blk_frozen BK1383.out 0; have hnb82 := NB1373_1377.out; have hnc82 := NB1377_1373.out; have hcz83_0 := bc BK1373 0 (.slice none 0 0); have hfz83_0 := blk_frozen BK1373.out 0))
    refine bodyPost_ret (results_ct rfl _ _ gb1373 26 #[.slice (some ad1387) t1378.length co73] (0, 0) _ rfl (by (with_reducible repeat (first | refine blk_drewN ?_ _ | refine blk_drew ?_ | refine blk_alloc ?_ _)); refine blk_put (cs := #[.slice none 0 0]) ?_ 0 _ rfl; (with_reducible repeat (first | refine blk_drewN ?_ _ | refine blk_drew ?_ | refine blk_alloc ?_ _)); exact BK1373.out) Try.underlying26 rfl (by kernel_rfl)) rfl ?_
    exact ⟨_, re, Kd.Q_of_R (by (with_reducible repeat (first | apply Kd.R_alloc | apply Kd.R_drewN | apply Kd.R_drew)); exact Kd.R_mono (Kd.R_far (p := ⟨gb1373, 0, none⟩) (Kd.R_types HO1380.out BK1373.out (by decide)) (fun _ hk => hk.2) (.slice (some ad1387) t1378.length co73)) (fun _ hk => trivial)), bv⟩


/-! ### spec_DrawExceedingOf: function 118 -/
def spec_DrawExceedingOf.f (k : Nat) (l0 : List Int) : Option (List Int × Int) := (spec_l6Case.f k l0).bind fun bt1407 => (some (bt1407.1, bt1407.2))
set_option maxHeartbeats 8000000 in
set_option maxRecDepth 100000 in
theorem spec_DrawExceedingOf.calls (k : Nat) (A0 : Option Addr) (c0 : Nat) (l0 : List Int) (r1 : List Int) (r2 : Int) (w : World) (hr0 : Kd.C (Kd.int .u8) w A0 l0.length l0) (hc0 : l0.length ≤ c0) (h : spec_DrawExceedingOf.f k l0 = some (r1, r2)) :
  Calls Try.prog 118 #[.slice A0 l0.length c0] w fun e w' => ∃ v0_ : Value, e = .returned (.tuple #[.agg #[v0_], .int .i64 r2]) ∧ Kd.Q (Kd.int .i64) 3 w' w.heap.size (fun _ => True) v0_ r1 ∧ Below w.heap.size w w' := by
 have hu26 := Try.underlying26
 have HR0 := am hr0
 have HC0 := am hc0
 clear hr0 hc0
 have HB := am (Below.refl w.heap.size w)
 have H : ((spec_l6Case.f k l0).bind fun bt1407 => (some (bt1407.1, bt1407.2))) = some (r1, r2) := h
 clear h
 replace H := ga H; obtain ⟨⟨t1407, t1410⟩, A2, H⟩ := H
 replace H : (some (t1407, t1410)) = some (r1, r2) := H
 simp only [Option.some.injEq, Prod.mk.injEq] at H
 obtain ⟨rfl, rfl⟩ := H
 go_enter Try.func118, Try.ntmps118
 go_wp2_with (first | ((with_reducible refine gate_dst (N := 2) rfl ?_); refine bx 2 #[.slice none 0 0] 26 ?_; intro gb1406 hg w3 hbox hb; have BK1406 := am (hbox); have GW1406 := am (gs hg : w.heap.size ≤ gb1406); have GE1406 := GW1406; replace HB := am (below_step bw hb); clear hb hbox hg) | ((with_reducible refine gate_callee (f := 207) rfl ?_); refine gl (some 8) Try.func207 #[.slice A0 l0.length c0] ?_; (with_reducible refine (spec_l6Case.calls k _ _ l0 t1407 t1410 _ ?side1 ?side2 A2.out).mono ?_); (case side1 => exact co (Kd.C_below HR0.out HB.out)); (case side2 => exact HC0.out); rintro e w4 ⟨v1408, rfl, ho0, hb⟩; refine ⟨_, rfl, ?_⟩; have HO1409 := am (Kd.Q_lower ho0 (below_size bw)); replace BK1406 := kb BK1406 hb; replace HB := am (below_step bw hb); clear hb ho0) | ((with_reducible refine gate_dst (N := 4) rfl ?_); refine bx 4 #[.slice none 0 0] 26 ?_; intro gb1411 hg w5 hbox hb; replace HO1409 := am (Kd.Q_below (qo HO1409.out) hb); have BK1411 := am (hbox); have GW1411 := am (gs hg : w.heap.size ≤ gb1411); have GE1411 := GW1411; replace HB := am (below_step bw hb); have NB1406_1411 := nl hg BK1406; have NB1411_1406 := ns NB1406_1411; replace BK1406 := kb BK1406 hb; clear hb hbox hg; obtain ⟨Ao6, co6, eo6, _⟩ := Kd.Q_slice HO1409.out; subst eo6; have hnb7 := NB1411_1406.out; have hnc7 := NB1406_1411.out; have hcz8_0 := bc BK1411 0 (.slice none 0 0); have hfz8_0 := blk_frozen BK1411.out 0; have hcz9_0 := bc BK1406 0 (.slice none 0 0); have hfz9_0 := blk_frozen BK1406.out 0))
 refine bodyPost_ret (results_ct rfl _ _ gb1406 26 #[.slice Ao6 t1407.length co6] (0, 0) _ rfl (by (with_reducible repeat (first | refine blk_drewN ?_ _ | refine blk_drew ?_ | refine blk_alloc ?_ _)); refine blk_put (cs := #[.slice none 0 0]) ?_ 0 _ rfl; (with_reducible repeat (first | refine blk_drewN ?_ _ | refine blk_drew ?_ | refine blk_alloc ?_ _)); refine blk_far ?_ NB1406_1411.out _; (with_reducible repeat (first | refine blk_drewN ?_ _ | refine blk_drew ?_ | refine blk_alloc ?_ _)); exact BK1406.out) Try.underlying26 rfl (by kernel_rfl)) rfl ?_
 exact ⟨_, re, by (with_reducible repeat (first | apply Kd.Q_alloc | apply Kd.Q_drewN | apply Kd.Q_drew)); exact Kd.Q_mono (Kd.Q_far (p := ⟨gb1406, 0, none⟩) (Kd.Q_far (p := ⟨gb1411, 0, none⟩) (Kd.Q_types (Kd.Q_types HO1409.out BK1411.out (by decide)) BK1406.out (by decide)) (fun _ hk => by first | exact hk.1.2 | simp_all) (.slice Ao6 t1407.length co6)) (fun _ hk => hk.2) (.slice Ao6 t1407.length co6)) (fun _ hk => trivial), bw⟩


/-! ### impl_MaximalOf: function 121 -/
def impl_MaximalOf.p (p : Int → Option Bool) (x y : Int) : Option Bool := p (wrap64 (y - x))
def impl_MaximalOf.f (k : Nat) (l0_0 l1 : List Int) : Option (List Int) := (impl_reach.f k l0_0).bind fun p => impl_extreme.f k l0_0 l1 (impl_MaximalOf.p p)
set_option maxHeartbeats 8000000 in
theorem impl_MaximalOf.c1 (w : World) (g : Nat) (F : Value) (p : Int → Option Bool) (hbox : w.heap[g]? = some (.cells #[F] 106 (0, 0))) (hF : FnR1 Try.prog w F p) : FnR2 Try.prog w (.func (.func 209) #[] #[.pointer (some ⟨g, 0, none⟩)]) (impl_MaximalOf.p p) :=
 ⟨209, _, rfl, (fun args w => enters_ Try.func209 (by kernel_rfl) rfl args w), fun W hb x y b h => by
  obtain ⟨gF, lF, rfl, eF, hF⟩ := hF
  have hcz : W.cell? ⟨g, 0, none⟩ = some (.func (.func gF) #[] lF) := (blk_cell (blk_below hbox hb) 0).trans rfl
  have HB := Aside0.mk hb
  have h : p (wrap64 (y - x)) = some b := h
  clear hbox hb
  show Calls Try.prog 209 #[.int .i64 x, .int .i64 y, .pointer (some ⟨g, 0, none⟩)] W _
  go_enter Try.func209, Try.ntmps209
  go_wp2_with (first | (go_at_fn gF; (with_reducible refine (hF _ bw (wrap64 (y - x)) b h).mono ?_); rintro e w' ⟨rfl, ⟨nd, rfl⟩⟩))
  go_ret
  exact ⟨re, dw⟩⟩
set_option maxHeartbeats 8000000 in
set_option maxRecDepth 100000 in
theorem impl_MaximalOf.calls (k : Nat) (A0_0 : Option Addr) (c0_0 : Nat) (l0_0 : List Int) (A1 : Option Addr) (c1 : Nat) (l1 : List Int) (r : List Int) (w : World) (hr0_0 : Kd.C (Kd.int .i64) w A0_0 l0_0.length l0_0) (hc0_0 : l0_0.length ≤ c0_0) (hr1 : Kd.C (Kd.int .i64) w A1 l1.length l1) (hc1 : l1.length ≤ c1) (h : impl_MaximalOf.f k l0_0 l1 = some r) :
  Calls Try.prog 121 #[.agg #[.slice A0_0 l0_0.length c0_0], .slice A1 l1.length c1] w fun e w' => ∃ v0_ : Value, e = .returned v0_ ∧ Kd.R (Kd.int .i64) 3 w' w.heap.size (fun _ => True) v0_ r ∧ Below w.heap.size w w' := by
 have hu27 := Try.underlying26
 have HR0_0 := Aside0.mk hr0_0
 have HC0_0 := Aside0.mk hc0_0
 have HR1 := Aside0.mk hr1
 have HC1 := Aside0.mk hc1
 clear hr0_0 hc0_0 hr1 hc1
 have HB := Aside0.mk (Below.refl w.heap.size w)
 have H : ((impl_reach.f k l0_0).bind fun p => impl_extreme.f k l0_0 l1 (impl_MaximalOf.p p)) = some r := h
 clear h
 replace H := ga H; obtain ⟨t1, A1_, H⟩ := H
 have A2_ := Aside0.mk H
 clear H
 go_enter Try.func121, Try.ntmps121
 go_wp2_with (first | ((with_reducible refine gate_dst (N := 2) rfl ?_); refine bx 2 #[.slice A0_0 l0_0.length c0_0] 26 ?_; intro gb1 hg w1 hbox hb; have BK1 := Aside0.mk hbox; replace HB := Aside0.mk (below_step bw hb); clear hb hbox hg; have hcz1 := bc BK1 0 (.slice A0_0 l0_0.length c0_0); have hfz1 := blk_frozen BK1.out 0) | ((with_reducible refine gate_callee (f := 152) rfl ?_); refine gl (some 7) Try.func152 #[.agg #[.slice A0_0 l0_0.length c0_0]] ?_; (with_reducible refine (impl_reach.calls k _ _ l0_0 t1 _ ?side1 ?side2 A1_.out).mono ?_); (case side1 => exact co (Kd.C_below HR0_0.out HB.out)); (case side2 => exact HC0_0.out); rintro e w2 ⟨F_t1, rfl, hF_t1, hb⟩; refine ⟨_, rfl, ?_⟩; clear hcz1 hfz1; replace BK1 := Aside0.mk (blk_below (g := gb1) (o := .cells #[.slice A0_0 l0_0.length c0_0] 26 (0, 0)) (bo BK1.out) hb); have HW_ := Aside0.mk (below_step bw hb : Below w.heap.size w w2); replace HR0_0 := Aside0.mk (Kd.C_below HR0_0.out HW_.out); replace HR1 := Aside0.mk (Kd.C_below HR1.out HW_.out); clear HB hb; have HB := Aside0.mk (Below.refl w2.heap.size w2); obtain ⟨gF, lF, eF_⟩ : ∃ g lb, F_t1 = .func (.func g) #[] lb := (by obtain ⟨g, lb, h, _⟩ := hF_t1; exact ⟨g, lb, h⟩); subst eF_; have HF_ := Aside0.mk hF_t1; clear hF_t1; obtain ⟨w, rfl⟩ : ∃ x_, x_ = w2 := ⟨_, rfl⟩; have hcz1 := bc BK1 0 (.slice A0_0 l0_0.length c0_0); have hfz1 := blk_frozen BK1.out 0) | ((with_reducible refine gate_dst (N := 5) rfl ?_); refine bx 5 #[.nilFunc] 106 ?_; intro gb2 hg w3 hbox hb; have GE2 := Aside0.mk (gs hg : w.heap.size ≤ gb2); have NB12 := Aside0.mk ((by rw [hg]; exact Nat.ne_of_lt (blk_lt (g := gb1) (o := .cells #[.slice A0_0 l0_0.length c0_0] 26 (0, 0)) (bo BK1.out)) : gb1 ≠ gb2)); clear hcz1 hfz1; replace BK1 := Aside0.mk (blk_below (g := gb1) (o := .cells #[.slice A0_0 l0_0.length c0_0] 26 (0, 0)) (bo BK1.out) hb); have BK2 := Aside0.mk hbox; replace HB := Aside0.mk (below_step bw hb); clear hb hbox hg; have hnb1 := NB12.out; have hnc1 := NB12.out.symm; have hcz1 := bc BK1 0 (.slice A0_0 l0_0.length c0_0); have hfz1 := blk_frozen BK1.out 0; have hcz2 := bc BK2 0 .nilFunc; have hfz2 := blk_frozen BK2.out 0) | ((with_reducible refine gate_callee (f := 208) rfl ?_); refine gl (some 11) Try.func208 #[.agg #[.slice A0_0 l0_0.length c0_0], .slice A1 l1.length c1, .func (.func 209) #[] #[.pointer (some ⟨gb2, 0, none⟩)]] ?_; (with_reducible refine (impl_extreme.calls k _ _ l0_0 _ _ l1 (impl_MaximalOf.p t1) (.func (.func 209) #[] #[.pointer (some ⟨gb2, 0, none⟩)]) r _ ?side1 ?side2 ?side3 ?side4 ?side5 A2_.out).mono ?_); (case side1 => exact Kd.C_below HR0_0.out bw); (case side2 => exact HC0_0.out); (case side3 => exact Kd.C_below HR1.out bw); (case side4 => exact HC1.out); (case side5 => exact impl_MaximalOf.c1 _ gb2 (.func (.func gF) #[] lF) t1 (by (with_reducible repeat (first | refine blk_drewN ?_ _ | refine blk_drew ?_ | refine blk_alloc ?_ _)); exact blk_put (cs := #[.nilFunc]) (bo BK2.out) 0 _ rfl) (FnR1.below HF_.out bw)); rintro e w4 ⟨v, rfl, ho0, hb⟩; refine ⟨_, rfl, ?_⟩; have HO := Aside0.mk (Kd.R_lower ho0 (below_size bw)); replace HB := Aside0.mk (below_step bw hb); clear hb ho0))
 go_ret
 exact ⟨_, rfl, Kd.R_lower (ro HO.out) (below_size HW_.out), below_step HW_.out bw⟩

end Go.Proofs.Ytkfplkdchkmgbaa.C
