/- Contracts of functions of the program: spec_l2Draw, spec_l2Bent, spec_DrawSeriesFrom, spec_DrawIsPalindrome, spec_DrawMultiplyLists, spec_DrawEulerAt, spec_DrawEulerList, impl_product, impl_total, slices_Clip_int_int. -/
import Derived.Test.YtbbehmbpoilffaaC0
import Derived.Test.YtbbehmbpoilffaaC1
import Derived.Test.YtbbehmbpoilffaaC5
import Derived.Test.YtbbehmbpoilffaaC6
namespace Go.Proofs.Ytbbehmbpoilffaa.C
open Go.RowKit Go.Proofs.YtbbehmbpoilffaaW.PrintWords Go.Proofs.YtbbehmbpoilffaaW.PrintLast Go.Proofs.YtbbehmbpoilffaaW.PrintMore
attribute [local go_sem] max2_int min2_int max_two min_two max_three min_three max_four min_four
set_option linter.unusedVariables false
set_option linter.unusedSimpArgs false

/-! ### spec_l2Draw: function 71 -/
def spec_l2Draw.l0 : Nat → List Int → Int → Int → List Int → Int → Int → Option (List Int × Int × Int)
 | 0, _, _, _, _, _, _ => none
 | k + 1, x3, x4, x5, x1000, x1001, x1002 => if x5 < x4 then ((spec_l1Below.f x1000 x1001 x1002 25).bind fun bt462 => (if x3.length < 17592186044416 then (spec_l2Draw.l0 k (x3 ++ [wrap64 (bt462.1 - 4)]) x4 (wrap64 (x5 + 1)) x1000 bt462.2.1 bt462.2.2) else (none))) else (some (x3, x1001, x1002))
def spec_l2Draw.f (k : Nat) (s0_0 : List Int) (s0_1 : Int) (s0_2 : Int) : Option (List Int × Int × Int) := (spec_l1Below.f s0_0 s0_1 s0_2 6).bind fun bt459 => (spec_l2Draw.l0 k (([] : List Int)) bt459.1 0 s0_0 bt459.2.1 bt459.2.2)
set_option maxHeartbeats 8000000 in
set_option maxRecDepth 100000 in
theorem spec_l2Draw.calls (k : Nat) (g : Nat) (s0_0 : List Int) (s0_1 : Int) (s0_2 : Int) (r1 : List Int) (r2 : Int) (r3 : Int) (w0 w : World) (hI : IsS99 w0 w g s0_0 s0_1 s0_2) (hB : Below w0.heap.size w0 w) (h : spec_l2Draw.f k s0_0 s0_1 s0_2 = some (r1, r2, r3)) :
  Calls Try.prog 71 #[.pointer (some ⟨g, 0, none⟩)] w fun e w' => ∃ v0_ : Value, e = .returned (v0_) ∧ Kd.R (Kd.int .i64) 3 w' w.heap.size (fun _ => True) v0_ r1 ∧ IsS99 w0 w' g s0_0 r2 r3 ∧ Below w0.heap.size w0 w' ∧ KeepBut w w' g none := by
 have HI0 := am hI
 have HK := am (KeepBut.refl w g none)
 have HL := am hB.size
 clear hI
 have HW0 := am hB.size
 have HB := am hB
 clear hB
 have H : ((spec_l1Below.f s0_0 s0_1 s0_2 6).bind fun bt459 => (spec_l2Draw.l0 k (([] : List Int)) bt459.1 0 s0_0 bt459.2.1 bt459.2.2)) = some (r1, r2, r3) := h
 clear h
 obtain ⟨y456, hy456⟩ : ∃ y_ : List Int, y_ = (([] : List Int)) := ⟨_, rfl⟩
 replace H : ((spec_l1Below.f s0_0 s0_1 s0_2 6).bind fun bt459 => (spec_l2Draw.l0 k y456 bt459.1 0 s0_0 bt459.2.1 bt459.2.2)) = some (r1, r2, r3) := by first | (rw [hy456]; with_reducible first | exact H | exact bs H) | (with_reducible first | exact bs H | exact H) | (rw [hy456]; exact H) | exact H
 have Ny456 := am hy456
 clear hy456
 replace H := ga H; obtain ⟨⟨t459, t460, t461⟩, A2, H⟩ := H
 replace H : (spec_l2Draw.l0 k y456 t459 0 s0_0 t460 t461) = some (r1, r2, r3) := H
 have H' := am H
 clear H
 go_enter Try.func71, Try.ntmps71
 go_wp2_with (first | ((with_reducible refine gate_dst (N := 6) rfl ?_); refine Kd.R_lit (Kd.int .i64) _ 3 ?hg (N := 6) ?hd (xs := ([] : List Int)) (inner := []) (ok := fun _ => True) (okp := fun _ => True) ?hr ?hp (fun _ hk => hk) trivial (Below.refl _ _) (Nat.le_refl _) (by simp) ?_; (case hd => rfl); (case hg => rfl); (case hr => first | (go_simp; done) | (go_simp; rfl)); (case hp => exact (Reps.none _ _)); intro v457 w3 ho4 hb hg_ hnew_; clear hg_ hnew_; (first | rw [← Ny456.out] at ho4 | (simp only [Int.reduceToNat] at ho4; rw [← Ny456.out] at ho4)); have HO458 := am (Kd.R_lower ho4 (keep_size (w := w) (g := g) (row := none) (by repeat (first | (with_reducible first | exact HK.out | apply KeepBut.set_ | apply keep_drewN | apply keep_drew | apply keep_alloc) | exact HK.out)))); replace HK := am (KeepBut.trans (by repeat (first | (with_reducible first | exact HK.out | apply KeepBut.set_ | apply keep_drewN | apply keep_drew | apply keep_alloc) | exact HK.out)) (KeepBut.of_below hb g none) (.inl rfl)); replace HB := am (below_step bv hb); replace HI0 := am (IsS99.below (iw HI0.out) hb); clear hb ho4) | ((with_reducible refine gate_callee (f := 70) rfl ?_); refine gl (some 8) Try.func70 #[.pointer (some ⟨g, 0, none⟩), .int .i64 6] ?_; (with_reducible refine (spec_l1Below.calls g s0_0 s0_1 s0_2 6 t459 t460 t461 w0 _ ?side1 ?side2 A2.out).mono ?_); (case side1 => exact iw HI0.out); (case side2 => exact bv); rintro e w5 ⟨rfl, hi, hb, hk⟩; refine ⟨_, rfl, ?_⟩; replace HO458 := am (Kd.R_mono (Kd.R_keep (IsS99.apart (show IsS99 w0 _ g s0_0 s0_1 s0_2 from (iw HI0.out)) (ro HO458.out) (by decide)) hk (fun _ h => h.2)) (fun _ h => h.1)); replace HK := am (KeepBut.trans (by repeat (first | (with_reducible first | exact HK.out | apply KeepBut.set_ | apply keep_drewN | apply keep_drew | apply keep_alloc) | exact HK.out)) hk (.inl rfl)); replace HB := am (hb); replace HI0 := am (hi); clear hb hk hi))
 go_loopg [3, 5] k (fun kq v3 v5 w' => ∃ (x3_1 : List Int) (x5_1 : Int) (x1001_1 : Int) (x1002_1 : Int), v5 = .int .i64 x5_1 ∧ Aside0 (spec_l2Draw.l0 kq x3_1 t459 x5_1 s0_0 x1001_1 x1002_1 = some (r1, r2, r3)) ∧ Aside0 (kq ≤ k) ∧ Aside0 (Kd.R (Kd.int .i64) 3 w' w.heap.size (fun _ => True) v3 x3_1) ∧ Aside0 (IsS99 w0 w' g s0_0 x1001_1 x1002_1) ∧ Aside0 (KeepBut w w' g none) ∧ Aside0 (Below w0.heap.size w0 w'))
 case atStart => exact ⟨(y456), (0), (t460), (t461), rr, H', ⟨Nat.le_refl _⟩, ⟨ro HO458.out⟩, ⟨(iw HI0.out)⟩, ⟨by repeat (first | (with_reducible first | exact HK.out | apply KeepBut.set_ | apply keep_drewN | apply keep_drew | apply keep_alloc) | exact HK.out)⟩, ⟨bv⟩⟩
 case round =>
  clear H'
  obtain ⟨x3_1, x5_1, x1001_1, x1002_1, rfl, HA, HK1, HO_3, HI0, HK, HB⟩ := hrel
  cases gk with
  | zero => exact absurd HA.out (by simp [spec_l2Draw.l0])
  | succ k1 =>
   have H := HA.out
   clear HA
   simp only [spec_l2Draw.l0] at H
   replace H := gi H; obtain ⟨c6b0, H⟩ | ⟨c6b0, H⟩ := H
   ·replace H := ga H; obtain ⟨⟨t462, t463, t464⟩, A7, H⟩ := H
    replace H : (if x3_1.length < 17592186044416 then (spec_l2Draw.l0 k1 (x3_1 ++ [wrap64 (t462 - 4)]) t459 (wrap64 (x5_1 + 1)) s0_0 t463 t464) else (none)) = some (r1, r2, r3) := H
    by_cases c8 : x3_1.length < 17592186044416
    rotate_left
    ·rw [if_neg c8] at H
     exact absurd H (by simp)
    rw [if_pos c8] at H
    have LMc8 := am c8
    clear c8
    obtain ⟨y465, hy465⟩ : ∃ y_ : List Int, y_ = (x3_1 ++ [wrap64 (t462 - 4)]) := ⟨_, rfl⟩
    replace H : (spec_l2Draw.l0 k1 y465 t459 (wrap64 (x5_1 + 1)) s0_0 t463 t464) = some (r1, r2, r3) := by first | (rw [hy465]; with_reducible first | exact H | exact bs H) | (with_reducible first | exact bs H | exact H) | (rw [hy465]; exact H) | exact H
    have Ny465 := am hy465
    clear hy465
    have H' := am H
    clear H
    go_wp2_with (first | ((with_reducible refine gate_callee (f := 70) rfl ?_); refine gl (some 16) Try.func70 #[.pointer (some ⟨g, 0, none⟩), .int .i64 25] ?_; (with_reducible refine (spec_l1Below.calls g s0_0 x1001_1 x1002_1 25 t462 t463 t464 w0 _ ?side1 ?side2 A7.out).mono ?_); (case side1 => exact iw HI0.out); (case side2 => exact bv); rintro e w9 ⟨rfl, hi, hb, hk⟩; refine ⟨_, rfl, ?_⟩; replace HO_3 := am (Kd.R_mono (Kd.R_keep (IsS99.apart (show IsS99 w0 _ g s0_0 x1001_1 x1002_1 from (iw HI0.out)) (ro HO_3.out) (by decide)) hk (fun _ h => h.2)) (fun _ h => h.1)); replace HK := am (KeepBut.trans (by repeat (first | (with_reducible first | exact HK.out | apply KeepBut.set_ | apply keep_drewN | apply keep_drew | apply keep_alloc) | exact HK.out)) hk (.inl rfl)); replace HB := am (hb); replace HI0 := am (hi); clear hb hk hi) | ((with_reducible refine gate_builtin (b := .append) (xs := #[.tmp 14, .tmp 18]) rfl ?_); at_builtin; refine Kd.R_append (Kd.int .i64) w.heap.size rfl (.tmp 14) (.tmp 18) 24 3 (.int .i64 0) 8 rfl Try.underlying24 info3 rfl (by decide) (by omega) u3 x3_1 (wrap64 (t462 - 4)) [.int .i64 (wrap64 (t462 - 4))] (fun _ => True) (fun _ => False) rfl rfl ?aP (fun _ hk => hk.elim) ?aF ?aO (Below.refl _ _) ?aS ?aL ?_; (case aP => exact rfl); (case aF => exact (fun _ _ => trivial)); (case aO => exact (ro HO_3.out)); (case aS => exact (keep_size (w := w) (g := g) (row := none) (by repeat (first | (with_reducible first | exact HK.out | apply KeepBut.set_ | apply keep_drewN | apply keep_drew | apply keep_alloc) | exact HK.out)))); (case aL => have := LMc8.out; omega); intro v466 w10 ho hb hg hat; rw [← Ny465.out] at ho; replace HB := am (below_weaken bv HL.out hb); replace HI0 := am (IsS99.grown (iw HI0.out) hg (IsS99.own_ne HI0.out HO_3.out (by decide))); replace HK := am (KeepBut.trans (by repeat (first | (with_reducible first | exact HK.out | apply KeepBut.set_ | apply keep_drewN | apply keep_drew | apply keep_alloc) | exact HK.out)) (KeepBut.of_grown hg g) (Kd.R_base2 HO_3.out)); have HO467 := am (ho); clear HO_3 ho hb hg hat))
    go_roundg k1
    case measure => have := HK1.out; omega
    case rel => exact ⟨(y465), (wrap64 (x5_1 + 1)), (t463), (t464), rr, H', ⟨by have := HK1.out; omega⟩, ⟨ro HO467.out⟩, ⟨(iw HI0.out)⟩, ⟨by repeat (first | (with_reducible first | exact HK.out | apply KeepBut.set_ | apply keep_drewN | apply keep_drew | apply keep_alloc) | exact HK.out)⟩, ⟨bv⟩⟩
   simp only [Option.some.injEq, Prod.mk.injEq] at H
   obtain ⟨rfl, rfl, rfl⟩ := H
   go_wp2
   go_ret
   exact ⟨_, re, ro HO_3.out, (iw HI0.out), bv, by repeat (first | (with_reducible first | exact HK.out | apply KeepBut.set_ | apply keep_drewN | apply keep_drew | apply keep_alloc) | exact HK.out)⟩


/-! ### spec_l2Bent: function 68 -/
def spec_l2Bent.f (k : Nat) (s0_0 : List Int) (s0_1 : Int) (s0_2 : Int) : Option (List Int × Int × Int) := (spec_l2Draw.f k s0_0 s0_1 s0_2).bind fun bt468 => ((spec_l1Once.f s0_0 bt468.2.1 bt468.2.2 8).bind fun bt473 => (if bt473.1 = true then ((spec_l1PickInt.f s0_0 bt473.2.1 bt473.2.2 (([1000000, 1000001, (-1000001), (-9223372036854775808)] : List Int))).bind fun bt479 => (if bt468.1.length < 17592186044416 then (some ((bt468.1 ++ [bt479.1]), bt479.2.1, bt479.2.2)) else (none))) else (some (bt468.1, bt473.2.1, bt473.2.2))))
set_option maxHeartbeats 8000000 in
set_option maxRecDepth 100000 in
theorem spec_l2Bent.calls (k : Nat) (g : Nat) (s0_0 : List Int) (s0_1 : Int) (s0_2 : Int) (r1 : List Int) (r2 : Int) (r3 : Int) (w0 w : World) (hI : IsS99 w0 w g s0_0 s0_1 s0_2) (hB : Below w0.heap.size w0 w) (h : spec_l2Bent.f k s0_0 s0_1 s0_2 = some (r1, r2, r3)) :
  Calls Try.prog 68 #[.pointer (some ⟨g, 0, none⟩)] w fun e w' => ∃ v0_ : Value, e = .returned (v0_) ∧ Kd.R (Kd.int .i64) 3 w' w.heap.size (fun _ => True) v0_ r1 ∧ IsS99 w0 w' g s0_0 r2 r3 ∧ Below w0.heap.size w0 w' ∧ KeepBut w w' g none := by
 have HI0 := am hI
 have HK := am (KeepBut.refl w g none)
 have HL := am hB.size
 clear hI
 have HW0 := am hB.size
 have HB := am hB
 clear hB
 have H : ((spec_l2Draw.f k s0_0 s0_1 s0_2).bind fun bt468 => ((spec_l1Once.f s0_0 bt468.2.1 bt468.2.2 8).bind fun bt473 => (if bt473.1 = true then ((spec_l1PickInt.f s0_0 bt473.2.1 bt473.2.2 (([1000000, 1000001, (-1000001), (-9223372036854775808)] : List Int))).bind fun bt479 => (if bt468.1.length < 17592186044416 then (some ((bt468.1 ++ [bt479.1]), bt479.2.1, bt479.2.2)) else (none))) else (some (bt468.1, bt473.2.1, bt473.2.2))))) = some (r1, r2, r3) := h
 clear h
 replace H := ga H; obtain ⟨⟨t468, t471, t472⟩, A2, H⟩ := H
 replace H : ((spec_l1Once.f s0_0 t471 t472 8).bind fun bt473 => (if bt473.1 = true then ((spec_l1PickInt.f s0_0 bt473.2.1 bt473.2.2 (([1000000, 1000001, (-1000001), (-9223372036854775808)] : List Int))).bind fun bt479 => (if t468.length < 17592186044416 then (some ((t468 ++ [bt479.1]), bt479.2.1, bt479.2.2)) else (none))) else (some (t468, bt473.2.1, bt473.2.2)))) = some (r1, r2, r3) := H
 replace H := ga H; obtain ⟨⟨t473, t474, t475⟩, A3, H⟩ := H
 replace H : (if t473 = true then ((spec_l1PickInt.f s0_0 t474 t475 (([1000000, 1000001, (-1000001), (-9223372036854775808)] : List Int))).bind fun bt479 => (if t468.length < 17592186044416 then (some ((t468 ++ [bt479.1]), bt479.2.1, bt479.2.2)) else (none))) else (some (t468, t474, t475))) = some (r1, r2, r3) := H
 replace H := gb H; obtain ⟨rfl, H⟩ | ⟨rfl, H⟩ := H
 ·obtain ⟨y476, hy476⟩ : ∃ y_ : List Int, y_ = (([1000000, 1000001, (-1000001), (-9223372036854775808)] : List Int)) := ⟨_, rfl⟩
  replace H : ((spec_l1PickInt.f s0_0 t474 t475 y476).bind fun bt479 => (if t468.length < 17592186044416 then (some ((t468 ++ [bt479.1]), bt479.2.1, bt479.2.2)) else (none))) = some (r1, r2, r3) := by first | (rw [hy476]; with_reducible first | exact H | exact bs H) | (with_reducible first | exact bs H | exact H) | (rw [hy476]; exact H) | exact H
  have Ny476 := am hy476
  clear hy476
  replace H := ga H; obtain ⟨⟨t479, t480, t481⟩, A5, H⟩ := H
  replace H : (if t468.length < 17592186044416 then (some ((t468 ++ [t479]), t480, t481)) else (none)) = some (r1, r2, r3) := H
  by_cases c6 : t468.length < 17592186044416
  rotate_left
  ·rw [if_neg c6] at H
   exact absurd H (by simp)
  rw [if_pos c6] at H
  have LMc6 := am c6
  clear c6
  obtain ⟨y482, hy482⟩ : ∃ y_ : List Int, y_ = (t468 ++ [t479]) := ⟨_, rfl⟩
  replace H : (some (y482, t480, t481)) = some (r1, r2, r3) := by first | (rw [hy482]; with_reducible first | exact H | exact bs H) | (with_reducible first | exact bs H | exact H) | (rw [hy482]; exact H) | exact H
  have Ny482 := am hy482
  clear hy482
  simp only [Option.some.injEq, Prod.mk.injEq] at H
  obtain ⟨rfl, rfl, rfl⟩ := H
  go_enter Try.func68, Try.ntmps68
  go_wp2_with (first | ((with_reducible refine gate_callee (f := 71) rfl ?_); refine gl (some 5) Try.func71 #[.pointer (some ⟨g, 0, none⟩)] ?_; (with_reducible refine (spec_l2Draw.calls k g s0_0 s0_1 s0_2 t468 t471 t472 w0 _ ?side1 ?side2 A2.out).mono ?_); (case side1 => exact iw HI0.out); (case side2 => exact bv); rintro e w7 ⟨v469, rfl, ho0, hi, hb, hk⟩; refine ⟨_, rfl, ?_⟩; have HO470 := am (Kd.R_lower ho0 (keep_size (w := w) (g := g) (row := none) (by repeat (first | (with_reducible first | exact HK.out | apply KeepBut.set_ | apply keep_drewN | apply keep_drew | apply keep_alloc) | exact HK.out)))); replace HK := am (KeepBut.trans (by repeat (first | (with_reducible first | exact HK.out | apply KeepBut.set_ | apply keep_drewN | apply keep_drew | apply keep_alloc) | exact HK.out)) hk (.inl rfl)); replace HB := am (hb); replace HI0 := am (hi); clear hb hk hi ho0) | ((with_reducible refine gate_callee (f := 72) rfl ?_); refine gl (some 7) Try.func72 #[.pointer (some ⟨g, 0, none⟩), .int .i64 8] ?_; (with_reducible refine (spec_l1Once.calls g s0_0 t471 t472 8 true t474 t475 w0 _ ?side1 ?side2 A3.out).mono ?_); (case side1 => exact iw HI0.out); (case side2 => exact bv); rintro e w8 ⟨rfl, hi, hb, hk⟩; refine ⟨_, rfl, ?_⟩; replace HO470 := am (Kd.R_mono (Kd.R_keep (IsS99.apart (show IsS99 w0 _ g s0_0 t471 t472 from (iw HI0.out)) (ro HO470.out) (by decide)) hk (fun _ h => h.2)) (fun _ h => h.1)); replace HK := am (KeepBut.trans (by repeat (first | (with_reducible first | exact HK.out | apply KeepBut.set_ | apply keep_drewN | apply keep_drew | apply keep_alloc) | exact HK.out)) hk (.inl rfl)); replace HB := am (hb); replace HI0 := am (hi); clear hb hk hi) | ((with_reducible refine gate_dst (N := 10) rfl ?_); refine Kd.R_lit (Kd.int .i64) _ 3 ?hg (N := 10) ?hd (xs := ([1000000, 1000001, (-1000001), (-9223372036854775808)] : List Int)) (inner := [.int .i64 1000000, .int .i64 1000001, .int .i64 (-1000001), .int .i64 (-9223372036854775808)]) (ok := fun _ => True) (okp := fun _ => True) ?hr ?hp (fun _ hk => hk) trivial (Below.refl _ _) (Nat.le_refl _) (by simp) ?_; (case hd => rfl); (case hg => rfl); (case hr => first | (go_simp; done) | (go_simp; rfl)); (case hp => exact (Reps.one (show Kd.M (Kd.int .i64) _ _ _ 1000000 [.int .i64 1000000] from rfl) (Reps.one (show Kd.M (Kd.int .i64) _ _ _ 1000001 [.int .i64 1000001] from rfl) (Reps.one (show Kd.M (Kd.int .i64) _ _ _ (-1000001) [.int .i64 (-1000001)] from rfl) (Reps.one (show Kd.M (Kd.int .i64) _ _ _ (-9223372036854775808) [.int .i64 (-9223372036854775808)] from rfl) (Reps.none _ _)))))); intro v477 w9 ho10 hb hg_ hnew_; clear hg_ hnew_; (first | rw [← Ny476.out] at ho10 | (simp only [Int.reduceToNat] at ho10; rw [← Ny476.out] at ho10)); have HO478 := am (Kd.R_lower (Kd.R_new' ho10 (Kd.R_lt (ro HO470.out))) (keep_size (w := w) (g := g) (row := none) (by repeat (first | (with_reducible first | exact HK.out | apply KeepBut.set_ | apply keep_drewN | apply keep_drew | apply keep_alloc) | exact HK.out)))); replace HO470 := am (Kd.R_elder' (ro HO470.out) (Kd.R_base ho10) hb); replace HK := am (KeepBut.trans (by repeat (first | (with_reducible first | exact HK.out | apply KeepBut.set_ | apply keep_drewN | apply keep_drew | apply keep_alloc) | exact HK.out)) (KeepBut.of_below hb g none) (.inl rfl)); replace HB := am (below_step bv hb); replace HI0 := am (IsS99.below (iw HI0.out) hb); clear hb ho10; obtain ⟨Ao11, co11, eo11⟩ := Kd.R_slice HO478.out; subst eo11) | ((with_reducible refine gate_callee (f := 69) rfl ?_); refine gl (some 11) Try.func69 #[.pointer (some ⟨g, 0, none⟩), .slice Ao11 y476.length co11] ?_; (with_reducible refine (spec_l1PickInt.calls g s0_0 t474 t475 _ _ y476 t479 t480 t481 w0 _ ?side1 ?side2 ?side3 ?side4 ?side5 A5.out).mono ?_); (case side1 => exact iw HI0.out); (case side2 => exact bv); (case side3 => exact co (Kd.R_reads' HO478.out).2.2); (case side4 => exact (Kd.R_reads' HO478.out).2.1); (case side5 => exact far_slice (IsS99.own_ne HI0.out HO478.out (by decide))); rintro e w12 ⟨rfl, hi, hb, hk⟩; refine ⟨_, rfl, ?_⟩; replace HO470 := am (Kd.R_mono (Kd.R_keep (IsS99.apart (show IsS99 w0 _ g s0_0 t474 t475 from (iw HI0.out)) (ro HO470.out) (by decide)) hk (fun _ h => h.2)) (fun _ h => h.1)); replace HO478 := am (Kd.R_mono (Kd.R_keep (IsS99.apart (show IsS99 w0 _ g s0_0 t474 t475 from (iw HI0.out)) (ro HO478.out) (by decide)) hk (fun _ h => h.2)) (fun _ h => h.1)); replace HK := am (KeepBut.trans (by repeat (first | (with_reducible first | exact HK.out | apply KeepBut.set_ | apply keep_drewN | apply keep_drew | apply keep_alloc) | exact HK.out)) hk (.inl rfl)); replace HB := am (hb); replace HI0 := am (hi); clear hb hk hi) | ((with_reducible refine gate_builtin (b := .append) (xs := #[.tmp 8, .tmp 12]) rfl ?_); at_builtin; refine Kd.R_append (Kd.int .i64) w.heap.size rfl (.tmp 8) (.tmp 12) 24 3 (.int .i64 0) 8 rfl Try.underlying24 info3 rfl (by decide) (by omega) v469 t468 t479 [.int .i64 t479] (fun k_ => nb k_ Ao11 y476 co11) (fun _ => False) rfl rfl ?aP (fun _ hk => hk.elim) ?aF ?aO (Below.refl _ _) ?aS ?aL ?_; (case aP => exact rfl); (case aF => exact (fun k_ hk => Kd.fresh' (Kd.R_lt (ro HO478.out)) k_ hk)); (case aO => exact (by (with_reducible repeat (first | apply Kd.R_alloc | apply Kd.R_drewN | apply Kd.R_drew)); exact Kd.R_mono HO470.out (fun _ hk => hk.2))); (case aS => exact (keep_size (w := w) (g := g) (row := none) (by repeat (first | (with_reducible first | exact HK.out | apply KeepBut.set_ | apply keep_drewN | apply keep_drew | apply keep_alloc) | exact HK.out)))); (case aL => have := LMc6.out; omega); intro v483 w13 ho hb hg hat; rw [← Ny482.out] at ho; replace HO478 := am (Kd.R_after (ok := (fun _ => True)) (ro HO478.out) hg hat); replace HB := am (below_weaken bv HL.out hb); replace HI0 := am (IsS99.grown (iw HI0.out) hg (IsS99.own_ne HI0.out HO470.out (by decide))); replace HK := am (KeepBut.trans (by repeat (first | (with_reducible first | exact HK.out | apply KeepBut.set_ | apply keep_drewN | apply keep_drew | apply keep_alloc) | exact HK.out)) (KeepBut.of_grown hg g) (Kd.R_base2 HO470.out)); have HO484 := am (ho); clear HO470 ho hb hg hat))
  go_ret
  exact ⟨_, re, by (with_reducible repeat (first | apply Kd.R_alloc | apply Kd.R_drewN | apply Kd.R_drew)); exact Kd.R_mono HO484.out (fun _ hk => trivial), (iw HI0.out), bv, by repeat (first | (with_reducible first | exact HK.out | apply KeepBut.set_ | apply keep_drewN | apply keep_drew | apply keep_alloc) | exact HK.out)⟩
 simp only [Option.some.injEq, Prod.mk.injEq] at H
 obtain ⟨rfl, rfl, rfl⟩ := H
 go_enter Try.func68, Try.ntmps68
 go_wp2_with (first | ((with_reducible refine gate_callee (f := 71) rfl ?_); refine gl (some 5) Try.func71 #[.pointer (some ⟨g, 0, none⟩)] ?_; (with_reducible refine (spec_l2Draw.calls k g s0_0 s0_1 s0_2 t468 t471 t472 w0 _ ?side1 ?side2 A2.out).mono ?_); (case side1 => exact iw HI0.out); (case side2 => exact bv); rintro e w14 ⟨v469, rfl, ho0, hi, hb, hk⟩; refine ⟨_, rfl, ?_⟩; have HO470 := am (Kd.R_lower ho0 (keep_size (w := w) (g := g) (row := none) (by repeat (first | (with_reducible first | exact HK.out | apply KeepBut.set_ | apply keep_drewN | apply keep_drew | apply keep_alloc) | exact HK.out)))); replace HK := am (KeepBut.trans (by repeat (first | (with_reducible first | exact HK.out | apply KeepBut.set_ | apply keep_drewN | apply keep_drew | apply keep_alloc) | exact HK.out)) hk (.inl rfl)); replace HB := am (hb); replace HI0 := am (hi); clear hb hk hi ho0) | ((with_reducible refine gate_callee (f := 72) rfl ?_); refine gl (some 7) Try.func72 #[.pointer (some ⟨g, 0, none⟩), .int .i64 8] ?_; (with_reducible refine (spec_l1Once.calls g s0_0 t471 t472 8 false t474 t475 w0 _ ?side1 ?side2 A3.out).mono ?_); (case side1 => exact iw HI0.out); (case side2 => exact bv); rintro e w15 ⟨rfl, hi, hb, hk⟩; refine ⟨_, rfl, ?_⟩; replace HO470 := am (Kd.R_mono (Kd.R_keep (IsS99.apart (show IsS99 w0 _ g s0_0 t471 t472 from (iw HI0.out)) (ro HO470.out) (by decide)) hk (fun _ h => h.2)) (fun _ h => h.1)); replace HK := am (KeepBut.trans (by repeat (first | (with_reducible first | exact HK.out | apply KeepBut.set_ | apply keep_drewN | apply keep_drew | apply keep_alloc) | exact HK.out)) hk (.inl rfl)); replace HB := am (hb); replace HI0 := am (hi); clear hb hk hi))
 go_ret
 exact ⟨_, re, ro HO470.out, (iw HI0.out), bv, by repeat (first | (with_reducible first | exact HK.out | apply KeepBut.set_ | apply keep_drewN | apply keep_drew | apply keep_alloc) | exact HK.out)⟩


/-! ### spec_DrawSeriesFrom: function 9 -/
def spec_DrawSeriesFrom.f (k : Nat) (l0 : List Int) : Option (List Int × Int) := (spec_l1New.f k l0).bind fun bt485 => ((spec_l2Bent.f k bt485.1 bt485.2.1 bt485.2.2).bind fun bt489 => ((spec_l1Below.f bt485.1 bt489.2.1 bt489.2.2 10).bind fun bt494 => ((spec_l1Below.f bt485.1 bt494.2.1 bt494.2.2 10).bind fun bt497 => ((spec_l1PickInt.f bt485.1 bt497.2.1 bt497.2.2 (([bt494.1, bt497.1, 0, (-1), 1001] : List Int))).bind fun bt503 => (some (bt489.1, bt503.1))))))
set_option maxHeartbeats 8000000 in
set_option maxRecDepth 100000 in
theorem spec_DrawSeriesFrom.calls (k : Nat) (A0 : Option Addr) (c0 : Nat) (l0 : List Int) (r1 : List Int) (r2 : Int) (w : World) (hr0 : Kd.C (Kd.int .u8) w A0 l0.length l0) (hc0 : l0.length ≤ c0) (h : spec_DrawSeriesFrom.f k l0 = some (r1, r2)) :
  Calls Try.prog 9 #[.slice A0 l0.length c0] w fun e w' => ∃ v0_ : Value, e = .returned (.tuple #[v0_, .int .i64 r2]) ∧ Kd.R (Kd.int .i64) 3 w' w.heap.size (fun _ => True) v0_ r1 ∧ Below w.heap.size w w' := by
 have HR0 := am hr0
 have HC0 := am hc0
 clear hr0 hc0
 have HB := am (Below.refl w.heap.size w)
 have H : ((spec_l1New.f k l0).bind fun bt485 => ((spec_l2Bent.f k bt485.1 bt485.2.1 bt485.2.2).bind fun bt489 => ((spec_l1Below.f bt485.1 bt489.2.1 bt489.2.2 10).bind fun bt494 => ((spec_l1Below.f bt485.1 bt494.2.1 bt494.2.2 10).bind fun bt497 => ((spec_l1PickInt.f bt485.1 bt497.2.1 bt497.2.2 (([bt494.1, bt497.1, 0, (-1), 1001] : List Int))).bind fun bt503 => (some (bt489.1, bt503.1))))))) = some (r1, r2) := h
 clear h
 replace H := ga H; obtain ⟨⟨t485, t486, t487⟩, A2, H⟩ := H
 replace H : ((spec_l2Bent.f k t485 t486 t487).bind fun bt489 => ((spec_l1Below.f t485 bt489.2.1 bt489.2.2 10).bind fun bt494 => ((spec_l1Below.f t485 bt494.2.1 bt494.2.2 10).bind fun bt497 => ((spec_l1PickInt.f t485 bt497.2.1 bt497.2.2 (([bt494.1, bt497.1, 0, (-1), 1001] : List Int))).bind fun bt503 => (some (bt489.1, bt503.1)))))) = some (r1, r2) := H
 replace H := ga H; obtain ⟨⟨t489, t492, t493⟩, A3, H⟩ := H
 replace H : ((spec_l1Below.f t485 t492 t493 10).bind fun bt494 => ((spec_l1Below.f t485 bt494.2.1 bt494.2.2 10).bind fun bt497 => ((spec_l1PickInt.f t485 bt497.2.1 bt497.2.2 (([bt494.1, bt497.1, 0, (-1), 1001] : List Int))).bind fun bt503 => (some (t489, bt503.1))))) = some (r1, r2) := H
 replace H := ga H; obtain ⟨⟨t494, t495, t496⟩, A4, H⟩ := H
 replace H : ((spec_l1Below.f t485 t495 t496 10).bind fun bt497 => ((spec_l1PickInt.f t485 bt497.2.1 bt497.2.2 (([t494, bt497.1, 0, (-1), 1001] : List Int))).bind fun bt503 => (some (t489, bt503.1)))) = some (r1, r2) := H
 replace H := ga H; obtain ⟨⟨t497, t498, t499⟩, A5, H⟩ := H
 replace H : ((spec_l1PickInt.f t485 t498 t499 (([t494, t497, 0, (-1), 1001] : List Int))).bind fun bt503 => (some (t489, bt503.1))) = some (r1, r2) := H
 obtain ⟨y500, hy500⟩ : ∃ y_ : List Int, y_ = (([t494, t497, 0, (-1), 1001] : List Int)) := ⟨_, rfl⟩
 replace H : ((spec_l1PickInt.f t485 t498 t499 y500).bind fun bt503 => (some (t489, bt503.1))) = some (r1, r2) := by first | (rw [hy500]; with_reducible first | exact H | exact bs H) | (with_reducible first | exact bs H | exact H) | (rw [hy500]; exact H) | exact H
 have Ny500 := am hy500
 clear hy500
 replace H := ga H; obtain ⟨⟨t503, t504, t505⟩, A6, H⟩ := H
 replace H : (some (t489, t503)) = some (r1, r2) := H
 simp only [Option.some.injEq, Prod.mk.injEq] at H
 obtain ⟨rfl, rfl⟩ := H
 go_enter Try.func9, Try.ntmps9
 go_wp2_with (first | ((with_reducible refine gate_callee (f := 64) rfl ?_); refine gl (some 7) Try.func64 #[.slice A0 l0.length c0] ?_; (with_reducible refine (spec_l1New.calls k _ _ l0 t485 t486 t487 w _ ?side1 ?side2 ?side3 A2.out).mono ?_); (case side1 => exact bw); (case side2 => exact HR0.out); (case side3 => exact HC0.out); rintro e w7 ⟨g488, rfl, hi, hb, hb2⟩; refine ⟨_, rfl, ?_⟩; replace HB := am (hb); have HI488 := am (hi); clear hb hb2 hi) | ((with_reducible refine gate_callee (f := 68) rfl ?_); refine gl (some 9) Try.func68 #[.pointer (some ⟨g488, 0, none⟩)] ?_; (with_reducible refine (spec_l2Bent.calls k g488 t485 t486 t487 t489 t492 t493 w _ ?side1 ?side2 A3.out).mono ?_); (case side1 => exact iw HI488.out); (case side2 => exact bv); rintro e w8 ⟨v490, rfl, ho0, hi, hb, hk⟩; refine ⟨_, rfl, ?_⟩; have HO491 := am (Kd.R_lower ho0 (below_size bv)); replace HB := am (hb); replace HI488 := am (hi); clear hb hk hi ho0) | ((with_reducible refine gate_callee (f := 70) rfl ?_); refine gl (some 13) Try.func70 #[.pointer (some ⟨g488, 0, none⟩), .int .i64 10] ?_; (with_reducible refine (spec_l1Below.calls g488 t485 t492 t493 10 t494 t495 t496 w _ ?side1 ?side2 A4.out).mono ?_); (case side1 => exact iw HI488.out); (case side2 => exact bv); rintro e w9 ⟨rfl, hi, hb, hk⟩; refine ⟨_, rfl, ?_⟩; replace HO491 := am (Kd.R_mono (Kd.R_keep (IsS99.apart (show IsS99 w _ g488 t485 t492 t493 from (iw HI488.out)) (ro HO491.out) (by decide)) hk (fun _ h => h.2)) (fun _ h => h.1)); replace HB := am (hb); replace HI488 := am (hi); clear hb hk hi) | ((with_reducible refine gate_callee (f := 70) rfl ?_); refine gl (some 15) Try.func70 #[.pointer (some ⟨g488, 0, none⟩), .int .i64 10] ?_; (with_reducible refine (spec_l1Below.calls g488 t485 t495 t496 10 t497 t498 t499 w _ ?side1 ?side2 A5.out).mono ?_); (case side1 => exact iw HI488.out); (case side2 => exact bv); rintro e w10 ⟨rfl, hi, hb, hk⟩; refine ⟨_, rfl, ?_⟩; replace HO491 := am (Kd.R_mono (Kd.R_keep (IsS99.apart (show IsS99 w _ g488 t485 t495 t496 from (iw HI488.out)) (ro HO491.out) (by decide)) hk (fun _ h => h.2)) (fun _ h => h.1)); replace HB := am (hb); replace HI488 := am (hi); clear hb hk hi) | ((with_reducible refine gate_dst (N := 16) rfl ?_); refine Kd.R_lit (Kd.int .i64) _ 3 ?hg (N := 16) ?hd (xs := ([t494, t497, 0, (-1), 1001] : List Int)) (inner := [.int .i64 t494, .int .i64 t497, .int .i64 0, .int .i64 (-1), .int .i64 1001]) (ok := fun _ => True) (okp := fun _ => True) ?hr ?hp (fun _ hk => hk) trivial (Below.refl _ _) (Nat.le_refl _) (by simp) ?_; (case hd => rfl); (case hg => rfl); (case hr => first | (go_simp; done) | (go_simp; rfl)); (case hp => exact (Reps.one (show Kd.M (Kd.int .i64) _ _ _ t494 [.int .i64 t494] from rfl) (Reps.one (show Kd.M (Kd.int .i64) _ _ _ t497 [.int .i64 t497] from rfl) (Reps.one (show Kd.M (Kd.int .i64) _ _ _ 0 [.int .i64 0] from rfl) (Reps.one (show Kd.M (Kd.int .i64) _ _ _ (-1) [.int .i64 (-1)] from rfl) (Reps.one (show Kd.M (Kd.int .i64) _ _ _ 1001 [.int .i64 1001] from rfl) (Reps.none _ _))))))); intro v501 w11 ho12 hb hg_ hnew_; clear hg_ hnew_; (first | rw [← Ny500.out] at ho12 | (simp only [Int.reduceToNat] at ho12; rw [← Ny500.out] at ho12)); have HO502 := am (Kd.R_lower (Kd.R_new' ho12 (Kd.R_lt (ro HO491.out))) (below_size bv)); replace HO491 := am (Kd.R_elder' (ro HO491.out) (Kd.R_base ho12) hb); replace HB := am (below_step bv hb); replace HI488 := am (IsS99.below (iw HI488.out) hb); clear hb ho12; obtain ⟨Ao13, co13, eo13⟩ := Kd.R_slice HO502.out; subst eo13) | ((with_reducible refine gate_callee (f := 69) rfl ?_); refine gl (some 17) Try.func69 #[.pointer (some ⟨g488, 0, none⟩), .slice Ao13 y500.length co13] ?_; (with_reducible refine (spec_l1PickInt.calls g488 t485 t498 t499 _ _ y500 t503 t504 t505 w _ ?side1 ?side2 ?side3 ?side4 ?side5 A6.out).mono ?_); (case side1 => exact iw HI488.out); (case side2 => exact bv); (case side3 => exact co (Kd.R_reads' HO502.out).2.2); (case side4 => exact (Kd.R_reads' HO502.out).2.1); (case side5 => exact far_slice (IsS99.own_ne HI488.out HO502.out (by decide))); rintro e w14 ⟨rfl, hi, hb, hk⟩; refine ⟨_, rfl, ?_⟩; replace HO491 := am (Kd.R_mono (Kd.R_keep (IsS99.apart (show IsS99 w _ g488 t485 t498 t499 from (iw HI488.out)) (ro HO491.out) (by decide)) hk (fun _ h => h.2)) (fun _ h => h.1)); replace HO502 := am (Kd.R_mono (Kd.R_keep (IsS99.apart (show IsS99 w _ g488 t485 t498 t499 from (iw HI488.out)) (ro HO502.out) (by decide)) hk (fun _ h => h.2)) (fun _ h => h.1)); replace HB := am (hb); replace HI488 := am (hi); clear hb hk hi))
 go_ret2
 exact ⟨_, re, by (with_reducible repeat (first | apply Kd.R_alloc | apply Kd.R_drewN | apply Kd.R_drew)); exact Kd.R_mono HO491.out (fun _ hk => trivial), bv⟩


/-! ### spec_DrawIsPalindrome: function 10 -/
def spec_DrawIsPalindrome.l0 : Nat → List Int → Int → Int → Option (List Int)
 | 0, _, _, _ => none
 | k + 1, x4, x5, x6 => if x6 < x5 then (if 0 ≤ (wrap64 ((wrap64 (x5 - 1)) - x6)) then (if (wrap64 ((wrap64 (x5 - 1)) - x6)) < (x4.length : Int) then (if x4.length < 17592186044416 then (spec_DrawIsPalindrome.l0 k (x4 ++ [rd x4 (wrap64 ((wrap64 (x5 - 1)) - x6))]) x5 (wrap64 (x6 + 1))) else (none)) else (none)) else (none)) else (some x4)
def spec_DrawIsPalindrome.f (k : Nat) (l0 : List Int) : Option (List Int) := (spec_l1New.f k l0).bind fun bt506 => ((spec_l2Draw.f k bt506.1 bt506.2.1 bt506.2.2).bind fun bt510 => ((spec_l1Once.f bt506.1 bt510.2.1 bt510.2.2 2).bind fun bt515 => (if bt515.1 = true then (spec_DrawIsPalindrome.l0 k bt510.1 (bt510.1.length : Int) 0) else (some bt510.1))))
set_option maxHeartbeats 8000000 in
set_option maxRecDepth 100000 in
theorem spec_DrawIsPalindrome.calls (k : Nat) (A0 : Option Addr) (c0 : Nat) (l0 : List Int) (r : List Int) (w : World) (hr0 : Kd.C (Kd.int .u8) w A0 l0.length l0) (hc0 : l0.length ≤ c0) (h : spec_DrawIsPalindrome.f k l0 = some r) :
  Calls Try.prog 10 #[.slice A0 l0.length c0] w fun e w' => ∃ v0_ : Value, e = .returned (v0_) ∧ Kd.R (Kd.int .i64) 3 w' w.heap.size (fun _ => True) v0_ r ∧ Below w.heap.size w w' := by
 have HR0 := am hr0
 have HC0 := am hc0
 clear hr0 hc0
 have HB := am (Below.refl w.heap.size w)
 have H : ((spec_l1New.f k l0).bind fun bt506 => ((spec_l2Draw.f k bt506.1 bt506.2.1 bt506.2.2).bind fun bt510 => ((spec_l1Once.f bt506.1 bt510.2.1 bt510.2.2 2).bind fun bt515 => (if bt515.1 = true then (spec_DrawIsPalindrome.l0 k bt510.1 (bt510.1.length : Int) 0) else (some bt510.1))))) = some r := h
 clear h
 replace H := ga H; obtain ⟨⟨t506, t507, t508⟩, A2, H⟩ := H
 replace H : ((spec_l2Draw.f k t506 t507 t508).bind fun bt510 => ((spec_l1Once.f t506 bt510.2.1 bt510.2.2 2).bind fun bt515 => (if bt515.1 = true then (spec_DrawIsPalindrome.l0 k bt510.1 (bt510.1.length : Int) 0) else (some bt510.1)))) = some r := H
 replace H := ga H; obtain ⟨⟨t510, t513, t514⟩, A3, H⟩ := H
 replace H : ((spec_l1Once.f t506 t513 t514 2).bind fun bt515 => (if bt515.1 = true then (spec_DrawIsPalindrome.l0 k t510 (t510.length : Int) 0) else (some t510))) = some r := H
 replace H := ga H; obtain ⟨⟨t515, t516, t517⟩, A4, H⟩ := H
 replace H : (if t515 = true then (spec_DrawIsPalindrome.l0 k t510 (t510.length : Int) 0) else (some t510)) = some r := H
 replace H := gb H; obtain ⟨rfl, H⟩ | ⟨rfl, H⟩ := H
 ·have H' := am H
  clear H
  go_enter Try.func10, Try.ntmps10
  go_wp2_with (first | ((with_reducible refine gate_callee (f := 64) rfl ?_); refine gl (some 8) Try.func64 #[.slice A0 l0.length c0] ?_; (with_reducible refine (spec_l1New.calls k _ _ l0 t506 t507 t508 w _ ?side1 ?side2 ?side3 A2.out).mono ?_); (case side1 => exact bw); (case side2 => exact HR0.out); (case side3 => exact HC0.out); rintro e w6 ⟨g509, rfl, hi, hb, hb2⟩; refine ⟨_, rfl, ?_⟩; replace HB := am (hb); have HI509 := am (hi); clear hb hb2 hi) | ((with_reducible refine gate_callee (f := 71) rfl ?_); refine gl (some 10) Try.func71 #[.pointer (some ⟨g509, 0, none⟩)] ?_; (with_reducible refine (spec_l2Draw.calls k g509 t506 t507 t508 t510 t513 t514 w _ ?side1 ?side2 A3.out).mono ?_); (case side1 => exact iw HI509.out); (case side2 => exact bv); rintro e w7 ⟨v511, rfl, ho0, hi, hb, hk⟩; refine ⟨_, rfl, ?_⟩; have HO512 := am (Kd.R_lower ho0 (below_size bv)); replace HB := am (hb); replace HI509 := am (hi); clear hb hk hi ho0) | ((with_reducible refine gate_callee (f := 72) rfl ?_); refine gl (some 12) Try.func72 #[.pointer (some ⟨g509, 0, none⟩), .int .i64 2] ?_; (with_reducible refine (spec_l1Once.calls g509 t506 t513 t514 2 true t516 t517 w _ ?side1 ?side2 A4.out).mono ?_); (case side1 => exact iw HI509.out); (case side2 => exact bv); rintro e w8 ⟨rfl, hi, hb, hk⟩; refine ⟨_, rfl, ?_⟩; replace HO512 := am (Kd.R_mono (Kd.R_keep (IsS99.apart (show IsS99 w _ g509 t506 t513 t514 from (iw HI509.out)) (ro HO512.out) (by decide)) hk (fun _ h => h.2)) (fun _ h => h.1)); replace HB := am (hb); replace HI509 := am (hi); clear hb hk hi; obtain ⟨Ao9, co9, eo9⟩ := Kd.R_slice HO512.out; subst eo9))
  go_loopg [4, 6] k (fun kq v4 v6 w' => ∃ (x4_1 : List Int) (x6_1 : Int), v6 = .int .i64 x6_1 ∧ Aside0 (spec_DrawIsPalindrome.l0 kq x4_1 (t510.length : Int) x6_1 = some r) ∧ Aside0 (kq ≤ k) ∧ Aside0 (Kd.R (Kd.int .i64) 3 w' w.heap.size (fun _ => True) v4 x4_1) ∧ Aside0 (Below w.heap.size w w'))
  case atStart => exact ⟨(t510), (0), rr, H', ⟨Nat.le_refl _⟩, ⟨ro HO512.out⟩, ⟨bv⟩⟩
  case round =>
   clear H'
   obtain ⟨x4_1, x6_1, rfl, HA, HK1, HO_4, HB⟩ := hrel
   cases gk with
   | zero => exact absurd HA.out (by simp [spec_DrawIsPalindrome.l0])
   | succ k1 =>
    have H := HA.out
    clear HA
    simp only [spec_DrawIsPalindrome.l0] at H
    replace H := gi H; obtain ⟨c10b0, H⟩ | ⟨c10b0, H⟩ := H
    ·obtain ⟨ji11, hji11⟩ : ∃ j_ : Int, (wrap64 ((wrap64 ((t510.length : Int) - 1)) - x6_1)) = j_ := ⟨_, rfl⟩
     replace H : (if 0 ≤ (ji11) then (if (ji11) < (x4_1.length : Int) then (if x4_1.length < 17592186044416 then (spec_DrawIsPalindrome.l0 k1 (x4_1 ++ [rd x4_1 (ji11)]) (t510.length : Int) (wrap64 (x6_1 + 1))) else (none)) else (none)) else (none)) = some r := by first | (rw [hji11] at H; exact H) | (simp only [hji11] at H ⊢; exact H)
     have hji11w : (IntKind.i64.wrap ((wrap64 ((t510.length : Int) - 1)) - x6_1)) = ji11 := (i64_w _).trans hji11
     replace H := gd H; obtain ⟨c12b0, H⟩ := H
     replace H := gd H; obtain ⟨c13b0, H⟩ := H
     by_cases c14 : x4_1.length < 17592186044416
     rotate_left
     ·rw [if_neg c14] at H
      exact absurd H (by simp)
     rw [if_pos c14] at H
     have LMc14 := am c14
     clear c14
     obtain ⟨y519, hy519⟩ : ∃ y_ : List Int, y_ = (x4_1 ++ [rd x4_1 (ji11)]) := ⟨_, rfl⟩
     replace H : (spec_DrawIsPalindrome.l0 k1 y519 (t510.length : Int) (wrap64 (x6_1 + 1))) = some r := by first | (rw [hy519]; with_reducible first | exact H | exact bs H) | (with_reducible first | exact bs H | exact H) | (rw [hy519]; exact H) | exact H
     have Ny519 := am hy519
     clear hy519
     have H' := am H
     clear H
     obtain ⟨Ao15, co15, eo15⟩ := Kd.R_slice HO_4.out
     subst eo15
     obtain ⟨⟨ad518, e518, hx518_0⟩, p518, q518⟩ := pq (Kd.at_int (Kd.R_reads' HO_4.out).2.2 (ji11))
     cases e518
     go_wp2_with (first | ((with_reducible refine gate_builtin (b := .append) (xs := #[.tmp 20, .tmp 28]) rfl ?_); at_builtin; refine Kd.R_append (Kd.int .i64) (w0 := w) w.heap.size rfl (.tmp 20) (.tmp 28) 24 3 (.int .i64 0) 8 rfl Try.underlying24 info3 rfl (by decide) (by omega) (.slice (some ad518) x4_1.length co15) x4_1 (rd x4_1 (ji11)) [.int .i64 (rd x4_1 (ji11))] (fun _ => True) (fun _ => False) rfl rfl ?aP (fun _ hk => hk.elim) ?aF ?aO ?aB ?aS ?aL ?_; (case aP => exact rfl); (case aB => exact bw); (case aF => exact (fun _ _ => trivial)); (case aO => exact (ro HO_4.out)); (case aS => exact (below_size bw)); (case aL => have := LMc14.out; omega); intro v520 w16 ho hb hg hat; rw [← Ny519.out] at ho; replace HB := am (hb); have HO521 := am (ho); clear HO_4 ho hb hg hat))
     go_roundg k1
     case measure => have := HK1.out; omega
     case rel => exact ⟨(y519), (wrap64 (x6_1 + 1)), rr, H', ⟨by have := HK1.out; omega⟩, ⟨ro HO521.out⟩, ⟨bw⟩⟩
    obtain rfl := Option.some.inj H
    go_wp2
    go_ret
    exact ⟨_, re, ro HO_4.out, bw⟩
 obtain rfl := Option.some.inj H
 go_enter Try.func10, Try.ntmps10
 go_wp2_with (first | ((with_reducible refine gate_callee (f := 64) rfl ?_); refine gl (some 8) Try.func64 #[.slice A0 l0.length c0] ?_; (with_reducible refine (spec_l1New.calls k _ _ l0 t506 t507 t508 w _ ?side1 ?side2 ?side3 A2.out).mono ?_); (case side1 => exact bw); (case side2 => exact HR0.out); (case side3 => exact HC0.out); rintro e w17 ⟨g509, rfl, hi, hb, hb2⟩; refine ⟨_, rfl, ?_⟩; replace HB := am (hb); have HI509 := am (hi); clear hb hb2 hi) | ((with_reducible refine gate_callee (f := 71) rfl ?_); refine gl (some 10) Try.func71 #[.pointer (some ⟨g509, 0, none⟩)] ?_; (with_reducible refine (spec_l2Draw.calls k g509 t506 t507 t508 t510 t513 t514 w _ ?side1 ?side2 A3.out).mono ?_); (case side1 => exact iw HI509.out); (case side2 => exact bv); rintro e w18 ⟨v511, rfl, ho0, hi, hb, hk⟩; refine ⟨_, rfl, ?_⟩; have HO512 := am (Kd.R_lower ho0 (below_size bv)); replace HB := am (hb); replace HI509 := am (hi); clear hb hk hi ho0) | ((with_reducible refine gate_callee (f := 72) rfl ?_); refine gl (some 12) Try.func72 #[.pointer (some ⟨g509, 0, none⟩), .int .i64 2] ?_; (with_reducible refine (spec_l1Once.calls g509 t506 t513 t514 2 false t516 t517 w _ ?side1 ?side2 A4.out).mono ?_); (case side1 => exact iw HI509.out); (case side2 => exact bv); rintro e w19 ⟨rfl, hi, hb, hk⟩; refine ⟨_, rfl, ?_⟩; replace HO512 := am (Kd.R_mono (Kd.R_keep (IsS99.apart (show IsS99 w _ g509 t506 t513 t514 from (iw HI509.out)) (ro HO512.out) (by decide)) hk (fun _ h => h.2)) (fun _ h => h.1)); replace HB := am (hb); replace HI509 := am (hi); clear hb hk hi))
 go_ret
 exact ⟨_, re, ro HO512.out, bv⟩


/-! ### spec_DrawMultiplyLists: function 11 -/
def spec_DrawMultiplyLists.f (k : Nat) (l0 : List Int) : Option (List Int × List Int) := (spec_l1New.f k l0).bind fun bt522 => ((spec_l2Bent.f k bt522.1 bt522.2.1 bt522.2.2).bind fun bt526 => ((spec_l2Bent.f k bt522.1 bt526.2.1 bt526.2.2).bind fun bt531 => (some (bt526.1, bt531.1))))
set_option maxHeartbeats 8000000 in
set_option maxRecDepth 100000 in
theorem spec_DrawMultiplyLists.calls (k : Nat) (A0 : Option Addr) (c0 : Nat) (l0 : List Int) (r1 : List Int) (r2 : List Int) (w : World) (hr0 : Kd.C (Kd.int .u8) w A0 l0.length l0) (hc0 : l0.length ≤ c0) (h : spec_DrawMultiplyLists.f k l0 = some (r1, r2)) :
  Calls Try.prog 11 #[.slice A0 l0.length c0] w fun e w' => ∃ v0_ v1_ : Value, e = .returned (.tuple #[v0_, v1_]) ∧ Kd.R (Kd.int .i64) 3 w' w.heap.size (fun k_ => some k_ ≠ (v1_ : Value).ownBlock) v0_ r1 ∧ Kd.R (Kd.int .i64) 3 w' w.heap.size (fun k_ => some k_ ≠ (v0_ : Value).ownBlock) v1_ r2 ∧ Below w.heap.size w w' := by
 have HR0 := am hr0
 have HC0 := am hc0
 clear hr0 hc0
 have HB := am (Below.refl w.heap.size w)
 have H : ((spec_l1New.f k l0).bind fun bt522 => ((spec_l2Bent.f k bt522.1 bt522.2.1 bt522.2.2).bind fun bt526 => ((spec_l2Bent.f k bt522.1 bt526.2.1 bt526.2.2).bind fun bt531 => (some (bt526.1, bt531.1))))) = some (r1, r2) := h
 clear h
 replace H := ga H; obtain ⟨⟨t522, t523, t524⟩, A2, H⟩ := H
 replace H : ((spec_l2Bent.f k t522 t523 t524).bind fun bt526 => ((spec_l2Bent.f k t522 bt526.2.1 bt526.2.2).bind fun bt531 => (some (bt526.1, bt531.1)))) = some (r1, r2) := H
 replace H := ga H; obtain ⟨⟨t526, t529, t530⟩, A3, H⟩ := H
 replace H : ((spec_l2Bent.f k t522 t529 t530).bind fun bt531 => (some (t526, bt531.1))) = some (r1, r2) := H
 replace H := ga H; obtain ⟨⟨t531, t534, t535⟩, A4, H⟩ := H
 replace H : (some (t526, t531)) = some (r1, r2) := H
 simp only [Option.some.injEq, Prod.mk.injEq] at H
 obtain ⟨rfl, rfl⟩ := H
 go_enter Try.func11, Try.ntmps11
 go_wp2_with (first | ((with_reducible refine gate_callee (f := 64) rfl ?_); refine gl (some 7) Try.func64 #[.slice A0 l0.length c0] ?_; (with_reducible refine (spec_l1New.calls k _ _ l0 t522 t523 t524 w _ ?side1 ?side2 ?side3 A2.out).mono ?_); (case side1 => exact bw); (case side2 => exact HR0.out); (case side3 => exact HC0.out); rintro e w5 ⟨g525, rfl, hi, hb, hb2⟩; refine ⟨_, rfl, ?_⟩; replace HB := am (hb); have HI525 := am (hi); clear hb hb2 hi) | ((with_reducible refine gate_callee (f := 68) rfl ?_); refine gl (some 9) Try.func68 #[.pointer (some ⟨g525, 0, none⟩)] ?_; (with_reducible refine (spec_l2Bent.calls k g525 t522 t523 t524 t526 t529 t530 w _ ?side1 ?side2 A3.out).mono ?_); (case side1 => exact iw HI525.out); (case side2 => exact bv); rintro e w6 ⟨v527, rfl, ho0, hi, hb, hk⟩; refine ⟨_, rfl, ?_⟩; have HO528 := am (Kd.R_lower ho0 (below_size bv)); replace HB := am (hb); replace HI525 := am (hi); clear hb hk hi ho0) | ((with_reducible refine gate_callee (f := 68) rfl ?_); refine gl (some 12) Try.func68 #[.pointer (some ⟨g525, 0, none⟩)] ?_; (with_reducible refine (spec_l2Bent.calls k g525 t522 t529 t530 t531 t534 t535 w _ ?side1 ?side2 A4.out).mono ?_); (case side1 => exact iw HI525.out); (case side2 => exact bv); rintro e w7 ⟨v532, rfl, ho0, hi, hb, hk⟩; refine ⟨_, rfl, ?_⟩; have HO533 := am (Kd.R_lower (Kd.R_new' ho0 (Kd.R_lt (ro HO528.out))) (below_size bv)); replace HO528 := am (Kd.R_mono (Kd.R_told (Kd.R_oldK (IsS99.apart (show IsS99 w _ g525 t522 t529 t530 from (iw HI525.out)) (ro HO528.out) (by decide)) hk) (Kd.R_base ho0)) (fun _ h_ => h_.1)); replace HB := am (hb); replace HI525 := am (hi); clear hb hk hi ho0))
 go_ret2
 exact ⟨_, _, re, by (with_reducible repeat (first | apply Kd.R_alloc | apply Kd.R_drewN | apply Kd.R_drew)); exact Kd.R_mono HO528.out (fun _ hk => hk.2), by (with_reducible repeat (first | apply Kd.R_alloc | apply Kd.R_drewN | apply Kd.R_drew)); exact Kd.R_mono HO533.out (fun _ hk => hk.2), bv⟩


/-! ### spec_DrawEulerAt: function 12 -/
def spec_DrawEulerAt.f (k : Nat) (l0 : List Int) : Option (List Int × Int) := (spec_l1New.f k l0).bind fun bt537 => ((spec_l3Bent.f k bt537.1 bt537.2.1 bt537.2.2).bind fun bt541 => ((spec_l1Below.f bt537.1 bt541.2.1 bt541.2.2 80).bind fun bt547 => ((spec_l1Below.f bt537.1 bt547.2.1 bt547.2.2 80).bind fun bt550 => ((spec_l1PickInt.f bt537.1 bt550.2.1 bt550.2.2 (([bt547.1, bt550.1, (-1), 1001, 1000] : List Int))).bind fun bt556 => (some (bt541.1, bt556.1))))))
def spec_DrawEulerAt.T3 : Bool × List (List Nat × List Nat) := (true, [([], []), ([], []), ([], []), ([2], [2]), ([], []), ([4, 3], [4]), ([3, 5], [3, 5]), ([1, 6, 5], [1, 6]), ([0, 7, 0], [0]), ([7, 8, 0, 1, 2, 3, 4, 5, 6, 7, 8], [7])])
def spec_DrawEulerAt.B3 : List Nat := [0, 0, 0, 4, 0, 28, 60, 126, 255, 511]
theorem spec_DrawEulerAt.tab3 : rtab .any (opsOf Try.f12 3) = spec_DrawEulerAt.T3 := by kernel_rfl
theorem spec_DrawEulerAt.bits3 : waitsOk spec_DrawEulerAt.T3.2 spec_DrawEulerAt.B3 = true := by kernel_rfl
set_option maxHeartbeats 8000000 in
set_option maxRecDepth 100000 in
theorem spec_DrawEulerAt.calls (k : Nat) (A0 : Option Addr) (c0 : Nat) (l0 : List Int) (r1 : List Int) (r2 : Int) (w : World) (hr0 : Kd.C (Kd.int .u8) w A0 l0.length l0) (hc0 : l0.length ≤ c0) (h : spec_DrawEulerAt.f k l0 = some (r1, r2)) :
  Calls Try.prog 12 #[.slice A0 l0.length c0] w fun e w' => ∃ v0_ : Value, e = .returned (.tuple #[.agg #[v0_], .int .i64 r2]) ∧ Kd.Q (Kd.int .i64) 3 w' w.heap.size (fun _ => True) v0_ r1 ∧ Below w.heap.size w w' := by
 have hu26 := Try.underlying26
 have HR0 := am hr0
 have HC0 := am hc0
 clear hr0 hc0
 have HB := am (Below.refl w.heap.size w)
 have H : ((spec_l1New.f k l0).bind fun bt537 => ((spec_l3Bent.f k bt537.1 bt537.2.1 bt537.2.2).bind fun bt541 => ((spec_l1Below.f bt537.1 bt541.2.1 bt541.2.2 80).bind fun bt547 => ((spec_l1Below.f bt537.1 bt547.2.1 bt547.2.2 80).bind fun bt550 => ((spec_l1PickInt.f bt537.1 bt550.2.1 bt550.2.2 (([bt547.1, bt550.1, (-1), 1001, 1000] : List Int))).bind fun bt556 => (some (bt541.1, bt556.1))))))) = some (r1, r2) := h
 clear h
 replace H := ga H; obtain ⟨⟨t537, t538, t539⟩, A2, H⟩ := H
 replace H : ((spec_l3Bent.f k t537 t538 t539).bind fun bt541 => ((spec_l1Below.f t537 bt541.2.1 bt541.2.2 80).bind fun bt547 => ((spec_l1Below.f t537 bt547.2.1 bt547.2.2 80).bind fun bt550 => ((spec_l1PickInt.f t537 bt550.2.1 bt550.2.2 (([bt547.1, bt550.1, (-1), 1001, 1000] : List Int))).bind fun bt556 => (some (bt541.1, bt556.1)))))) = some (r1, r2) := H
 replace H := ga H; obtain ⟨⟨t541, t544, t545⟩, A3, H⟩ := H
 replace H : ((spec_l1Below.f t537 t544 t545 80).bind fun bt547 => ((spec_l1Below.f t537 bt547.2.1 bt547.2.2 80).bind fun bt550 => ((spec_l1PickInt.f t537 bt550.2.1 bt550.2.2 (([bt547.1, bt550.1, (-1), 1001, 1000] : List Int))).bind fun bt556 => (some (t541, bt556.1))))) = some (r1, r2) := H
 replace H := ga H; obtain ⟨⟨t547, t548, t549⟩, A4, H⟩ := H
 replace H : ((spec_l1Below.f t537 t548 t549 80).bind fun bt550 => ((spec_l1PickInt.f t537 bt550.2.1 bt550.2.2 (([t547, bt550.1, (-1), 1001, 1000] : List Int))).bind fun bt556 => (some (t541, bt556.1)))) = some (r1, r2) := H
 replace H := ga H; obtain ⟨⟨t550, t551, t552⟩, A5, H⟩ := H
 replace H : ((spec_l1PickInt.f t537 t551 t552 (([t547, t550, (-1), 1001, 1000] : List Int))).bind fun bt556 => (some (t541, bt556.1))) = some (r1, r2) := H
 obtain ⟨y553, hy553⟩ : ∃ y_ : List Int, y_ = (([t547, t550, (-1), 1001, 1000] : List Int)) := ⟨_, rfl⟩
 replace H : ((spec_l1PickInt.f t537 t551 t552 y553).bind fun bt556 => (some (t541, bt556.1))) = some (r1, r2) := by first | (rw [hy553]; with_reducible first | exact H | exact bs H) | (with_reducible first | exact bs H | exact H) | (rw [hy553]; exact H) | exact H
 have Ny553 := am hy553
 clear hy553
 replace H := ga H; obtain ⟨⟨t556, t557, t558⟩, A6, H⟩ := H
 replace H : (some (t541, t556)) = some (r1, r2) := H
 simp only [Option.some.injEq, Prod.mk.injEq] at H
 obtain ⟨rfl, rfl⟩ := H
 go_enter Try.func12, Try.ntmps12
 try go_wp2_with (first | ((with_reducible refine gate_dst (N := 2) rfl ?_); refine bx 2 #[.slice none 0 0] 26 ?_; intro gb536 hg w7 hbox hb; have BK536 := am (hbox); have GW536 := am (gs hg : w.heap.size ≤ gb536); have GE536 := GW536; replace HB := am (below_step bw hb); clear hb hbox hg) | ((with_reducible refine gate_callee (f := 64) rfl ?_); refine gl (some 7) Try.func64 #[.slice A0 l0.length c0] ?_; (with_reducible refine (spec_l1New.calls k _ _ l0 t537 t538 t539 w _ ?side1 ?side2 ?side3 A2.out).mono ?_); (case side1 => exact bw); (case side2 => exact HR0.out); (case side3 => exact HC0.out); rintro e w8 ⟨g540, rfl, hi, hb, hb2⟩; refine ⟨_, rfl, ?_⟩; replace HB := am (hb); have HI540 := am (hi); have NB540_536 := am (IsS99.ne_blk hi (blk_below (g := gb536) (o := .cells #[.slice none 0 0] 26 (0, 0)) (bo BK536.out) hb2) (by decide)); have NB536_540 := ns NB540_536; replace BK536 := kb BK536 hb2; clear hb hb2 hi) | ((with_reducible refine gate_callee (f := 63) rfl ?_); refine gl (some 9) Try.func63 #[.pointer (some ⟨g540, 0, none⟩)] ?_; (with_reducible refine (spec_l3Bent.calls k g540 t537 t538 t539 t541 t544 t545 w _ ?side1 ?side2 A3.out).mono ?_); (case side1 => exact iw HI540.out); (case side2 => exact bv); rintro e w9 ⟨v542, rfl, ho0, hi, hb, hk⟩; refine ⟨_, rfl, ?_⟩; replace BK536 := kk hk BK536 NB536_540; have HO543 := am (Kd.Q_lower ho0 (below_size bv)); replace HB := am (hb); replace HI540 := am (hi); clear hb hk hi ho0) | ((with_reducible refine gate_dst (N := 5) rfl ?_); refine bx 5 #[.slice none 0 0] 26 ?_; intro gb546 hg w10 hbox hb; replace HO543 := qK HO543 hb; have BK546 := am (hbox); have GW546 := am ((by rw [hg]; exact (below_size bv) : w.heap.size ≤ gb546)); have GE546 := GW546; replace HB := am (below_step bv hb); have NB536_546 := nl hg BK536; have NB546_536 := ns NB536_546; replace BK536 := kb BK536 hb; have NB540_546 := am ((by rw [hg]; exact Nat.ne_of_lt (IsS99.lt (show IsS99 w _ g540 t537 t544 t545 from (iw HI540.out))) : g540 ≠ gb546)); have NB546_540 := ns NB540_546; replace HI540 := am (IsS99.below (iw HI540.out) hb); clear hb hbox hg; obtain ⟨Ao11, co11, eo11, _⟩ := Kd.Q_slice HO543.out; subst eo11; have hnb12 := NB546_536.out; have hnc12 := NB536_546.out; have hnb13 := NB546_540.out; have hnc13 := NB540_546.out; have hcz14_0 := bc BK546 0 (.slice none 0 0); have hfz14_0 := blk_frozen BK546.out 0))
 have n0_ : Aside0 (Kd.Q (Kd.int .i64) 3 (w10.setCell ⟨gb546, 0, none⟩ (.slice Ao11 t541.length co11)) w.heap.size (fun _ => True) (.slice Ao11 t541.length co11) t541) := ⟨by (with_reducible repeat (first | apply Kd.Q_alloc | apply Kd.Q_drewN | apply Kd.Q_drew)); exact Kd.Q_mono (Kd.Q_far (p := ⟨gb546, 0, none⟩) (Kd.Q_types HO543.out BK546.out (by decide)) (fun _ hk => hk.2) (.slice Ao11 t541.length co11)) (fun _ hk => trivial)⟩
 have n1_ : Aside0 ((w10.setCell ⟨gb546, 0, none⟩ (.slice Ao11 t541.length co11)).heap[gb536]? = some (.cells #[.slice none 0 0] 26 (0, 0))) := ⟨bf BK536.out⟩
 have n2_ : Aside0 ((w10.setCell ⟨gb546, 0, none⟩ (.slice Ao11 t541.length co11)).heap[gb546]? = some (.cells #[.slice Ao11 t541.length co11] 26 (0, 0))) := ⟨by (with_reducible repeat (first | refine blk_drewN ?_ _ | refine blk_drew ?_ | refine blk_alloc ?_ _)); refine blk_put (cs := #[.slice none 0 0]) ?_ 0 _ rfl; (with_reducible repeat (first | refine blk_drewN ?_ _ | refine blk_drew ?_ | refine blk_alloc ?_ _)); exact BK546.out⟩
 have n3_ : Aside0 (IsS99 w (w10.setCell ⟨gb546, 0, none⟩ (.slice Ao11 t541.length co11)) g540 t537 t544 t545) := ⟨(iw HI540.out)⟩
 have n4_ : Aside0 (Below w.heap.size w (w10.setCell ⟨gb546, 0, none⟩ (.slice Ao11 t541.length co11))) := ⟨bv⟩
 (try clear HO543); (try clear BK536); (try clear BK546); (try clear HI540); (try clear HB)
 generalize (w10.setCell ⟨gb546, 0, none⟩ (.slice Ao11 t541.length co11)) = w15 at n0_ n1_ n2_ n3_ n4_ ⊢
 have HO543 := n0_
 have BK536 := n1_
 have BK546 := n2_
 have HI540 := n3_
 have HB := n4_
 clear n0_ n1_ n2_ n3_ n4_
 replace HO543 := am (Kd.Q_drew HO543.out)
 replace BK536 := bd BK536
 replace BK546 := bd BK546
 replace HI540 := am (IsS99.drew HI540.out)
 replace HB := am (below_drew1 HB.out)
 refine start_ (n := 10) (S := fun w' => w'.cell? ⟨gb546, 0, none⟩ = some (.slice Ao11 t541.length co11)) (ds := []) (yz 10 0) (by kernel_rfl) rfl rfl (bc BK546 0 _) (fun hHeld => ?_); refine with_tabW spec_DrawEulerAt.tab3 spec_DrawEulerAt.bits3 (fun HT_ HW_ => ?_)
 generalize w15.drew = w16 at HO543 BK536 BK546 HI540 HB hHeld ⊢
 refine pa 1 (some 11) (yz 10 2) HT_ ?_
 refine pa 2 (some 12) (yz 10 6) HT_ ?_
 refine pa 4 (some 14) (yz 10 22) HT_ ?_
 refine tK 0 (some 10) (yz 10 23) HT_ HW_ hHeld ?_
 refine oa 3 (some 13) (yz 10 31) HT_ (fun K hK => ?_)
 refine gm Try.func70 #[.pointer (some ⟨g540, 0, none⟩), .int .i64 80] ?_
 with_reducible refine (spec_l1Below.calls g540 t537 t544 t545 80 t547 t548 t549 w _ ?side1 ?side2 A4.out).mono ?_
 (case side1 => exact iw HI540.out)
 (case side2 => exact bv)
 rintro e w17 ⟨rfl, hi, hb, hk⟩
 refine ⟨_, rfl, ?_⟩
 replace BK536 := kk hk BK536 NB536_540
 replace HO543 := am (Kd.Q_mono (Kd.Q_keep (IsS99.apartQ (show IsS99 w _ g540 t537 t544 t545 from (iw HI540.out)) (qo HO543.out) (by decide)) hk (fun _ h => h.2)) (fun _ h => h.1))
 replace BK546 := kk hk BK546 NB546_540
 replace HB := am (hb)
 replace HI540 := am (hi)
 clear hb hk hi
 refine hK.out _ _ (bc BK546 0 _) (fun hHeld => ?_)
 clear hK K
 refine nm (some 13) ?_
 refine oa 5 (some 15) (yz 10 63) HT_ (fun K hK => ?_)
 refine gm Try.func70 #[.pointer (some ⟨g540, 0, none⟩), .int .i64 80] ?_
 with_reducible refine (spec_l1Below.calls g540 t537 t548 t549 80 t550 t551 t552 w _ ?side1 ?side2 A5.out).mono ?_
 (case side1 => exact iw HI540.out)
 (case side2 => exact bv)
 rintro e w18 ⟨rfl, hi, hb, hk⟩
 refine ⟨_, rfl, ?_⟩
 replace BK536 := kk hk BK536 NB536_540
 replace HO543 := am (Kd.Q_mono (Kd.Q_keep (IsS99.apartQ (show IsS99 w _ g540 t537 t548 t549 from (iw HI540.out)) (qo HO543.out) (by decide)) hk (fun _ h => h.2)) (fun _ h => h.1))
 replace BK546 := kk hk BK546 NB546_540
 replace HB := am (hb)
 replace HI540 := am (hi)
 clear hb hk hi
 refine hK.out _ _ (bc BK546 0 _) (fun hHeld => ?_)
 clear hK K
 refine nm (some 15) ?_
 refine oa 6 (some 16) (yz 10 127) HT_ (fun K hK => ?_)
 refine Kd.R_lit_step (Kd.int .i64) _ 3 ?hg (N := 16) ?hd (xs := ([t547, t550, (-1), 1001, 1000] : List Int)) (inner := [.int .i64 t547, .int .i64 t550, .int .i64 (-1), .int .i64 1001, .int .i64 1000]) (ok := fun _ => True) (okp := fun _ => True) ?hr ?hp (fun _ hk => hk) trivial (Below.refl _ _) (Nat.le_refl _) (by simp) ?_; (case hd => rfl); (case hg => rfl); (case hr => first | (go_simp; done) | (go_simp; rfl)); (case hp => exact (Reps.one (show Kd.M (Kd.int .i64) _ _ _ t547 [.int .i64 t547] from rfl) (Reps.one (show Kd.M (Kd.int .i64) _ _ _ t550 [.int .i64 t550] from rfl) (Reps.one (show Kd.M (Kd.int .i64) _ _ _ (-1) [.int .i64 (-1)] from rfl) (Reps.one (show Kd.M (Kd.int .i64) _ _ _ 1001 [.int .i64 1001] from rfl) (Reps.one (show Kd.M (Kd.int .i64) _ _ _ 1000 [.int .i64 1000] from rfl) (Reps.none _ _)))))))
 intro v554 w19 ho20 hb hg_ hnew_
 clear hg_ hnew_
 (first | rw [← Ny553.out] at ho20 | (simp only [Int.reduceToNat] at ho20; rw [← Ny553.out] at ho20))
 have HO555 := am (Kd.R_lower (Kd.R_new' ho20 (Kd.Q_lt (qo HO543.out))) (below_size bv))
 replace HO543 := am (Kd.Q_elder' (qo HO543.out) (Kd.R_base ho20) hb)
 replace BK536 := kb BK536 hb
 replace BK546 := kb BK546 hb
 replace HB := am (below_step bv hb)
 replace HI540 := am (IsS99.below (iw HI540.out) hb)
 clear hb ho20
 obtain ⟨Ao21, co21, eo21⟩ := Kd.R_slice HO555.out
 (first | subst eo21 | (injection eo21 with f1_ f2_ f3_; have f4_ := f1_.symm; have f5_ := f3_.symm; clear f1_ f2_ f3_; subst f4_; subst f5_))
 refine hK.out _ _ (bc BK546 0 _) (fun hHeld => ?_)
 clear hK K
 refine nm (some 16) ?_
 refine oa 7 (some 17) (yz 10 255) HT_ (fun K hK => ?_)
 refine gm Try.func69 #[.pointer (some ⟨g540, 0, none⟩), .slice Ao21 y553.length co21] ?_
 with_reducible refine (spec_l1PickInt.calls g540 t537 t551 t552 _ _ y553 t556 t557 t558 w _ ?side1 ?side2 ?side3 ?side4 ?side5 A6.out).mono ?_
 (case side1 => exact iw HI540.out)
 (case side2 => exact bv)
 (case side3 => exact co (Kd.R_reads' HO555.out).2.2)
 (case side4 => exact (Kd.R_reads' HO555.out).2.1)
 (case side5 => exact far_slice (IsS99.own_ne HI540.out HO555.out (by decide)))
 rintro e w22 ⟨rfl, hi, hb, hk⟩
 refine ⟨_, rfl, ?_⟩
 replace BK536 := kk hk BK536 NB536_540
 replace HO543 := am (Kd.Q_mono (Kd.Q_keep (IsS99.apartQ (show IsS99 w _ g540 t537 t551 t552 from (iw HI540.out)) (qo HO543.out) (by decide)) hk (fun _ h => h.2)) (fun _ h => h.1))
 replace BK546 := kk hk BK546 NB546_540
 replace HO555 := am (Kd.R_mono (Kd.R_keep (IsS99.apart (show IsS99 w _ g540 t537 t551 t552 from (iw HI540.out)) (ro HO555.out) (by decide)) hk (fun _ h => h.2)) (fun _ h => h.1))
 replace HB := am (hb)
 replace HI540 := am (hi)
 clear hb hk hi
 refine hK.out _ _ (bc BK546 0 _) (fun hHeld => ?_)
 clear hK K
 refine nm (some 17) ?_
 refine oa 8 none (yz 10 511) HT_ (fun K hK => ?_)
 have hs23 := bc BK536 0 (.slice none 0 0)
 have hfs23 := blk_frozen BK536.out 0
 have hns23_1 := NB546_536.out
 have hms23_1 := NB536_546.out
 refine skip_ (w1 := ?_) (by rfl) rfl ?_ ?_
 rotate_left
 ·go_simp
  rfl
 refine hK.out _ _ (((cell_far (p := ⟨gb536, _, none⟩) NB546_536.out _).trans (hHeld))) (fun hHeld => ?_)
 clear hK K
 refine pa 9 (some 3) (yz 10 1023) HT_ ?_
 refine done_ (done_of HT_.out (by kernel_rfl)) ?_
 try go_wp2
 refine bodyPost_ret (results_ct rfl _ _ gb536 26 #[.slice Ao11 t541.length co11] (0, 0) _ rfl (by (with_reducible repeat (first | refine blk_drewN ?_ _ | refine blk_drew ?_ | refine blk_alloc ?_ _)); refine blk_put (cs := #[.slice none 0 0]) ?_ 0 _ rfl; (with_reducible repeat (first | refine blk_drewN ?_ _ | refine blk_drew ?_ | refine blk_alloc ?_ _)); exact BK536.out) Try.underlying26 rfl (by kernel_rfl)) rfl ?_
 exact ⟨_, re, by (with_reducible repeat (first | apply Kd.Q_alloc | apply Kd.Q_drewN | apply Kd.Q_drew)); exact Kd.Q_mono (Kd.Q_far (p := ⟨gb536, 0, none⟩) (Kd.Q_types HO543.out BK536.out (by decide)) (fun _ hk => hk.2) (.slice Ao11 t541.length co11)) (fun _ hk => trivial), bv⟩


/-! ### spec_DrawEulerList: function 13 -/
def spec_DrawEulerList.f (k : Nat) (l0 : List Int) : Option (List Int) := (spec_l1New.f k l0).bind fun bt560 => ((spec_l3Bent.f k bt560.1 bt560.2.1 bt560.2.2).bind fun bt564 => (some bt564.1))
set_option maxHeartbeats 8000000 in
set_option maxRecDepth 100000 in
theorem spec_DrawEulerList.calls (k : Nat) (A0 : Option Addr) (c0 : Nat) (l0 : List Int) (r : List Int) (w : World) (hr0 : Kd.C (Kd.int .u8) w A0 l0.length l0) (hc0 : l0.length ≤ c0) (h : spec_DrawEulerList.f k l0 = some r) :
  Calls Try.prog 13 #[.slice A0 l0.length c0] w fun e w' => ∃ v0_ : Value, e = .returned (.agg #[v0_]) ∧ Kd.Q (Kd.int .i64) 3 w' w.heap.size (fun _ => True) v0_ r ∧ Below w.heap.size w w' := by
 have hu26 := Try.underlying26
 have HR0 := am hr0
 have HC0 := am hc0
 clear hr0 hc0
 have HB := am (Below.refl w.heap.size w)
 have H : ((spec_l1New.f k l0).bind fun bt560 => ((spec_l3Bent.f k bt560.1 bt560.2.1 bt560.2.2).bind fun bt564 => (some bt564.1))) = some r := h
 clear h
 replace H := ga H; obtain ⟨⟨t560, t561, t562⟩, A2, H⟩ := H
 replace H : ((spec_l3Bent.f k t560 t561 t562).bind fun bt564 => (some bt564.1)) = some r := H
 replace H := ga H; obtain ⟨⟨t564, t567, t568⟩, A3, H⟩ := H
 replace H : (some t564) = some r := H
 obtain rfl := Option.some.inj H
 go_enter Try.func13, Try.ntmps13
 go_wp2_with (first | ((with_reducible refine gate_dst (N := 2) rfl ?_); refine bx 2 #[.slice none 0 0] 26 ?_; intro gb559 hg w4 hbox hb; have BK559 := am (hbox); have GW559 := am (gs hg : w.heap.size ≤ gb559); have GE559 := GW559; replace HB := am (below_step bw hb); clear hb hbox hg) | ((with_reducible refine gate_callee (f := 64) rfl ?_); refine gl (some 4) Try.func64 #[.slice A0 l0.length c0] ?_; (with_reducible refine (spec_l1New.calls k _ _ l0 t560 t561 t562 w _ ?side1 ?side2 ?side3 A2.out).mono ?_); (case side1 => exact bw); (case side2 => exact HR0.out); (case side3 => exact HC0.out); rintro e w5 ⟨g563, rfl, hi, hb, hb2⟩; refine ⟨_, rfl, ?_⟩; replace HB := am (hb); have HI563 := am (hi); have NB563_559 := am (IsS99.ne_blk hi (blk_below (g := gb559) (o := .cells #[.slice none 0 0] 26 (0, 0)) (bo BK559.out) hb2) (by decide)); have NB559_563 := ns NB563_559; replace BK559 := kb BK559 hb2; clear hb hb2 hi) | ((with_reducible refine gate_callee (f := 63) rfl ?_); refine gl (some 5) Try.func63 #[.pointer (some ⟨g563, 0, none⟩)] ?_; (with_reducible refine (spec_l3Bent.calls k g563 t560 t561 t562 t564 t567 t568 w _ ?side1 ?side2 A3.out).mono ?_); (case side1 => exact iw HI563.out); (case side2 => exact bv); rintro e w6 ⟨v565, rfl, ho0, hi, hb, hk⟩; refine ⟨_, rfl, ?_⟩; replace BK559 := kk hk BK559 NB559_563; have HO566 := am (Kd.Q_lower ho0 (below_size bv)); replace HB := am (hb); replace HI563 := am (hi); clear hb hk hi ho0; obtain ⟨Ao7, co7, eo7, _⟩ := Kd.Q_slice HO566.out; subst eo7; have hnb8 := NB559_563.out; have hnc8 := NB563_559.out; have hcz9_0 := bc BK559 0 (.slice none 0 0); have hfz9_0 := blk_frozen BK559.out 0))
 refine bodyPost_ret (results_cell_row rfl _ _ gb559 26 #[.slice Ao7 t564.length co7] (0, 0) _ rfl (by (with_reducible repeat (first | refine blk_drewN ?_ _ | refine blk_drew ?_ | refine blk_alloc ?_ _)); refine blk_put (cs := #[.slice none 0 0]) ?_ 0 _ rfl; (with_reducible repeat (first | refine blk_drewN ?_ _ | refine blk_drew ?_ | refine blk_alloc ?_ _)); exact BK559.out) Try.underlying26 rfl (by kernel_rfl)) rfl ?_
 exact ⟨_, re, by (with_reducible repeat (first | apply Kd.Q_alloc | apply Kd.Q_drewN | apply Kd.Q_drew)); exact Kd.Q_mono (Kd.Q_far (p := ⟨gb559, 0, none⟩) (Kd.Q_types HO566.out BK559.out (by decide)) (fun _ hk => hk.2) (.slice Ao7 t564.length co7)) (fun _ hk => trivial), bv⟩


/-! ### impl_product: function 73 -/
mutual
def impl_product.l0 : Nat → List Int → List Int → List Int → Int → Int → Option (List Int)
 | 0, _, _, _, _, _ => none
 | k + 1, x1, x5, x17, x18, x19 => if x19 < x18 then (if 0 ≤ x19 then (if x19 < (x17.length : Int) then (impl_product.l1 k x1 x5 x19 (rd x17 x19) x17 x18 x19 x1 (x1.length : Int) 0) else (none)) else (none)) else (some x5)
def impl_product.l1 : Nat → List Int → List Int → Int → Int → List Int → Int → Int → List Int → Int → Int → Option (List Int)
 | 0, _, _, _, _, _, _, _, _, _, _ => none
 | k + 1, x1, x5, x6, x7, x17, x18, x19, x24, x25, x26 => if x26 < x25 then (if 0 ≤ x26 then (if x26 < (x24.length : Int) then (if 0 ≤ (wrap64 (x6 + x26)) then (if (wrap64 (x6 + x26)) < (x5.length : Int) then (impl_product.l1 k x1 (x5.set ((wrap64 (x6 + x26)) : Int).toNat (wrap64 ((rd x5 (wrap64 (x6 + x26))) + (wrap64 (x7 * (rd x24 x26)))))) x6 x7 x17 x18 x19 x24 x25 (wrap64 (x26 + 1))) else (none)) else (none)) else (none)) else (none)) else (impl_product.l0 k x1 x5 x17 x18 (wrap64 (x19 + 1)))
end
def impl_product.f (k : Nat) (l0 : List Int) (l1 : List Int) : Option (List Int) := if 0 ≤ (wrap64 ((wrap64 ((l0.length : Int) + (l1.length : Int))) - 1)) then (if (wrap64 ((wrap64 ((l0.length : Int) + (l1.length : Int))) - 1) : Int).toNat ≤ 35184372088832 then (impl_product.l0 k l1 (List.replicate (wrap64 ((wrap64 ((l0.length : Int) + (l1.length : Int))) - 1) : Int).toNat 0) l0 (l0.length : Int) 0) else (none)) else (none)
set_option maxHeartbeats 8000000 in
set_option maxRecDepth 100000 in
theorem impl_product.calls (k : Nat) (A0 : Option Addr) (c0 : Nat) (l0 : List Int) (A1 : Option Addr) (c1 : Nat) (l1 : List Int) (r : List Int) (w : World) (hr0 : Kd.C (Kd.int .i64) w A0 l0.length l0) (hc0 : l0.length ≤ c0) (hr1 : Kd.C (Kd.int .i64) w A1 l1.length l1) (hc1 : l1.length ≤ c1) (h : impl_product.f k l0 l1 = some r) :
  Calls Try.prog 73 #[.slice A0 l0.length c0, .slice A1 l1.length c1] w fun e w' => ∃ v0_ : Value, e = .returned (v0_) ∧ Kd.R (Kd.int .i64) 3 w' w.heap.size (fun _ => True) v0_ r ∧ Below w.heap.size w w' := by
 have HR0 := am hr0
 have HC0 := am hc0
 clear hr0 hc0
 have HR1 := am hr1
 have HC1 := am hc1
 clear hr1 hc1
 have HB := am (Below.refl w.heap.size w)
 have H : (if 0 ≤ (wrap64 ((wrap64 ((l0.length : Int) + (l1.length : Int))) - 1)) then (if (wrap64 ((wrap64 ((l0.length : Int) + (l1.length : Int))) - 1) : Int).toNat ≤ 35184372088832 then (impl_product.l0 k l1 (List.replicate (wrap64 ((wrap64 ((l0.length : Int) + (l1.length : Int))) - 1) : Int).toNat 0) l0 (l0.length : Int) 0) else (none)) else (none)) = some r := h
 clear h
 obtain ⟨ji3, hji3⟩ : ∃ j_ : Int, (wrap64 ((wrap64 ((l0.length : Int) + (l1.length : Int))) - 1)) = j_ := ⟨_, rfl⟩
 replace H : (if 0 ≤ (ji3) then (if (ji3 : Int).toNat ≤ 35184372088832 then (impl_product.l0 k l1 (List.replicate (ji3 : Int).toNat 0) l0 (l0.length : Int) 0) else (none)) else (none)) = some r := by first | (rw [hji3] at H; exact H) | (simp only [hji3] at H ⊢; exact H)
 have hji3w : (IntKind.i64.wrap ((wrap64 ((l0.length : Int) + (l1.length : Int))) - 1)) = ji3 := (i64_w _).trans hji3
 replace H := gp H; obtain ⟨c4, H⟩ := H
 have c4b0 := eq_true c4
 have c4b1 : decide (0 ≤ (ji3)) = true := decide_eq_true c4
 clear c4
 replace H := gp H; obtain ⟨c5, H⟩ := H
 have c5b0 := eq_true c5
 have c5b1 : decide ((ji3 : Int).toNat ≤ 35184372088832) = true := decide_eq_true c5
 clear c5
 obtain ⟨y569, hy569⟩ : ∃ y_ : List Int, y_ = (List.replicate (ji3 : Int).toNat 0) := ⟨_, rfl⟩
 replace H : (impl_product.l0 k l1 y569 l0 (l0.length : Int) 0) = some r := by first | (rw [hy569]; with_reducible first | exact H | exact bs H) | (with_reducible first | exact bs H | exact H) | (rw [hy569]; exact H) | exact H
 have Ny569 := am hy569
 clear hy569
 have H' := am H
 clear H
 go_enter Try.func73, Try.ntmps73
 go_wp2_with (first | ((with_reducible refine gate_dst (N := 16) rfl ?_); refine Kd.R_make (Kd.int .i64) _ 3 rfl (N := 16) rfl 24 _ _ rfl ji3 rfl rfl Try.underlying24 (.int .i64 0) 8 info3 rfl (by decide) (by omega) 0 (ok := fun _ => True) (okp := fun _ => True) rfl (fun _ hk => hk) trivial (of_decide_eq_true (by first | (with_reducible assumption) | assumption)) (Nat.le_trans (Nat.mul_le_mul_right _ (of_decide_eq_true (by first | (with_reducible assumption) | assumption) : ji3.toNat ≤ 35184372088832)) (by omega)) (Below.refl _ _) (Nat.le_refl _) ?_; intro v570 w6 ho7 hb hg_ hnew_; clear hg_ hnew_; (first | rw [← Ny569.out] at ho7 | (simp only [Int.reduceToNat] at ho7; rw [← Ny569.out] at ho7)); have HO571 := am (Kd.R_lower ho7 (below_size bw)); replace HB := am (below_step bw hb); clear hb ho7))
 go_loopg [19] k (fun kq v19 w' => ∃ (x5_1 : List Int) (x19_1 : Int), v19 = .int .i64 x19_1 ∧ Aside0 (impl_product.l0 kq l1 x5_1 l0 (l0.length : Int) x19_1 = some r) ∧ Aside0 (kq ≤ k) ∧ Aside0 (Kd.R (Kd.int .i64) 3 w' w.heap.size (fun _ => True) v570 x5_1) ∧ Aside0 (Below w.heap.size w w'))
 case atStart => exact ⟨(y569), (0), rr, H', ⟨Nat.le_refl _⟩, ⟨ro HO571.out⟩, ⟨bw⟩⟩
 case round =>
  clear H'
  try clear c1; try clear c4; try clear c4b0; try clear c4b1; try clear c5; try clear c5b0; try clear c5b1
  obtain ⟨x5_1, x19_1, rfl, HA, HK1, HO_5, HB⟩ := hrel
  cases gk with
  | zero => exact absurd HA.out (by simp [impl_product.l0])
  | succ k1 =>
   have H := HA.out
   clear HA
   simp only [impl_product.l0] at H
   replace H := gi H; obtain ⟨c8b0, H⟩ | ⟨c8b0, H⟩ := H
   ·replace H := gd H; obtain ⟨c9b0, H⟩ := H
    replace H := gd H; obtain ⟨c10b0, H⟩ := H
    have H' := am H
    clear H
    obtain ⟨⟨ad572, e572, hx572_0⟩, p572, q572⟩ := pq (Kd.at_int HR0.out x19_1)
    cases e572
    replace hx572_0 := hw HB hx572_0
    go_wp2
    go_loopg [26] k1 (fun kq v26 w' => ∃ (x5_2 : List Int) (x26_2 : Int), v26 = .int .i64 x26_2 ∧ Aside0 (impl_product.l1 kq l1 x5_2 x19_1 (rd l0 x19_1) l0 (l0.length : Int) x19_1 l1 (l1.length : Int) x26_2 = some r) ∧ Aside0 (kq ≤ k1) ∧ Aside0 (Kd.R (Kd.int .i64) 3 w' w.heap.size (fun _ => True) v570 x5_2) ∧ Aside0 (Below w.heap.size w w'))
    case atStart => exact ⟨(x5_1), (0), rr, H', ⟨Nat.le_refl _⟩, ⟨ro HO_5.out⟩, ⟨bw⟩⟩
    case round =>
     clear H'
     try clear c1; try clear c4; try clear c4b0; try clear c4b1; try clear c5; try clear c5b0; try clear c5b1; try clear c8b0; try clear c9b0; try clear c10b0; try clear hx572_0; try clear p572; try clear q572
     obtain ⟨x5_2, x26_2, rfl, HA, HK2, HO_5, HB⟩ := hrel
     cases gk with
     | zero => exact absurd HA.out (by simp [impl_product.l1])
     | succ k2 =>
      have H := HA.out
      clear HA
      simp only [impl_product.l1] at H
      replace H := gi H; obtain ⟨c11b0, H⟩ | ⟨c11b0, H⟩ := H
      ·replace H := gd H; obtain ⟨c12b0, H⟩ := H
       replace H := gd H; obtain ⟨c13b0, H⟩ := H
       obtain ⟨ji14, hji14⟩ : ∃ j_ : Int, (wrap64 (x19_1 + x26_2)) = j_ := ⟨_, rfl⟩
       replace H : (if 0 ≤ (ji14) then (if (ji14) < (x5_2.length : Int) then (impl_product.l1 k2 l1 (x5_2.set ((ji14) : Int).toNat (wrap64 ((rd x5_2 (ji14)) + (wrap64 ((rd l0 x19_1) * (rd l1 x26_2)))))) x19_1 (rd l0 x19_1) l0 (l0.length : Int) x19_1 l1 (l1.length : Int) (wrap64 (x26_2 + 1))) else (none)) else (none)) = some r := by first | (rw [hji14] at H; exact H) | (simp only [hji14] at H ⊢; exact H)
       have hji14w : (IntKind.i64.wrap (x19_1 + x26_2)) = ji14 := (i64_w _).trans hji14
       replace H := gd H; obtain ⟨c15b0, H⟩ := H
       replace H := gd H; obtain ⟨c16b0, H⟩ := H
       obtain ⟨y575, hy575⟩ : ∃ y_ : List Int, y_ = (x5_2.set ((ji14) : Int).toNat (wrap64 ((rd x5_2 (ji14)) + (wrap64 ((rd l0 x19_1) * (rd l1 x26_2)))))) := ⟨_, rfl⟩
       replace H : (impl_product.l1 k2 l1 y575 x19_1 (rd l0 x19_1) l0 (l0.length : Int) x19_1 l1 (l1.length : Int) (wrap64 (x26_2 + 1))) = some r := by first | (rw [hy575]; with_reducible first | exact H | exact bs H) | (with_reducible first | exact bs H | exact H) | (rw [hy575]; exact H) | exact H
       have Ny575 := am hy575
       clear hy575
       have H' := am H
       clear H
       obtain ⟨⟨ad573, e573, hx573_0⟩, p573, q573⟩ := pq (Kd.at_int HR1.out x26_2)
       cases e573
       replace hx573_0 := hw HB hx573_0
       obtain ⟨Ao18, co18, eo18⟩ := Kd.R_slice HO_5.out
       subst eo18
       obtain ⟨⟨ad574, e574, hx574_0⟩, p574, q574⟩ := pq (Kd.at_int (Kd.R_reads' HO_5.out).2.2 (ji14))
       cases e574
       have p17 : 0 ≤ ((ji14) : Int) := of_decide_eq_true (by first | (with_reducible assumption) | assumption)
       have q17 : ((ji14) : Int) < ((x5_2.length : Int) : Int) := of_decide_eq_true (by first | (with_reducible assumption) | assumption)
       obtain ⟨go17, co17, eo17, gb17, gl17, cl17, HG17⟩ := Kd.R_form HO_5.out (by omega)
       (first | cases eo17 | (injection eo17 with ea_ en_ ec_; (first | subst ea_ | (injection ea_ with ea_; subst ea_)); subst ec_; clear en_))
       have GB17 := am gb17
       have GG17 := am HG17
       clear gb17 gl17 HG17
       (first | simp only [add_plain] at hx574_0 | skip)
       obtain ⟨hx17_0, hf17_0⟩ := Kd.R_celln 0 HO_5.out ((ji14) : Int) p17 q17
       replace p17 := eq_true p17
       replace q17 := eq_true q17
       have HP19 := Kd.R_putg HO_5.out ((ji14) : Int) (wrap64 ((rd x5_2 (ji14)) + (wrap64 ((rd l0 x19_1) * (rd l1 x26_2)))))
       go_wp2_with (first | ((with_reducible refine gate_store (t := 3) (p := 41) rfl ?_); refine store_event (t := 3) (p := 41) (v := ?vo_w20) (w1 := (wr.setCell ⟨go17, ((ji14) : Int).toNat, none⟩ (.int .i64 (wrap64 ((rd x5_2 (ji14)) + (wrap64 ((rd l0 x19_1) * (rd l1 x26_2)))))))) ?hg ?ho ?hn ?hr ?_; (case ho => rfl); (case hg => rfl); (case hn => rfl); (case hr => first | (go_simp; done) | (go_simp; rfl)); intro w20 hw; have hg : wr.grownBy w20 (some go17) := (by rw [hw]; exact HP19.2); have hp_ : Kd.R (Kd.int .i64) 3 w20 w.heap.size (fun _ => True) (.slice (some ⟨go17, 0, none⟩) x5_2.length co18) y575 := (by rw [hw, Ny575.out]; exact HP19.1); clear HP19; replace HO_5 := am (hp_); replace HB := am ((by rw [hw]; exact below_set (HB.out) GB17.out : Below w.heap.size w w20)); clear hg hw hp_))
       go_roundg k2
       case measure => have := HK1.out; have := HK2.out; omega
       case rel => exact ⟨(y575), (wrap64 (x26_2 + 1)), rr, H', ⟨by have := HK1.out; have := HK2.out; omega⟩, ⟨ro HO_5.out⟩, ⟨bw⟩⟩
      have H' := am H
      clear H
      go_wp2
      go_roundg k2
      case measure => have := HK1.out; have := HK2.out; omega
      case rel => exact ⟨(x5_2), (wrap64 (x19_1 + 1)), rr, H', ⟨by have := HK1.out; have := HK2.out; omega⟩, ⟨ro HO_5.out⟩, ⟨bw⟩⟩
   obtain rfl := Option.some.inj H
   go_wp2
   go_ret
   exact ⟨_, by first | rfl | (simp [errW_none, errW_some] <;> rfl) | (simp only [← hji3]; first | rfl | (simp [errW_none, errW_some] <;> rfl)) | (simp [*, errW_none, errW_some] <;> rfl), ro HO_5.out, bw⟩


/-! ### impl_total: function 75 -/
def impl_total.l0 : Nat → Int → List Int → Int → Int → Option (Int)
 | 0, _, _, _, _ => none
 | k + 1, x3, x6, x7, x8 => if x8 < x7 then (if 0 ≤ x8 then (if x8 < (x6.length : Int) then (impl_total.l0 k (wrap64 (x3 + (rd x6 x8))) x6 x7 (wrap64 (x8 + 1))) else (none)) else (none)) else (some x3)
def impl_total.f (k : Nat) (l0 : List Int) : Option (Int) := impl_total.l0 k 0 l0 (l0.length : Int) 0
set_option maxHeartbeats 8000000 in
set_option maxRecDepth 100000 in
theorem impl_total.calls (k : Nat) (A0 : Option Addr) (c0 : Nat) (l0 : List Int) (r : Int) (w : World) (hr0 : Kd.C (Kd.int .i64) w A0 l0.length l0) (hc0 : l0.length ≤ c0) (h : impl_total.f k l0 = some r) :
  Calls Try.prog 75 #[.slice A0 l0.length c0] w fun e w' => e = .returned (.int .i64 r) ∧ Drawn0 w w' := by
 have HR0 := am hr0
 have HC0 := am hc0
 clear hr0 hc0
 have H : (impl_total.l0 k 0 l0 (l0.length : Int) 0) = some r := h
 clear h
 have H' := am H
 clear H
 go_enter Try.func75, Try.ntmps75
 go_wp2
 go_loopg [3, 8] k (fun kq v3 v8 w' => ∃ (x3_1 : Int) (x8_1 : Int), v3 = .int .i64 x3_1 ∧ v8 = .int .i64 x8_1 ∧ Aside0 (impl_total.l0 kq x3_1 l0 (l0.length : Int) x8_1 = some r) ∧ Aside0 (kq ≤ k) ∧ Drawn0 w w')
 case atStart => exact ⟨(0), (0), rr, rr, H', ⟨Nat.le_refl _⟩, dw⟩
 case round =>
  clear H'
  obtain ⟨x3_1, x8_1, rfl, rfl, HA, HK1, ⟨m1, rfl⟩⟩ := hrel
  cases gk with
  | zero => exact absurd HA.out (by simp [impl_total.l0])
  | succ k1 =>
   have H := HA.out
   clear HA
   simp only [impl_total.l0] at H
   replace H := gi H; obtain ⟨c2b0, H⟩ | ⟨c2b0, H⟩ := H
   ·replace H := gd H; obtain ⟨c3b0, H⟩ := H
    replace H := gd H; obtain ⟨c4b0, H⟩ := H
    have H' := am H
    clear H
    obtain ⟨⟨ad576, e576, hx576_0⟩, p576, q576⟩ := pq (Kd.at_int HR0.out x8_1)
    cases e576
    go_wp2
    go_roundg k1
    case measure => have := HK1.out; omega
    case rel => exact ⟨(wrap64 (x3_1 + (rd l0 x8_1))), (wrap64 (x8_1 + 1)), rr, rr, H', ⟨by have := HK1.out; omega⟩, dw⟩
   obtain rfl := Option.some.inj H
   go_wp2
   go_ret
   exact ⟨rr, dw⟩


/-! ### slices_Clip_int_int: function 76 -/
/-- A row of one's own whose room behind its end is cut away: told beside the uncut row. -/
def Kd.Z {α : Type} (d : Kd α) (e : Nat) (w : World) (base : Nat) (ok : Nat → Prop) (v : Value) (xs : List α) : Prop := (∀ k, v.ownBlock = some k → ok k) ∧ ∃ A n c, v = .slice A n n ∧ d.R e w base ok (.slice A n c) xs
section
variable {α : Type} {d : Kd α} {e : Nat} {w w1 : World} {base : Nat} {ok ok' S : Nat → Prop} {v : Value} {xs : List α}
theorem Kd.zb {A : Option Addr} {n m c c' : Nat} : (Value.slice A n c).ownBlock = (Value.slice A m c').ownBlock := by cases A <;> rfl
theorem Kd.Z_nil (d : Kd α) (e : Nat) (w : World) (base : Nat) (ok : Nat → Prop) : Kd.Z d e w base ok (.slice none 0 0) [] := ⟨fun k hk => by simp [Value.ownBlock] at hk, none, 0, 0, rfl, Kd.R_nil ..⟩
theorem Kd.Z_imp (h : Kd.Z d e w base ok v xs) (hok : ∀ k, ok k → ok' k) (hR : ∀ v, d.R e w base ok v xs → d.R e w1 base ok' v xs) : Kd.Z d e w1 base ok' v xs := by
 obtain ⟨h0, A, n, c, rfl, h⟩ := h
 exact ⟨fun k hk => hok k (h0 k hk), A, n, c, rfl, hR _ h⟩
theorem Kd.Z_mono (h : Kd.Z d e w base ok v xs) (hok : ∀ k, ok k → ok' k) : Kd.Z d e w base ok' v xs := Kd.Z_imp h hok (fun _ h => Kd.R_mono h hok)
theorem Kd.Z_below (h : Kd.Z d e w base ok v xs) (hb : Below w.heap.size w w1) : Kd.Z d e w1 base ok v xs := Kd.Z_imp h (fun _ h => h) (fun _ h => Kd.R_below h hb)
theorem Kd.Z_alloc (h : Kd.Z d e w base ok v xs) (o : Obj) : Kd.Z d e (w.alloc o) base ok v xs := Kd.Z_below h (below_alloc (Below.refl _ _) o)
theorem Kd.Z_drew (h : Kd.Z d e w base ok v xs) : Kd.Z d e w.drew base ok v xs := Kd.Z_below h (below_drew (Below.refl _ _))
theorem Kd.Z_drewN (h : Kd.Z d e w base ok v xs) (m : Nat) : Kd.Z d e (w.drewN m) base ok v xs := Kd.Z_below h (pw_below_drewN (Below.refl _ _) m)
theorem Kd.Z_far (h : Kd.Z d e w base ok v xs) {p : Addr} (hok : ∀ k, ok k → k ≠ p.block) (u : Value) : Kd.Z d e (w.setCell p u) base ok v xs := Kd.Z_imp h (fun _ h => h) (fun _ h => Kd.R_far h hok u)
theorem Kd.Z_kept (h : Kd.Z d e w base ok v xs) (hk : Kept w w1 S) (hne : ∀ k, ok k → ¬ S k) : Kd.Z d e w1 base ok v xs := Kd.Z_imp h (fun _ h => h) (fun _ h => Kd.R_kept h hk hne)
theorem Kd.Z_lower {base' : Nat} (h : Kd.Z d e w base ok v xs) (hb : base' ≤ base) : Kd.Z d e w base' ok v xs := by
 obtain ⟨h0, A, n, c, rfl, h⟩ := h
 exact ⟨h0, A, n, c, rfl, Kd.R_lower h hb⟩
theorem Kd.Z_bound (h : Kd.Z d e w base ok v xs) : Kd.Z d e w base (fun k => ok k ∧ base ≤ k ∧ k < w.heap.size ∧ ∃ q, q ∈ e :: d.E ∧ ∃ cells, w.heap[k]? = some (.cells cells q (0, 0))) v xs := by
 obtain ⟨h0, A, n, c, rfl, h⟩ := h
 have h2 := Kd.R_bound h
 exact ⟨fun k hk => h2.1 k (Kd.zb.trans hk), A, n, c, rfl, h2⟩
theorem Kd.Z_reads' {A : Option Addr} {n c : Nat} (h : Kd.Z d e w base ok (.slice A n c) xs) : n = xs.length ∧ n ≤ c ∧ d.C w A xs.length xs := by
 obtain ⟨h0, A', n', c', e, h⟩ := h
 injection e with e1 e2 e3
 subst e1 e2 e3
 have h2 := Kd.R_reads' h
 exact ⟨h2.1, Nat.le_refl _, h2.2.2⟩
theorem Kd.Z_slice (h : Kd.Z d e w base ok v xs) : ∃ A c, v = .slice A xs.length c := by
 obtain ⟨h0, A, n, c, rfl, h⟩ := h
 obtain rfl := (Kd.R_reads' h).1
 exact ⟨A, _, rfl⟩
theorem Kd.Z_of {A : Option Addr} {n c : Nat} (h : d.R e w base ok (.slice A n c) xs) : Kd.Z d e w base ok (.slice A n n) xs := ⟨fun k hk => h.1 k (Kd.zb.trans hk), A, n, c, rfl, h⟩
theorem Kd.Z_elder' {u : Value} (h : Kd.Z d e w base ok v xs) (hbase : ∀ k, u.ownBlock = some k → w.heap.size ≤ k) (hb : Below w.heap.size w w1) : Kd.Z d e w1 base (fun k => ok k ∧ some k ≠ u.ownBlock) v xs := by
 obtain ⟨h0, A, n, c, rfl, h⟩ := h
 exact Kd.Z_of (Kd.R_elder' h hbase hb)
theorem Kd.Z_new' {W : World} {u : Value} (h : Kd.Z d e w1 W.heap.size ok v xs) (hlt : ∀ k, u.ownBlock = some k → k < W.heap.size) : Kd.Z d e w1 W.heap.size (fun k => ok k ∧ some k ≠ u.ownBlock) v xs := by
 obtain ⟨h0, A, n, c, rfl, h⟩ := h
 exact Kd.Z_of (Kd.R_new' h hlt)
theorem Kd.Z_lt (h : Kd.Z d e w base ok v xs) : ∀ k, v.ownBlock = some k → k < w.heap.size := by
 obtain ⟨h0, A, n, c, rfl, h⟩ := h
 exact fun k hk => Kd.R_lt h k (Kd.zb.trans hk)
theorem Kd.Z_base (h : Kd.Z d e w base ok v xs) : ∀ k, v.ownBlock = some k → base ≤ k := by
 obtain ⟨h0, A, n, c, rfl, h⟩ := h
 exact fun k hk => Kd.R_base h k (Kd.zb.trans hk)
end
def slices_Clip_int_int.f (l0 : List Int) : Option (List Int) := some l0
theorem slices_Clip_int_int.calls (P0_ : Nat → Prop) (u9000_ : Value) (l0 : List Int) (r : List Int) (w0 w : World) (hB : Below w0.heap.size w0 w) (ho0 : Kd.R (Kd.int .i64) 3 w w0.heap.size P0_ u9000_ l0) (h : slices_Clip_int_int.f l0 = some r) :
  Calls Try.prog 76 #[u9000_] w fun e w' => ∃ v0_ : Value, e = .returned (v0_) ∧ Kd.Z (Kd.int .i64) 3 w' w0.heap.size (fun k_ => (P0_ k_ ∨ w.heap.size ≤ k_)) v0_ r ∧ Below w0.heap.size w0 w' ∧ Kept w w' (fun k_ => P0_ k_) := by
 obtain rfl := Option.some.inj h
 obtain ⟨A, c, rfl⟩ := Kd.R_slice ho0
 have hlc : l0.length ≤ c := (Kd.R_reads' ho0).2.1
 go_enter Try.func76, Try.ntmps76
 go_wp2
 go_ret
 exact ⟨_, rfl, ⟨fun k hk => .inl (ho0.1 k (Kd.zb.trans hk)), A, _, c, rfl, Kd.R_mono ho0 (fun _ h => .inl h)⟩, hB, Kept.refl ..⟩

end Go.Proofs.Ytbbehmbpoilffaa.C
