/- Contracts of functions of the program: spec_l16Draw, spec_DrawInIdeal, spec_FormatInt, spec_Join, spec_ListText, impl_reach, impl_extreme. -/
import Derived.Test.YtkfplkdchkmgbaaC0
import Derived.Test.YtkfplkdchkmgbaaC1
import Derived.Test.YtkfplkdchkmgbaaC4
import Derived.Test.YtkfplkdchkmgbaaC5
import Derived.Test.YtkfplkdchkmgbaaC6
namespace Go.Proofs.Ytkfplkdchkmgbaa.C
open Go.RowKit Go.Proofs.YtkfplkdchkmgbaaW.PrintWords Go.Proofs.YtkfplkdchkmgbaaW.PrintLast Go.Proofs.YtkfplkdchkmgbaaW.PrintMore
attribute [local go_sem] max2_int min2_int max_two min_two max_three min_three max_four min_four
set_option linter.unusedVariables false
set_option linter.unusedSimpArgs false

/-! ### spec_l16Draw: function 194 -/
def spec_l16Draw.l0 : Nat → List Int → Int → Int → List Int → Int → Int → Option (List Int × Int × Int)
 | 0, _, _, _, _, _, _ => none
 | k + 1, x3, x4, x5, x1000, x1001, x1002 => if x5 < x4 then ((spec_l1Below.f x1000 x1001 x1002 24).bind fun bt882 => (if x3.length < 17592186044416 then (spec_l16Draw.l0 k (x3 ++ [wrap64 (bt882.1 - 6)]) x4 (wrap64 (x5 + 1)) x1000 bt882.2.1 bt882.2.2) else (none))) else ((spec_l1Below.f x1000 x1001 x1002 16).bind fun bt888 => (if bt888.1 = 0 then (some ((([] : List Int)), bt888.2.1, bt888.2.2)) else (if bt888.1 = 1 then ((spec_l1PickInt.f x1000 bt888.2.1 bt888.2.2 (([200, 201, (-200), (-201)] : List Int))).bind fun bt897 => (if x3.length < 17592186044416 then (some ((x3 ++ [bt897.1]), bt897.2.1, bt897.2.2)) else (none))) else (some (x3, bt888.2.1, bt888.2.2)))))
def spec_l16Draw.f (k : Nat) (s0_0 : List Int) (s0_1 : Int) (s0_2 : Int) : Option (List Int × Int × Int) := (spec_l1Below.f s0_0 s0_1 s0_2 4).bind fun bt879 => (spec_l16Draw.l0 k (([] : List Int)) (wrap64 (1 + bt879.1)) 0 s0_0 bt879.2.1 bt879.2.2)
set_option maxHeartbeats 8000000 in
set_option maxRecDepth 100000 in
theorem spec_l16Draw.calls (k : Nat) (g : Nat) (s0_0 : List Int) (s0_1 : Int) (s0_2 : Int) (r1 : List Int) (r2 : Int) (r3 : Int) (w0 w : World) (hI : IsS132 w0 w g s0_0 s0_1 s0_2) (hB : Below w0.heap.size w0 w) (h : spec_l16Draw.f k s0_0 s0_1 s0_2 = some (r1, r2, r3)) :
  Calls Try.prog 194 #[.pointer (some ⟨g, 0, none⟩)] w fun e w' => ∃ v0_ : Value, e = .returned (v0_) ∧ Kd.R (Kd.int .i64) 3 w' w.heap.size (fun _ => True) v0_ r1 ∧ IsS132 w0 w' g s0_0 r2 r3 ∧ Below w0.heap.size w0 w' ∧ KeepBut w w' g none := by
 have HI0 := am hI
 have HK := am (KeepBut.refl w g none)
 have HL := am hB.size
 clear hI
 have HW0 := am hB.size
 have HB := am hB
 clear hB
 have H : ((spec_l1Below.f s0_0 s0_1 s0_2 4).bind fun bt879 => (spec_l16Draw.l0 k (([] : List Int)) (wrap64 (1 + bt879.1)) 0 s0_0 bt879.2.1 bt879.2.2)) = some (r1, r2, r3) := h
 clear h
 obtain ⟨y876, hy876⟩ : ∃ y_ : List Int, y_ = (([] : List Int)) := ⟨_, rfl⟩
 replace H : ((spec_l1Below.f s0_0 s0_1 s0_2 4).bind fun bt879 => (spec_l16Draw.l0 k y876 (wrap64 (1 + bt879.1)) 0 s0_0 bt879.2.1 bt879.2.2)) = some (r1, r2, r3) := by first | (rw [hy876]; with_reducible first | exact H | exact bs H) | (with_reducible first | exact bs H | exact H) | (rw [hy876]; exact H) | exact H
 have Ny876 := am hy876
 clear hy876
 replace H := ga H; obtain ⟨⟨t879, t880, t881⟩, A2, H⟩ := H
 replace H : (spec_l16Draw.l0 k y876 (wrap64 (1 + t879)) 0 s0_0 t880 t881) = some (r1, r2, r3) := H
 have H' := am H
 clear H
 go_enter Try.func194, Try.ntmps194
 go_wp2_with (first | ((with_reducible refine gate_dst (N := 6) rfl ?_); refine Kd.R_lit (Kd.int .i64) _ 3 ?hg (N := 6) ?hd (xs := ([] : List Int)) (inner := []) (ok := fun _ => True) (okp := fun _ => True) ?hr ?hp (fun _ hk => hk) trivial (Below.refl _ _) (Nat.le_refl _) (by simp) ?_; (case hd => rfl); (case hg => rfl); (case hr => first | (go_simp; done) | (go_simp; rfl)); (case hp => exact (Reps.none _ _)); intro v877 w3 ho4 hb hg_ hnew_; clear hg_ hnew_; (first | rw [← Ny876.out] at ho4 | (simp only [Int.reduceToNat] at ho4; rw [← Ny876.out] at ho4)); have HO878 := am (Kd.R_lower ho4 (keep_size (w := w) (g := g) (row := none) (by repeat (first | (with_reducible first | exact HK.out | apply KeepBut.set_ | apply keep_drewN | apply keep_drew | apply keep_alloc) | exact HK.out)))); replace HK := am (KeepBut.trans (by repeat (first | (with_reducible first | exact HK.out | apply KeepBut.set_ | apply keep_drewN | apply keep_drew | apply keep_alloc) | exact HK.out)) (KeepBut.of_below hb g none) (.inl rfl)); replace HB := am (below_step bv hb); replace HI0 := am (IsS132.below (iw HI0.out) hb); clear hb ho4) | ((with_reducible refine gate_callee (f := 156) rfl ?_); refine gl (some 8) Try.func156 #[.pointer (some ⟨g, 0, none⟩), .int .i64 4] ?_; (with_reducible refine (spec_l1Below.calls g s0_0 s0_1 s0_2 4 t879 t880 t881 w0 _ ?side1 ?side2 A2.out).mono ?_); (case side1 => exact iw HI0.out); (case side2 => exact bv); rintro e w5 ⟨rfl, hi, hb, hk⟩; refine ⟨_, rfl, ?_⟩; replace HO878 := am (Kd.R_mono (Kd.R_keep (IsS132.apart (show IsS132 w0 _ g s0_0 s0_1 s0_2 from (iw HI0.out)) (ro HO878.out) (by decide)) hk (fun _ h => h.2)) (fun _ h => h.1)); replace HK := am (KeepBut.trans (by repeat (first | (with_reducible first | exact HK.out | apply KeepBut.set_ | apply keep_drewN | apply keep_drew | apply keep_alloc) | exact HK.out)) hk (.inl rfl)); replace HB := am (hb); replace HI0 := am (hi); clear hb hk hi))
 go_loopg [3, 5] k (fun kq v3 v5 w' => ∃ (x3_1 : List Int) (x5_1 : Int) (x1001_1 : Int) (x1002_1 : Int), v5 = .int .i64 x5_1 ∧ Aside0 (spec_l16Draw.l0 kq x3_1 (wrap64 (1 + t879)) x5_1 s0_0 x1001_1 x1002_1 = some (r1, r2, r3)) ∧ Aside0 (kq ≤ k) ∧ Aside0 (Kd.R (Kd.int .i64) 3 w' w.heap.size (fun _ => True) v3 x3_1) ∧ Aside0 (IsS132 w0 w' g s0_0 x1001_1 x1002_1) ∧ Aside0 (KeepBut w w' g none) ∧ Aside0 (Below w0.heap.size w0 w'))
 case atStart => exact ⟨(y876), (0), (t880), (t881), rr, H', ⟨Nat.le_refl _⟩, ⟨ro HO878.out⟩, ⟨(iw HI0.out)⟩, ⟨by repeat (first | (with_reducible first | exact HK.out | apply KeepBut.set_ | apply keep_drewN | apply keep_drew | apply keep_alloc) | exact HK.out)⟩, ⟨bv⟩⟩
 case round =>
  clear H'
  obtain ⟨x3_1, x5_1, x1001_1, x1002_1, rfl, HA, HK1, HO_3, HI0, HK, HB⟩ := hrel
  cases gk with
  | zero => exact absurd HA.out (by simp [spec_l16Draw.l0])
  | succ k1 =>
   have H := HA.out
   clear HA
   simp only [spec_l16Draw.l0] at H
   replace H := gi H; obtain ⟨c6b0, H⟩ | ⟨c6b0, H⟩ := H
   ·replace H := ga H; obtain ⟨⟨t882, t883, t884⟩, A7, H⟩ := H
    replace H : (if x3_1.length < 17592186044416 then (spec_l16Draw.l0 k1 (x3_1 ++ [wrap64 (t882 - 6)]) (wrap64 (1 + t879)) (wrap64 (x5_1 + 1)) s0_0 t883 t884) else (none)) = some (r1, r2, r3) := H
    by_cases c8 : x3_1.length < 17592186044416
    rotate_left
    ·rw [if_neg c8] at H
     exact absurd H (by simp)
    rw [if_pos c8] at H
    have LMc8 := am c8
    clear c8
    obtain ⟨y885, hy885⟩ : ∃ y_ : List Int, y_ = (x3_1 ++ [wrap64 (t882 - 6)]) := ⟨_, rfl⟩
    replace H : (spec_l16Draw.l0 k1 y885 (wrap64 (1 + t879)) (wrap64 (x5_1 + 1)) s0_0 t883 t884) = some (r1, r2, r3) := by first | (rw [hy885]; with_reducible first | exact H | exact bs H) | (with_reducible first | exact bs H | exact H) | (rw [hy885]; exact H) | exact H
    have Ny885 := am hy885
    clear hy885
    have H' := am H
    clear H
    go_wp2_with (first | ((with_reducible refine gate_callee (f := 156) rfl ?_); refine gl (some 17) Try.func156 #[.pointer (some ⟨g, 0, none⟩), .int .i64 24] ?_; (with_reducible refine (spec_l1Below.calls g s0_0 x1001_1 x1002_1 24 t882 t883 t884 w0 _ ?side1 ?side2 A7.out).mono ?_); (case side1 => exact iw HI0.out); (case side2 => exact bv); rintro e w9 ⟨rfl, hi, hb, hk⟩; refine ⟨_, rfl, ?_⟩; replace HO_3 := am (Kd.R_mono (Kd.R_keep (IsS132.apart (show IsS132 w0 _ g s0_0 x1001_1 x1002_1 from (iw HI0.out)) (ro HO_3.out) (by decide)) hk (fun _ h => h.2)) (fun _ h => h.1)); replace HK := am (KeepBut.trans (by repeat (first | (with_reducible first | exact HK.out | apply KeepBut.set_ | apply keep_drewN | apply keep_drew | apply keep_alloc) | exact HK.out)) hk (.inl rfl)); replace HB := am (hb); replace HI0 := am (hi); clear hb hk hi) | ((with_reducible refine gate_builtin (b := .append) (xs := #[.tmp 15, .tmp 19]) rfl ?_); at_builtin; refine Kd.R_append (Kd.int .i64) w.heap.size rfl (.tmp 15) (.tmp 19) 24 3 (.int .i64 0) 8 rfl Try.underlying24 info3 rfl (by decide) (by omega) u3 x3_1 (wrap64 (t882 - 6)) [.int .i64 (wrap64 (t882 - 6))] (fun _ => True) (fun _ => False) rfl rfl ?aP (fun _ hk => hk.elim) ?aF ?aO (Below.refl _ _) ?aS ?aL ?_; (case aP => exact rfl); (case aF => exact (fun _ _ => trivial)); (case aO => exact (ro HO_3.out)); (case aS => exact (keep_size (w := w) (g := g) (row := none) (by repeat (first | (with_reducible first | exact HK.out | apply KeepBut.set_ | apply keep_drewN | apply keep_drew | apply keep_alloc) | exact HK.out)))); (case aL => have := LMc8.out; omega); intro v886 w10 ho hb hg hat; rw [← Ny885.out] at ho; replace HB := am (below_weaken bv HL.out hb); replace HI0 := am (IsS132.grown (iw HI0.out) hg (IsS132.own_ne HI0.out HO_3.out (by decide))); replace HK := am (KeepBut.trans (by repeat (first | (with_reducible first | exact HK.out | apply KeepBut.set_ | apply keep_drewN | apply keep_drew | apply keep_alloc) | exact HK.out)) (KeepBut.of_grown hg g) (Kd.R_base2 HO_3.out)); have HO887 := am (ho); clear HO_3 ho hb hg hat))
    go_roundg k1
    case measure => have := HK1.out; omega
    case rel => exact ⟨(y885), (wrap64 (x5_1 + 1)), (t883), (t884), rr, H', ⟨by have := HK1.out; omega⟩, ⟨ro HO887.out⟩, ⟨(iw HI0.out)⟩, ⟨by repeat (first | (with_reducible first | exact HK.out | apply KeepBut.set_ | apply keep_drewN | apply keep_drew | apply keep_alloc) | exact HK.out)⟩, ⟨bv⟩⟩
   replace H := ga H; obtain ⟨⟨t888, t889, t890⟩, A11, H⟩ := H
   replace H : (if t888 = 0 then (some ((([] : List Int)), t889, t890)) else (if t888 = 1 then ((spec_l1PickInt.f s0_0 t889 t890 (([200, 201, (-200), (-201)] : List Int))).bind fun bt897 => (if x3_1.length < 17592186044416 then (some ((x3_1 ++ [bt897.1]), bt897.2.1, bt897.2.2)) else (none))) else (some (x3_1, t889, t890)))) = some (r1, r2, r3) := H
   by_cases c12 : t888 = 0
   ·rw [if_pos c12] at H
    have c12b0 : (t888 == 0) = true := beq_iff_eq.mpr c12
    have c12b1 : (t888 != 0) = false := bne_eq_false_iff_eq.mpr c12
    clear c12
    obtain ⟨y891, hy891⟩ : ∃ y_ : List Int, y_ = (([] : List Int)) := ⟨_, rfl⟩
    replace H : (some (y891, t889, t890)) = some (r1, r2, r3) := by first | (rw [hy891]; with_reducible first | exact H | exact bs H) | (with_reducible first | exact bs H | exact H) | (rw [hy891]; exact H) | exact H
    have Ny891 := am hy891
    clear hy891
    simp only [Option.some.injEq, Prod.mk.injEq] at H
    obtain ⟨rfl, rfl, rfl⟩ := H
    go_wp2_with (first | ((with_reducible refine gate_callee (f := 156) rfl ?_); refine gl (some 22) Try.func156 #[.pointer (some ⟨g, 0, none⟩), .int .i64 16] ?_; (with_reducible refine (spec_l1Below.calls g s0_0 x1001_1 x1002_1 16 t888 t889 t890 w0 _ ?side1 ?side2 A11.out).mono ?_); (case side1 => exact iw HI0.out); (case side2 => exact bv); rintro e w13 ⟨rfl, hi, hb, hk⟩; refine ⟨_, rfl, ?_⟩; replace HO_3 := am (Kd.R_mono (Kd.R_keep (IsS132.apart (show IsS132 w0 _ g s0_0 x1001_1 x1002_1 from (iw HI0.out)) (ro HO_3.out) (by decide)) hk (fun _ h => h.2)) (fun _ h => h.1)); replace HK := am (KeepBut.trans (by repeat (first | (with_reducible first | exact HK.out | apply KeepBut.set_ | apply keep_drewN | apply keep_drew | apply keep_alloc) | exact HK.out)) hk (.inl rfl)); replace HB := am (hb); replace HI0 := am (hi); clear hb hk hi) | ((with_reducible refine gate_dst (N := 25) rfl ?_); refine Kd.R_lit (Kd.int .i64) _ 3 ?hg (N := 25) ?hd (xs := ([] : List Int)) (inner := []) (ok := fun _ => True) (okp := fun _ => True) ?hr ?hp (fun _ hk => hk) trivial (Below.refl _ _) (Nat.le_refl _) (by simp) ?_; (case hd => rfl); (case hg => rfl); (case hr => first | (go_simp; done) | (go_simp; rfl)); (case hp => exact (Reps.none _ _)); intro v892 w14 ho15 hb hg_ hnew_; clear hg_ hnew_; (first | rw [← Ny891.out] at ho15 | (simp only [Int.reduceToNat] at ho15; rw [← Ny891.out] at ho15)); have HO893 := am (Kd.R_lower (Kd.R_new' ho15 (Kd.R_lt (ro HO_3.out))) (keep_size (w := w) (g := g) (row := none) (by repeat (first | (with_reducible first | exact HK.out | apply KeepBut.set_ | apply keep_drewN | apply keep_drew | apply keep_alloc) | exact HK.out)))); replace HO_3 := am (Kd.R_elder' (ro HO_3.out) (Kd.R_base ho15) hb); replace HK := am (KeepBut.trans (by repeat (first | (with_reducible first | exact HK.out | apply KeepBut.set_ | apply keep_drewN | apply keep_drew | apply keep_alloc) | exact HK.out)) (KeepBut.of_below hb g none) (.inl rfl)); replace HB := am (below_step bv hb); replace HI0 := am (IsS132.below (iw HI0.out) hb); clear hb ho15))
    go_ret
    exact ⟨_, re, by (with_reducible repeat (first | apply Kd.R_alloc | apply Kd.R_drewN | apply Kd.R_drew)); exact Kd.R_mono HO893.out (fun _ hk => trivial), (iw HI0.out), bv, by repeat (first | (with_reducible first | exact HK.out | apply KeepBut.set_ | apply keep_drewN | apply keep_drew | apply keep_alloc) | exact HK.out)⟩
   rw [if_neg c12] at H
   have c12b0 : (t888 == 0) = false := beq_eq_false_iff_ne.mpr c12
   have c12b1 : (t888 != 0) = true := bne_iff_ne.mpr c12
   by_cases c16 : t888 = 1
   ·rw [if_pos c16] at H
    have c16b0 : (t888 == 1) = true := beq_iff_eq.mpr c16
    have c16b1 : (t888 != 1) = false := bne_eq_false_iff_eq.mpr c16
    clear c16
    obtain ⟨y894, hy894⟩ : ∃ y_ : List Int, y_ = (([200, 201, (-200), (-201)] : List Int)) := ⟨_, rfl⟩
    replace H : ((spec_l1PickInt.f s0_0 t889 t890 y894).bind fun bt897 => (if x3_1.length < 17592186044416 then (some ((x3_1 ++ [bt897.1]), bt897.2.1, bt897.2.2)) else (none))) = some (r1, r2, r3) := by first | (rw [hy894]; with_reducible first | exact H | exact bs H) | (with_reducible first | exact bs H | exact H) | (rw [hy894]; exact H) | exact H
    have Ny894 := am hy894
    clear hy894
    replace H := ga H; obtain ⟨⟨t897, t898, t899⟩, A17, H⟩ := H
    replace H : (if x3_1.length < 17592186044416 then (some ((x3_1 ++ [t897]), t898, t899)) else (none)) = some (r1, r2, r3) := H
    by_cases c18 : x3_1.length < 17592186044416
    rotate_left
    ·rw [if_neg c18] at H
     exact absurd H (by simp)
    rw [if_pos c18] at H
    have LMc18 := am c18
    clear c18
    obtain ⟨y900, hy900⟩ : ∃ y_ : List Int, y_ = (x3_1 ++ [t897]) := ⟨_, rfl⟩
    replace H : (some (y900, t898, t899)) = some (r1, r2, r3) := by first | (rw [hy900]; with_reducible first | exact H | exact bs H) | (with_reducible first | exact bs H | exact H) | (rw [hy900]; exact H) | exact H
    have Ny900 := am hy900
    clear hy900
    simp only [Option.some.injEq, Prod.mk.injEq] at H
    obtain ⟨rfl, rfl, rfl⟩ := H
    go_wp2_with (first | ((with_reducible refine gate_callee (f := 156) rfl ?_); refine gl (some 22) Try.func156 #[.pointer (some ⟨g, 0, none⟩), .int .i64 16] ?_; (with_reducible refine (spec_l1Below.calls g s0_0 x1001_1 x1002_1 16 t888 t889 t890 w0 _ ?side1 ?side2 A11.out).mono ?_); (case side1 => exact iw HI0.out); (case side2 => exact bv); rintro e w19 ⟨rfl, hi, hb, hk⟩; refine ⟨_, rfl, ?_⟩; replace HO_3 := am (Kd.R_mono (Kd.R_keep (IsS132.apart (show IsS132 w0 _ g s0_0 x1001_1 x1002_1 from (iw HI0.out)) (ro HO_3.out) (by decide)) hk (fun _ h => h.2)) (fun _ h => h.1)); replace HK := am (KeepBut.trans (by repeat (first | (with_reducible first | exact HK.out | apply KeepBut.set_ | apply keep_drewN | apply keep_drew | apply keep_alloc) | exact HK.out)) hk (.inl rfl)); replace HB := am (hb); replace HI0 := am (hi); clear hb hk hi) | ((with_reducible refine gate_dst (N := 30) rfl ?_); refine Kd.R_lit (Kd.int .i64) _ 3 ?hg (N := 30) ?hd (xs := ([200, 201, (-200), (-201)] : List Int)) (inner := [.int .i64 200, .int .i64 201, .int .i64 (-200), .int .i64 (-201)]) (ok := fun _ => True) (okp := fun _ => True) ?hr ?hp (fun _ hk => hk) trivial (Below.refl _ _) (Nat.le_refl _) (by simp) ?_; (case hd => rfl); (case hg => rfl); (case hr => first | (go_simp; done) | (go_simp; rfl)); (case hp => exact (Reps.one (show Kd.M (Kd.int .i64) _ _ _ 200 [.int .i64 200] from rfl) (Reps.one (show Kd.M (Kd.int .i64) _ _ _ 201 [.int .i64 201] from rfl) (Reps.one (show Kd.M (Kd.int .i64) _ _ _ (-200) [.int .i64 (-200)] from rfl) (Reps.one (show Kd.M (Kd.int .i64) _ _ _ (-201) [.int .i64 (-201)] from rfl) (Reps.none _ _)))))); intro v895 w20 ho21 hb hg_ hnew_; clear hg_ hnew_; (first | rw [← Ny894.out] at ho21 | (simp only [Int.reduceToNat] at ho21; rw [← Ny894.out] at ho21)); have HO896 := am (Kd.R_lower (Kd.R_new' ho21 (Kd.R_lt (ro HO_3.out))) (keep_size (w := w) (g := g) (row := none) (by repeat (first | (with_reducible first | exact HK.out | apply KeepBut.set_ | apply keep_drewN | apply keep_drew | apply keep_alloc) | exact HK.out)))); replace HO_3 := am (Kd.R_elder' (ro HO_3.out) (Kd.R_base ho21) hb); replace HK := am (KeepBut.trans (by repeat (first | (with_reducible first | exact HK.out | apply KeepBut.set_ | apply keep_drewN | apply keep_drew | apply keep_alloc) | exact HK.out)) (KeepBut.of_below hb g none) (.inl rfl)); replace HB := am (below_step bv hb); replace HI0 := am (IsS132.below (iw HI0.out) hb); clear hb ho21; obtain ⟨Ao22, co22, eo22⟩ := Kd.R_slice HO896.out; subst eo22) | ((with_reducible refine gate_callee (f := 150) rfl ?_); refine gl (some 31) Try.func150 #[.pointer (some ⟨g, 0, none⟩), .slice Ao22 y894.length co22] ?_; (with_reducible refine (spec_l1PickInt.calls g s0_0 t889 t890 _ _ y894 t897 t898 t899 w0 _ ?side1 ?side2 ?side3 ?side4 ?side5 A17.out).mono ?_); (case side1 => exact iw HI0.out); (case side2 => exact bv); (case side3 => exact co (Kd.R_reads' HO896.out).2.2); (case side4 => exact (Kd.R_reads' HO896.out).2.1); (case side5 => exact far_slice (IsS132.own_ne HI0.out HO896.out (by decide))); rintro e w23 ⟨rfl, hi, hb, hk⟩; refine ⟨_, rfl, ?_⟩; replace HO_3 := am (Kd.R_mono (Kd.R_keep (IsS132.apart (show IsS132 w0 _ g s0_0 t889 t890 from (iw HI0.out)) (ro HO_3.out) (by decide)) hk (fun _ h => h.2)) (fun _ h => h.1)); replace HO896 := am (Kd.R_mono (Kd.R_keep (IsS132.apart (show IsS132 w0 _ g s0_0 t889 t890 from (iw HI0.out)) (ro HO896.out) (by decide)) hk (fun _ h => h.2)) (fun _ h => h.1)); replace HK := am (KeepBut.trans (by repeat (first | (with_reducible first | exact HK.out | apply KeepBut.set_ | apply keep_drewN | apply keep_drew | apply keep_alloc) | exact HK.out)) hk (.inl rfl)); replace HB := am (hb); replace HI0 := am (hi); clear hb hk hi) | ((with_reducible refine gate_builtin (b := .append) (xs := #[.tmp 28, .tmp 32]) rfl ?_); at_builtin; refine Kd.R_append (Kd.int .i64) w.heap.size rfl (.tmp 28) (.tmp 32) 24 3 (.int .i64 0) 8 rfl Try.underlying24 info3 rfl (by decide) (by omega) u3 x3_1 t897 [.int .i64 t897] (fun k_ => nb k_ Ao22 y894 co22) (fun _ => False) rfl rfl ?aP (fun _ hk => hk.elim) ?aF ?aO (Below.refl _ _) ?aS ?aL ?_; (case aP => exact rfl); (case aF => exact (fun k_ hk => Kd.fresh' (Kd.R_lt (ro HO896.out)) k_ hk)); (case aO => exact (by (with_reducible repeat (first | apply Kd.R_alloc | apply Kd.R_drewN | apply Kd.R_drew)); exact Kd.R_mono HO_3.out (fun _ hk => hk.2))); (case aS => exact (keep_size (w := w) (g := g) (row := none) (by repeat (first | (with_reducible first | exact HK.out | apply KeepBut.set_ | apply keep_drewN | apply keep_drew | apply keep_alloc) | exact HK.out)))); (case aL => have := LMc18.out; omega); intro v901 w24 ho hb hg hat; rw [← Ny900.out] at ho; replace HO896 := am (Kd.R_after (ok := (fun _ => True)) (ro HO896.out) hg hat); replace HB := am (below_weaken bv HL.out hb); replace HI0 := am (IsS132.grown (iw HI0.out) hg (IsS132.own_ne HI0.out HO_3.out (by decide))); replace HK := am (KeepBut.trans (by repeat (first | (with_reducible first | exact HK.out | apply KeepBut.set_ | apply keep_drewN | apply keep_drew | apply keep_alloc) | exact HK.out)) (KeepBut.of_grown hg g) (Kd.R_base2 HO_3.out)); have HO902 := am (ho); clear HO_3 ho hb hg hat))
    go_ret
    exact ⟨_, re, by (with_reducible repeat (first | apply Kd.R_alloc | apply Kd.R_drewN | apply Kd.R_drew)); exact Kd.R_mono HO902.out (fun _ hk => trivial), (iw HI0.out), bv, by repeat (first | (with_reducible first | exact HK.out | apply KeepBut.set_ | apply keep_drewN | apply keep_drew | apply keep_alloc) | exact HK.out)⟩
   rw [if_neg c16] at H
   have c16b0 : (t888 == 1) = false := beq_eq_false_iff_ne.mpr c16
   have c16b1 : (t888 != 1) = true := bne_iff_ne.mpr c16
   simp only [Option.some.injEq, Prod.mk.injEq] at H
   obtain ⟨rfl, rfl, rfl⟩ := H
   go_wp2_with (first | ((with_reducible refine gate_callee (f := 156) rfl ?_); refine gl (some 22) Try.func156 #[.pointer (some ⟨g, 0, none⟩), .int .i64 16] ?_; (with_reducible refine (spec_l1Below.calls g s0_0 x1001_1 x1002_1 16 t888 t889 t890 w0 _ ?side1 ?side2 A11.out).mono ?_); (case side1 => exact iw HI0.out); (case side2 => exact bv); rintro e w25 ⟨rfl, hi, hb, hk⟩; refine ⟨_, rfl, ?_⟩; replace HO_3 := am (Kd.R_mono (Kd.R_keep (IsS132.apart (show IsS132 w0 _ g s0_0 x1001_1 x1002_1 from (iw HI0.out)) (ro HO_3.out) (by decide)) hk (fun _ h => h.2)) (fun _ h => h.1)); replace HK := am (KeepBut.trans (by repeat (first | (with_reducible first | exact HK.out | apply KeepBut.set_ | apply keep_drewN | apply keep_drew | apply keep_alloc) | exact HK.out)) hk (.inl rfl)); replace HB := am (hb); replace HI0 := am (hi); clear hb hk hi))
   go_ret
   exact ⟨_, re, ro HO_3.out, (iw HI0.out), bv, by repeat (first | (with_reducible first | exact HK.out | apply KeepBut.set_ | apply keep_drewN | apply keep_drew | apply keep_alloc) | exact HK.out)⟩


/-! ### spec_DrawInIdeal: function 87 -/
def spec_DrawInIdeal.f (k : Nat) (l0 : List Int) : Option (List Int × List Int × Int) := (spec_l1New.f k l0).bind fun bt904 => ((spec_l3Bent.f k bt904.1 bt904.2.1 bt904.2.2).bind fun bt908 => ((spec_l16Draw.f k bt904.1 bt908.2.1 bt908.2.2).bind fun bt914 => ((spec_l1Below.f bt904.1 bt914.2.1 bt914.2.2 50).bind fun bt919 => ((spec_l1Below.f bt904.1 bt919.2.1 bt919.2.2 50).bind fun bt922 => ((spec_l1PickInt.f bt904.1 bt922.2.1 bt922.2.2 (([wrap64 (bt919.1 - 10), wrap64 (bt922.1 - 10), 1000001] : List Int))).bind fun bt928 => (some (bt908.1, bt914.1, bt928.1)))))))
def spec_DrawInIdeal.T4 : Bool × List (List Nat × List Nat) := (true, [([], []), ([], []), ([], []), ([], []), ([3], [3]), ([4], [4]), ([], []), ([6, 4], [6]), ([7], [7]), ([5, 8], [5, 8]), ([2, 9, 7], [2, 9]), ([0, 10, 0], [0]), ([1, 11, 0, 1, 11], [1]), ([10, 12, 0, 1, 2, 3, 4, 5, 6, 7, 8, 9, 10, 11, 12], [10])])
def spec_DrawInIdeal.B4 : List Nat := [0, 0, 0, 0, 8, 24, 0, 88, 216, 504, 1020, 2045, 4095, 8191]
theorem spec_DrawInIdeal.tab4 : rtab .any (opsOf Try.f87 4) = spec_DrawInIdeal.T4 := by kernel_rfl
theorem spec_DrawInIdeal.bits4 : waitsOk spec_DrawInIdeal.T4.2 spec_DrawInIdeal.B4 = true := by kernel_rfl
set_option maxHeartbeats 8000000 in
set_option maxRecDepth 100000 in
theorem spec_DrawInIdeal.calls (k : Nat) (A0 : Option Addr) (c0 : Nat) (l0 : List Int) (r1 : List Int) (r2 : List Int) (r3 : Int) (w : World) (hr0 : Kd.C (Kd.int .u8) w A0 l0.length l0) (hc0 : l0.length ≤ c0) (h : spec_DrawInIdeal.f k l0 = some (r1, r2, r3)) :
  Calls Try.prog 87 #[.slice A0 l0.length c0] w fun e w' => ∃ v0_ v1_ : Value, e = .returned (.tuple #[.agg #[v0_], v1_, .int .i64 r3]) ∧ Kd.Q (Kd.int .i64) 3 w' w.heap.size (fun k_ => some k_ ≠ (v1_ : Value).ownBlock) v0_ r1 ∧ Kd.R (Kd.int .i64) 3 w' w.heap.size (fun k_ => some k_ ≠ (v0_ : Value).ownBlock) v1_ r2 ∧ Below w.heap.size w w' := by
 have hu26 := Try.underlying26
 have HR0 := am hr0
 have HC0 := am hc0
 clear hr0 hc0
 have HB := am (Below.refl w.heap.size w)
 have H : ((spec_l1New.f k l0).bind fun bt904 => ((spec_l3Bent.f k bt904.1 bt904.2.1 bt904.2.2).bind fun bt908 => ((spec_l16Draw.f k bt904.1 bt908.2.1 bt908.2.2).bind fun bt914 => ((spec_l1Below.f bt904.1 bt914.2.1 bt914.2.2 50).bind fun bt919 => ((spec_l1Below.f bt904.1 bt919.2.1 bt919.2.2 50).bind fun bt922 => ((spec_l1PickInt.f bt904.1 bt922.2.1 bt922.2.2 (([wrap64 (bt919.1 - 10), wrap64 (bt922.1 - 10), 1000001] : List Int))).bind fun bt928 => (some (bt908.1, bt914.1, bt928.1)))))))) = some (r1, r2, r3) := h
 clear h
 replace H := ga H; obtain ⟨⟨t904, t905, t906⟩, A2, H⟩ := H
 replace H : ((spec_l3Bent.f k t904 t905 t906).bind fun bt908 => ((spec_l16Draw.f k t904 bt908.2.1 bt908.2.2).bind fun bt914 => ((spec_l1Below.f t904 bt914.2.1 bt914.2.2 50).bind fun bt919 => ((spec_l1Below.f t904 bt919.2.1 bt919.2.2 50).bind fun bt922 => ((spec_l1PickInt.f t904 bt922.2.1 bt922.2.2 (([wrap64 (bt919.1 - 10), wrap64 (bt922.1 - 10), 1000001] : List Int))).bind fun bt928 => (some (bt908.1, bt914.1, bt928.1))))))) = some (r1, r2, r3) := H
 replace H := ga H; obtain ⟨⟨t908, t911, t912⟩, A3, H⟩ := H
 replace H : ((spec_l16Draw.f k t904 t911 t912).bind fun bt914 => ((spec_l1Below.f t904 bt914.2.1 bt914.2.2 50).bind fun bt919 => ((spec_l1Below.f t904 bt919.2.1 bt919.2.2 50).bind fun bt922 => ((spec_l1PickInt.f t904 bt922.2.1 bt922.2.2 (([wrap64 (bt919.1 - 10), wrap64 (bt922.1 - 10), 1000001] : List Int))).bind fun bt928 => (some (t908, bt914.1, bt928.1)))))) = some (r1, r2, r3) := H
 replace H := ga H; obtain ⟨⟨t914, t917, t918⟩, A4, H⟩ := H
 replace H : ((spec_l1Below.f t904 t917 t918 50).bind fun bt919 => ((spec_l1Below.f t904 bt919.2.1 bt919.2.2 50).bind fun bt922 => ((spec_l1PickInt.f t904 bt922.2.1 bt922.2.2 (([wrap64 (bt919.1 - 10), wrap64 (bt922.1 - 10), 1000001] : List Int))).bind fun bt928 => (some (t908, t914, bt928.1))))) = some (r1, r2, r3) := H
 replace H := ga H; obtain ⟨⟨t919, t920, t921⟩, A5, H⟩ := H
 replace H : ((spec_l1Below.f t904 t920 t921 50).bind fun bt922 => ((spec_l1PickInt.f t904 bt922.2.1 bt922.2.2 (([wrap64 (t919 - 10), wrap64 (bt922.1 - 10), 1000001] : List Int))).bind fun bt928 => (some (t908, t914, bt928.1)))) = some (r1, r2, r3) := H
 replace H := ga H; obtain ⟨⟨t922, t923, t924⟩, A6, H⟩ := H
 replace H : ((spec_l1PickInt.f t904 t923 t924 (([wrap64 (t919 - 10), wrap64 (t922 - 10), 1000001] : List Int))).bind fun bt928 => (some (t908, t914, bt928.1))) = some (r1, r2, r3) := H
 obtain ⟨y925, hy925⟩ : ∃ y_ : List Int, y_ = (([wrap64 (t919 - 10), wrap64 (t922 - 10), 1000001] : List Int)) := ⟨_, rfl⟩
 replace H : ((spec_l1PickInt.f t904 t923 t924 y925).bind fun bt928 => (some (t908, t914, bt928.1))) = some (r1, r2, r3) := by first | (rw [hy925]; with_reducible first | exact H | exact bs H) | (with_reducible first | exact bs H | exact H) | (rw [hy925]; exact H) | exact H
 have Ny925 := am hy925
 clear hy925
 replace H := ga H; obtain ⟨⟨t928, t929, t930⟩, A7, H⟩ := H
 replace H : (some (t908, t914, t928)) = some (r1, r2, r3) := H
 simp only [Option.some.injEq, Prod.mk.injEq] at H
 obtain ⟨rfl, rfl, rfl⟩ := H
 go_enter Try.func87, Try.ntmps87
 try go_wp2_with (first | ((with_reducible refine gate_dst (N := 2) rfl ?_); refine bx 2 #[.slice none 0 0] 26 ?_; intro gb903 hg w8 hbox hb; have BK903 := am (hbox); have GW903 := am (gs hg : w.heap.size ≤ gb903); have GE903 := GW903; replace HB := am (below_step bw hb); clear hb hbox hg) | ((with_reducible refine gate_callee (f := 131) rfl ?_); refine gl (some 9) Try.func131 #[.slice A0 l0.length c0] ?_; (with_reducible refine (spec_l1New.calls k _ _ l0 t904 t905 t906 w _ ?side1 ?side2 ?side3 A2.out).mono ?_); (case side1 => exact bw); (case side2 => exact HR0.out); (case side3 => exact HC0.out); rintro e w9 ⟨g907, rfl, hi, hb, hb2⟩; refine ⟨_, rfl, ?_⟩; replace HB := am (hb); have HI907 := am (hi); have NB907_903 := am (IsS132.ne_blk hi (blk_below (g := gb903) (o := .cells #[.slice none 0 0] 26 (0, 0)) (bo BK903.out) hb2) (by decide)); have NB903_907 := ns NB907_903; replace BK903 := kb BK903 hb2; clear hb hb2 hi) | ((with_reducible refine gate_callee (f := 130) rfl ?_); refine gl (some 11) Try.func130 #[.pointer (some ⟨g907, 0, none⟩)] ?_; (with_reducible refine (spec_l3Bent.calls k g907 t904 t905 t906 t908 t911 t912 w _ ?side1 ?side2 A3.out).mono ?_); (case side1 => exact iw HI907.out); (case side2 => exact bv); rintro e w10 ⟨v909, rfl, ho0, hi, hb, hk⟩; refine ⟨_, rfl, ?_⟩; replace BK903 := kk hk BK903 NB903_907; have HO910 := am (Kd.Q_lower ho0 (below_size bv)); replace HB := am (hb); replace HI907 := am (hi); clear hb hk hi ho0) | ((with_reducible refine gate_dst (N := 6) rfl ?_); refine bx 6 #[.slice none 0 0] 26 ?_; intro gb913 hg w11 hbox hb; replace HO910 := qK HO910 hb; have BK913 := am (hbox); have GW913 := am ((by rw [hg]; exact (below_size bv) : w.heap.size ≤ gb913)); have GE913 := GW913; replace HB := am (below_step bv hb); have NB903_913 := nl hg BK903; have NB913_903 := ns NB903_913; replace BK903 := kb BK903 hb; have NB907_913 := am ((by rw [hg]; exact Nat.ne_of_lt (IsS132.lt (show IsS132 w _ g907 t904 t911 t912 from (iw HI907.out))) : g907 ≠ gb913)); have NB913_907 := ns NB907_913; replace HI907 := am (IsS132.below (iw HI907.out) hb); clear hb hbox hg; obtain ⟨Ao12, co12, eo12, _⟩ := Kd.Q_slice HO910.out; subst eo12; have hnb13 := NB913_903.out; have hnc13 := NB903_913.out; have hnb14 := NB913_907.out; have hnc14 := NB907_913.out; have hcz15_0 := bc BK913 0 (.slice none 0 0); have hfz15_0 := blk_frozen BK913.out 0) | ((with_reducible refine gate_callee (f := 194) rfl ?_); refine gl (some 13) Try.func194 #[.pointer (some ⟨g907, 0, none⟩)] ?_; (with_reducible refine (spec_l16Draw.calls k g907 t904 t911 t912 t914 t917 t918 w _ ?side1 ?side2 A4.out).mono ?_); (case side1 => exact iw HI907.out); (case side2 => exact bv); rintro e w16 ⟨v915, rfl, ho0, hi, hb, hk⟩; refine ⟨_, rfl, ?_⟩; replace BK903 := kk hk BK903 NB903_907; have HO916 := am (Kd.R_lower (Kd.R_new' ho0 (Kd.Q_lt (qF HO910 BK913 (.slice Ao12 t908.length co12)))) (below_size bv)); replace HO910 := am (Kd.Q_mono (Kd.Q_told (Kd.Q_oldK (IsS132.apartQ (show IsS132 w _ g907 t904 t911 t912 from (iw HI907.out)) (qF HO910 BK913 (.slice Ao12 t908.length co12)) (by decide)) hk) (Kd.R_base ho0)) (fun _ h_ => h_.1)); replace BK913 := am (KeepBut.blk hk (g' := gb913) (o := .cells #[.slice Ao12 t908.length co12] 26 (0, 0)) (by (with_reducible repeat (first | refine blk_drewN ?_ _ | refine blk_drew ?_ | refine blk_alloc ?_ _)); refine blk_put (cs := #[.slice none 0 0]) ?_ 0 _ rfl; (with_reducible repeat (first | refine blk_drewN ?_ _ | refine blk_drew ?_ | refine blk_alloc ?_ _)); exact BK913.out) NB913_907.out (by simp)); replace HB := am (hb); replace HI907 := am (hi); clear hb hk hi ho0))
 replace HO910 := am (Kd.Q_drew HO910.out)
 replace HO916 := am (Kd.R_drew HO916.out)
 replace BK903 := bd BK903
 replace BK913 := bd BK913
 replace HI907 := am (IsS132.drew HI907.out)
 replace HB := am (below_drew1 HB.out)
 refine start_ (n := 14) (S := fun w' => w'.cell? ⟨gb913, 0, none⟩ = some (.slice Ao12 t908.length co12)) (ds := []) (yz 14 0) (by kernel_rfl) rfl rfl (bc BK913 0 _) (fun hHeld => ?_); refine with_tabW spec_DrawInIdeal.tab4 spec_DrawInIdeal.bits4 (fun HT_ HW_ => ?_)
 generalize w16.drew = w17 at HO910 HO916 BK903 BK913 HI907 HB hHeld ⊢
 refine pa 1 (some 15) (yz 14 2) HT_ ?_
 refine pa 2 (some 16) (yz 14 6) HT_ ?_
 refine pa 3 (some 17) (yz 14 14) HT_ ?_
 refine pa 6 (some 20) (yz 14 78) HT_ ?_
 refine tK 0 (some 14) (yz 14 79) HT_ HW_ hHeld ?_
 refine oa 4 (some 18) (yz 14 95) HT_ (fun K hK => ?_)
 refine gm Try.func156 #[.pointer (some ⟨g907, 0, none⟩), .int .i64 50] ?_
 with_reducible refine (spec_l1Below.calls g907 t904 t917 t918 50 t919 t920 t921 w _ ?side1 ?side2 A5.out).mono ?_
 (case side1 => exact iw HI907.out)
 (case side2 => exact bv)
 rintro e w18 ⟨rfl, hi, hb, hk⟩
 refine ⟨_, rfl, ?_⟩
 replace BK903 := kk hk BK903 NB903_907
 replace HO910 := am (Kd.Q_mono (Kd.Q_keep (IsS132.apartQ (show IsS132 w _ g907 t904 t917 t918 from (iw HI907.out)) (qo HO910.out) (by decide)) hk (fun _ h => h.2)) (fun _ h => h.1))
 replace BK913 := kk hk BK913 NB913_907
 replace HO916 := am (Kd.R_mono (Kd.R_keep (IsS132.apart (show IsS132 w _ g907 t904 t917 t918 from (iw HI907.out)) (ro HO916.out) (by decide)) hk (fun _ h => h.2)) (fun _ h => h.1))
 replace HB := am (hb)
 replace HI907 := am (hi)
 clear hb hk hi
 refine hK.out _ _ (bc BK913 0 _) (fun hHeld => ?_)
 clear hK K
 refine nm (some 18) ?_
 refine pa 5 (some 19) (yz 14 127) HT_ ?_
 refine oa 7 (some 21) (yz 14 255) HT_ (fun K hK => ?_)
 refine gm Try.func156 #[.pointer (some ⟨g907, 0, none⟩), .int .i64 50] ?_
 with_reducible refine (spec_l1Below.calls g907 t904 t920 t921 50 t922 t923 t924 w _ ?side1 ?side2 A6.out).mono ?_
 (case side1 => exact iw HI907.out)
 (case side2 => exact bv)
 rintro e w19 ⟨rfl, hi, hb, hk⟩
 refine ⟨_, rfl, ?_⟩
 replace BK903 := kk hk BK903 NB903_907
 replace HO910 := am (Kd.Q_mono (Kd.Q_keep (IsS132.apartQ (show IsS132 w _ g907 t904 t920 t921 from (iw HI907.out)) (qo HO910.out) (by decide)) hk (fun _ h => h.2)) (fun _ h => h.1))
 replace BK913 := kk hk BK913 NB913_907
 replace HO916 := am (Kd.R_mono (Kd.R_keep (IsS132.apart (show IsS132 w _ g907 t904 t920 t921 from (iw HI907.out)) (ro HO916.out) (by decide)) hk (fun _ h => h.2)) (fun _ h => h.1))
 replace HB := am (hb)
 replace HI907 := am (hi)
 clear hb hk hi
 refine hK.out _ _ (bc BK913 0 _) (fun hHeld => ?_)
 clear hK K
 refine nm (some 21) ?_
 refine pa 8 (some 22) (yz 14 511) HT_ ?_
 refine oa 9 (some 23) (yz 14 1023) HT_ (fun K hK => ?_)
 refine Kd.R_lit_step (Kd.int .i64) _ 3 ?hg (N := 23) ?hd (xs := ([wrap64 (t919 - 10), wrap64 (t922 - 10), 1000001] : List Int)) (inner := [.int .i64 (wrap64 (t919 - 10)), .int .i64 (wrap64 (t922 - 10)), .int .i64 1000001]) (ok := fun _ => True) (okp := fun _ => True) ?hr ?hp (fun _ hk => hk) trivial (Below.refl _ _) (Nat.le_refl _) (by simp) ?_; (case hd => rfl); (case hg => rfl); (case hr => first | (go_simp; done) | (go_simp; rfl)); (case hp => exact (Reps.one (show Kd.M (Kd.int .i64) _ _ _ (wrap64 (t919 - 10)) [.int .i64 (wrap64 (t919 - 10))] from rfl) (Reps.one (show Kd.M (Kd.int .i64) _ _ _ (wrap64 (t922 - 10)) [.int .i64 (wrap64 (t922 - 10))] from rfl) (Reps.one (show Kd.M (Kd.int .i64) _ _ _ 1000001 [.int .i64 1000001] from rfl) (Reps.none _ _)))))
 intro v926 w20 ho21 hb hg_ hnew_
 clear hg_ hnew_
 (first | rw [← Ny925.out] at ho21 | (simp only [Int.reduceToNat] at ho21; rw [← Ny925.out] at ho21))
 have HO927 := am (Kd.R_lower (Kd.R_new' (Kd.R_new' ho21 (Kd.Q_lt (qo HO910.out))) (Kd.R_lt (ro HO916.out))) (below_size bv))
 replace HO910 := am (Kd.Q_elder' (qo HO910.out) (Kd.R_base ho21) hb)
 replace HO916 := am (Kd.R_elder' (ro HO916.out) (Kd.R_base ho21) hb)
 replace BK903 := kb BK903 hb
 replace BK913 := kb BK913 hb
 replace HB := am (below_step bv hb)
 replace HI907 := am (IsS132.below (iw HI907.out) hb)
 clear hb ho21
 obtain ⟨Ao22, co22, eo22⟩ := Kd.R_slice HO927.out
 (first | subst eo22 | (injection eo22 with f1_ f2_ f3_; have f4_ := f1_.symm; have f5_ := f3_.symm; clear f1_ f2_ f3_; subst f4_; subst f5_))
 refine hK.out _ _ (bc BK913 0 _) (fun hHeld => ?_)
 clear hK K
 refine nm (some 23) ?_
 refine oa 10 (some 24) (yz 14 2047) HT_ (fun K hK => ?_)
 refine gm Try.func150 #[.pointer (some ⟨g907, 0, none⟩), .slice Ao22 y925.length co22] ?_
 with_reducible refine (spec_l1PickInt.calls g907 t904 t923 t924 _ _ y925 t928 t929 t930 w _ ?side1 ?side2 ?side3 ?side4 ?side5 A7.out).mono ?_
 (case side1 => exact iw HI907.out)
 (case side2 => exact bv)
 (case side3 => exact co (Kd.R_reads' HO927.out).2.2)
 (case side4 => exact (Kd.R_reads' HO927.out).2.1)
 (case side5 => exact far_slice (IsS132.own_ne HI907.out HO927.out (by decide)))
 rintro e w23 ⟨rfl, hi, hb, hk⟩
 refine ⟨_, rfl, ?_⟩
 replace BK903 := kk hk BK903 NB903_907
 replace HO910 := am (Kd.Q_mono (Kd.Q_keep (IsS132.apartQ (show IsS132 w _ g907 t904 t923 t924 from (iw HI907.out)) (qo HO910.out) (by decide)) hk (fun _ h => h.2)) (fun _ h => h.1))
 replace BK913 := kk hk BK913 NB913_907
 replace HO916 := am (Kd.R_mono (Kd.R_keep (IsS132.apart (show IsS132 w _ g907 t904 t923 t924 from (iw HI907.out)) (ro HO916.out) (by decide)) hk (fun _ h => h.2)) (fun _ h => h.1))
 replace HO927 := am (Kd.R_mono (Kd.R_keep (IsS132.apart (show IsS132 w _ g907 t904 t923 t924 from (iw HI907.out)) (ro HO927.out) (by decide)) hk (fun _ h => h.2)) (fun _ h => h.1))
 replace HB := am (hb)
 replace HI907 := am (hi)
 clear hb hk hi
 refine hK.out _ _ (bc BK913 0 _) (fun hHeld => ?_)
 clear hK K
 refine nm (some 24) ?_
 refine oa 11 none (yz 14 4095) HT_ (fun K hK => ?_)
 have hs24 := bc BK903 0 (.slice none 0 0)
 have hfs24 := blk_frozen BK903.out 0
 have hns24_1 := NB913_903.out
 have hms24_1 := NB903_913.out
 refine skip_ (w1 := ?_) (by rfl) rfl ?_ ?_
 rotate_left
 ·go_simp
  rfl
 refine hK.out _ _ (((cell_far (p := ⟨gb903, _, none⟩) NB913_903.out _).trans (hHeld))) (fun hHeld => ?_)
 clear hK K
 refine pa 12 (some 3) (yz 14 8191) HT_ ?_
 refine pa 13 (some 4) (yz 14 16383) HT_ ?_
 refine done_ (done_of HT_.out (by kernel_rfl)) ?_
 try go_wp2
 refine bodyPost_ret (results_ctt rfl _ _ gb903 26 #[.slice Ao12 t908.length co12] (0, 0) _ rfl (by (with_reducible repeat (first | refine blk_drewN ?_ _ | refine blk_drew ?_ | refine blk_alloc ?_ _)); refine blk_put (cs := #[.slice none 0 0]) ?_ 0 _ rfl; (with_reducible repeat (first | refine blk_drewN ?_ _ | refine blk_drew ?_ | refine blk_alloc ?_ _)); exact BK903.out) Try.underlying26 rfl (by kernel_rfl)) rfl ?_
 exact ⟨_, _, re, by (with_reducible repeat (first | apply Kd.Q_alloc | apply Kd.Q_drewN | apply Kd.Q_drew)); exact Kd.Q_mono (Kd.Q_far (p := ⟨gb903, 0, none⟩) (Kd.Q_types HO910.out BK903.out (by decide)) (fun _ hk => hk.2) (.slice Ao12 t908.length co12)) (fun _ hk => by first | exact hk.1.1.2 | simp_all), by (with_reducible repeat (first | apply Kd.R_alloc | apply Kd.R_drewN | apply Kd.R_drew)); exact Kd.R_mono (Kd.R_far (p := ⟨gb903, 0, none⟩) (Kd.R_types HO916.out BK903.out (by decide)) (fun _ hk => hk.2) (.slice Ao12 t908.length co12)) (fun _ hk => by first | exact hk.1.1.2 | simp_all), bv⟩


/-! ### spec_FormatInt: function 195 -/
def spec_FormatInt.l0 : Nat → Int → Bool → ByteArray → Option (ByteArray)
 | 0, _, _, _ => none
 | k + 1, x0, x3, x4 => if x0 = 0 then (if x3 = true then (if 1 + x4.size ≤ 9223372036854775807 then (some ((⟨#[45]⟩ : ByteArray) ++ x4)) else (none)) else (some x4)) else (if (Int.tmod x0 10) < 0 then ((some (([(wrap64 (48 + (wrap64 (-(Int.tmod x0 10))))) % 256] : List Int) : List Int)).bind fun y931 => (if (strOfNums y931).size + x4.size ≤ 9223372036854775807 then (spec_FormatInt.l0 k (wrap64 (Int.tdiv x0 10)) x3 ((strOfNums y931) ++ x4)) else (none))) else ((some (([(wrap64 (48 + (Int.tmod x0 10))) % 256] : List Int) : List Int)).bind fun y934 => (if (strOfNums y934).size + x4.size ≤ 9223372036854775807 then (spec_FormatInt.l0 k (wrap64 (Int.tdiv x0 10)) x3 ((strOfNums y934) ++ x4)) else (none))))
def spec_FormatInt.f (k : Nat) (a0 : Int) : Option (ByteArray) := if a0 = 0 then (some (⟨#[48]⟩ : ByteArray)) else (spec_FormatInt.l0 k a0 (decide (a0 < 0)) (⟨#[]⟩ : ByteArray))
set_option maxHeartbeats 8000000 in
set_option maxRecDepth 100000 in
theorem spec_FormatInt.calls (k : Nat) (a0 : Int) (r : ByteArray) (w : World) (h : spec_FormatInt.f k a0 = some r) :
  Calls Try.prog 195 #[.int .i64 a0] w fun e w' => e = .returned (.string r) ∧ Below w.heap.size w w' := by
 have HB := am (Below.refl w.heap.size w)
 have H : (if a0 = 0 then (some (⟨#[48]⟩ : ByteArray)) else (spec_FormatInt.l0 k a0 (decide (a0 < 0)) (⟨#[]⟩ : ByteArray))) = some r := h
 clear h
 by_cases c2 : a0 = 0
 ·rw [if_pos c2] at H
  have c2b0 : (a0 == 0) = true := beq_iff_eq.mpr c2
  have c2b1 : (a0 != 0) = false := bne_eq_false_iff_eq.mpr c2
  clear c2
  obtain rfl := Option.some.inj H
  go_enter Try.func195, Try.ntmps195
  go_wp2
  go_ret
  exact ⟨re, bw⟩
 rw [if_neg c2] at H
 have c2b0 : (a0 == 0) = false := beq_eq_false_iff_ne.mpr c2
 have c2b1 : (a0 != 0) = true := bne_iff_ne.mpr c2
 have H' := am H
 clear H
 go_enter Try.func195, Try.ntmps195
 go_wp2
 go_loopg [0, 4] k (fun kq v0 v4 w' => ∃ (x0_1 : Int) (x4_1 : ByteArray), v0 = .int .i64 x0_1 ∧ v4 = .string x4_1 ∧ Aside0 (spec_FormatInt.l0 kq x0_1 (decide (a0 < 0)) x4_1 = some r) ∧ Aside0 (kq ≤ k) ∧ Aside0 (Below w.heap.size w w'))
 case atStart => exact ⟨(a0), ((⟨#[]⟩ : ByteArray)), rr, rr, H', ⟨Nat.le_refl _⟩, ⟨bw⟩⟩
 case round =>
  clear H'
  try clear c2; try clear c2b0; try clear c2b1
  obtain ⟨x0_1, x4_1, rfl, rfl, HA, HK1, HB⟩ := hrel
  cases gk with
  | zero => exact absurd HA.out (by simp [spec_FormatInt.l0])
  | succ k1 =>
   have H := HA.out
   clear HA
   simp only [spec_FormatInt.l0] at H
   by_cases c3 : x0_1 = 0
   ·rw [if_pos c3] at H
    have c3b0 : (x0_1 == 0) = true := beq_iff_eq.mpr c3
    have c3b1 : (x0_1 != 0) = false := bne_eq_false_iff_eq.mpr c3
    clear c3
    replace H := gj H; obtain ⟨c4, H⟩ | ⟨c4, H⟩ := H
    ·have c4b0 : (decide (a0 < 0)) = true := c4
     have c4b9 := of_decide_eq_true c4b0
     clear c4
     by_cases c5 : 1 + x4_1.size ≤ 9223372036854775807
     rotate_left
     ·rw [if_neg c5] at H
      exact absurd H (by simp)
     rw [if_pos c5] at H
     have c5b0 := eq_true c5
     have c5b1 : decide (1 + x4_1.size ≤ 9223372036854775807) = true := decide_eq_true c5
     try have c5b2 : (9223372036854775807 < 1 + x4_1.size) = False := eq_false (Nat.not_lt.2 c5)
     obtain rfl := Option.some.inj H
     go_wp2
     go_ret
     exact ⟨re, bw⟩
    have c4b0 : (decide (a0 < 0)) = false := by simpa using c4
    have c4b9 := of_decide_eq_false c4b0
    clear c4
    obtain rfl := Option.some.inj H
    go_wp2
    go_ret
    exact ⟨re, bw⟩
   rw [if_neg c3] at H
   have c3b0 : (x0_1 == 0) = false := beq_eq_false_iff_ne.mpr c3
   have c3b1 : (x0_1 != 0) = true := bne_iff_ne.mpr c3
   replace H := gi H; obtain ⟨c6b0, H⟩ | ⟨c6b0, H⟩ := H
   ·obtain ⟨y931, hy931⟩ : ∃ y_ : List Int, y_ = (([(wrap64 (48 + (wrap64 (-(Int.tmod x0_1 10))))) % 256] : List Int)) := ⟨_, rfl⟩
    replace H : (if (strOfNums y931).size + x4_1.size ≤ 9223372036854775807 then (spec_FormatInt.l0 k1 (wrap64 (Int.tdiv x0_1 10)) (decide (a0 < 0)) ((strOfNums y931) ++ x4_1)) else (none)) = some r := by first | (rw [hy931]; with_reducible first | exact H | exact bs H) | (with_reducible first | exact bs H | exact H) | (rw [hy931]; exact H) | exact H
    have Ny931 := am hy931
    clear hy931
    by_cases c7 : (strOfNums y931).size + x4_1.size ≤ 9223372036854775807
    rotate_left
    ·rw [if_neg c7] at H
     exact absurd H (by simp)
    rw [if_pos c7] at H
    have c7b0 := eq_true c7
    have c7b1 : decide ((strOfNums y931).size + x4_1.size ≤ 9223372036854775807) = true := decide_eq_true c7
    try have c7b2 : (9223372036854775807 < (strOfNums y931).size + x4_1.size) = False := eq_false (Nat.not_lt.2 c7)
    have H' := am H
    clear H
    go_wp2_with (first | ((with_reducible refine gate_dst (N := 21) rfl ?_); refine Kd.R_lit (Kd.int .u8) _ 5 ?hg (N := 21) ?hd (xs := ([(wrap64 (48 + (wrap64 (-(Int.tmod x0_1 10))))) % 256] : List Int)) (inner := [.int .u8 ((wrap64 (48 + (wrap64 (-(Int.tmod x0_1 10))))) % 256)]) (ok := fun _ => True) (okp := fun _ => True) ?hr ?hp (fun _ hk => hk) trivial (Below.refl _ _) (Nat.le_refl _) (by simp) ?_; (case hd => rfl); (case hg => rfl); (case hr => first | (go_simp; done) | (go_simp; rfl)); (case hp => exact (Reps.one (show Kd.M (Kd.int .u8) _ _ _ ((wrap64 (48 + (wrap64 (-(Int.tmod x0_1 10))))) % 256) [.int .u8 ((wrap64 (48 + (wrap64 (-(Int.tmod x0_1 10))))) % 256)] from rfl) (Reps.none _ _))); intro v932 w8 ho9 hb hg_ hnew_; clear hg_ hnew_; (first | rw [← Ny931.out] at ho9 | (simp only [Int.reduceToNat] at ho9; rw [← Ny931.out] at ho9)); have HO933 := am (Kd.R_lower ho9 (below_size bw)); replace HB := am (below_step bw hb); clear hb ho9; have hcv10 := own_string (P := Try.prog) Try.underlying22 Try.underlying5 Try.underlying9 (Kd.own_of_R HO933.out)))
    go_roundg k1
    case measure => have := HK1.out; omega
    case rel => exact ⟨(wrap64 (Int.tdiv x0_1 10)), ((strOfNums y931) ++ x4_1), rr, rr, H', ⟨by have := HK1.out; omega⟩, ⟨bw⟩⟩
   obtain ⟨y934, hy934⟩ : ∃ y_ : List Int, y_ = (([(wrap64 (48 + (Int.tmod x0_1 10))) % 256] : List Int)) := ⟨_, rfl⟩
   replace H : (if (strOfNums y934).size + x4_1.size ≤ 9223372036854775807 then (spec_FormatInt.l0 k1 (wrap64 (Int.tdiv x0_1 10)) (decide (a0 < 0)) ((strOfNums y934) ++ x4_1)) else (none)) = some r := by first | (rw [hy934]; with_reducible first | exact H | exact bs H) | (with_reducible first | exact bs H | exact H) | (rw [hy934]; exact H) | exact H
   have Ny934 := am hy934
   clear hy934
   by_cases c11 : (strOfNums y934).size + x4_1.size ≤ 9223372036854775807
   rotate_left
   ·rw [if_neg c11] at H
    exact absurd H (by simp)
   rw [if_pos c11] at H
   have c11b0 := eq_true c11
   have c11b1 : decide ((strOfNums y934).size + x4_1.size ≤ 9223372036854775807) = true := decide_eq_true c11
   try have c11b2 : (9223372036854775807 < (strOfNums y934).size + x4_1.size) = False := eq_false (Nat.not_lt.2 c11)
   have H' := am H
   clear H
   go_wp2_with (first | ((with_reducible refine gate_dst (N := 21) rfl ?_); refine Kd.R_lit (Kd.int .u8) _ 5 ?hg (N := 21) ?hd (xs := ([(wrap64 (48 + (Int.tmod x0_1 10))) % 256] : List Int)) (inner := [.int .u8 ((wrap64 (48 + (Int.tmod x0_1 10))) % 256)]) (ok := fun _ => True) (okp := fun _ => True) ?hr ?hp (fun _ hk => hk) trivial (Below.refl _ _) (Nat.le_refl _) (by simp) ?_; (case hd => rfl); (case hg => rfl); (case hr => first | (go_simp; done) | (go_simp; rfl)); (case hp => exact (Reps.one (show Kd.M (Kd.int .u8) _ _ _ ((wrap64 (48 + (Int.tmod x0_1 10))) % 256) [.int .u8 ((wrap64 (48 + (Int.tmod x0_1 10))) % 256)] from rfl) (Reps.none _ _))); intro v935 w12 ho13 hb hg_ hnew_; clear hg_ hnew_; (first | rw [← Ny934.out] at ho13 | (simp only [Int.reduceToNat] at ho13; rw [← Ny934.out] at ho13)); have HO936 := am (Kd.R_lower ho13 (below_size bw)); replace HB := am (below_step bw hb); clear hb ho13; have hcv14 := own_string (P := Try.prog) Try.underlying22 Try.underlying5 Try.underlying9 (Kd.own_of_R HO936.out)))
   go_roundg k1
   case measure => have := HK1.out; omega
   case rel => exact ⟨(wrap64 (Int.tdiv x0_1 10)), ((strOfNums y934) ++ x4_1), rr, rr, H', ⟨by have := HK1.out; omega⟩, ⟨bw⟩⟩


/-! ### spec_Join: function 196 -/
def spec_Join.l0 : Nat → List ByteArray → ByteArray → List Int → Int → Option (ByteArray)
 | 0, _, _, _, _ => none
 | k + 1, x0, x1, x5, x6 => if x6 < (x0.length : Int) then (if x6 > 0 then (if x5.length + x1.size < 140737488355328 then ((some (x5 ++ bytesOf x1 : List Int)).bind fun y940 => (if 0 ≤ x6 then (if y940.length + (rdOf ByteArray.empty x0 x6).size < 140737488355328 then (spec_Join.l0 k x0 x1 (y940 ++ bytesOf (rdOf ByteArray.empty x0 x6)) (wrap64 (x6 + 1))) else (none)) else (none))) else (none)) else (if 0 ≤ x6 then (if x5.length + (rdOf ByteArray.empty x0 x6).size < 140737488355328 then (spec_Join.l0 k x0 x1 (x5 ++ bytesOf (rdOf ByteArray.empty x0 x6)) (wrap64 (x6 + 1))) else (none)) else (none))) else (some (strOfNums x5))
def spec_Join.f (k : Nat) (l0 : List ByteArray) (a1 : ByteArray) : Option (ByteArray) := spec_Join.l0 k l0 a1 (([] : List Int)) 0
set_option maxHeartbeats 8000000 in
set_option maxRecDepth 100000 in
theorem spec_Join.calls (k : Nat) (A0 : Option Addr) (c0 : Nat) (l0 : List ByteArray) (a1 : ByteArray) (r : ByteArray) (w : World) (hr0 : Kd.C Kd.string w A0 l0.length l0) (hc0 : l0.length ≤ c0) (h : spec_Join.f k l0 a1 = some r) :
  Calls Try.prog 196 #[.slice A0 l0.length c0, .string a1] w fun e w' => e = .returned (.string r) ∧ Below w.heap.size w w' := by
 have HR0 := am hr0
 have HC0 := am hc0
 clear hr0 hc0
 have HB := am (Below.refl w.heap.size w)
 have H : (spec_Join.l0 k l0 a1 (([] : List Int)) 0) = some r := h
 clear h
 obtain ⟨y937, hy937⟩ : ∃ y_ : List Int, y_ = (([] : List Int)) := ⟨_, rfl⟩
 replace H : (spec_Join.l0 k l0 a1 y937 0) = some r := by first | (rw [hy937]; with_reducible first | exact H | exact bs H) | (with_reducible first | exact bs H | exact H) | (rw [hy937]; exact H) | exact H
 have Ny937 := am hy937
 clear hy937
 have H' := am H
 clear H
 go_enter Try.func196, Try.ntmps196
 go_wp2_with (first | ((with_reducible refine gate_dst (N := 7) rfl ?_); refine Kd.R_lit (Kd.int .u8) _ 5 ?hg (N := 7) ?hd (xs := ([] : List Int)) (inner := []) (ok := fun _ => True) (okp := fun _ => True) ?hr ?hp (fun _ hk => hk) trivial (Below.refl _ _) (Nat.le_refl _) (by simp) ?_; (case hd => rfl); (case hg => rfl); (case hr => first | (go_simp; done) | (go_simp; rfl)); (case hp => exact (Reps.none _ _)); intro v938 w3 ho4 hb hg_ hnew_; clear hg_ hnew_; (first | rw [← Ny937.out] at ho4 | (simp only [Int.reduceToNat] at ho4; rw [← Ny937.out] at ho4)); have HO939 := am (Kd.R_lower ho4 (below_size bw)); replace HB := am (below_step bw hb); clear hb ho4))
 go_loopg [5, 6] k (fun kq v5 v6 w' => ∃ (x5_1 : List Int) (x6_1 : Int), v6 = .int .i64 x6_1 ∧ Aside0 (spec_Join.l0 kq l0 a1 x5_1 x6_1 = some r) ∧ Aside0 (kq ≤ k) ∧ Aside0 (Kd.R (Kd.int .u8) 5 w' w.heap.size (fun _ => True) v5 x5_1) ∧ Aside0 (Below w.heap.size w w'))
 case atStart => exact ⟨(y937), (0), rr, H', ⟨Nat.le_refl _⟩, ⟨ro HO939.out⟩, ⟨bw⟩⟩
 case round =>
  clear H'
  obtain ⟨x5_1, x6_1, rfl, HA, HK1, HO_5, HB⟩ := hrel
  cases gk with
  | zero => exact absurd HA.out (by simp [spec_Join.l0])
  | succ k1 =>
   have H := HA.out
   clear HA
   simp only [spec_Join.l0] at H
   replace H := gi H; obtain ⟨c5b0, H⟩ | ⟨c5b0, H⟩ := H
   ·replace H := gj H; obtain ⟨c6, H⟩ | ⟨c6, H⟩ := H
    ·have c6b0 : decide (0 < x6_1) = true := decide_eq_true c6
     clear c6
     by_cases c7 : x5_1.length + a1.size < 140737488355328
     rotate_left
     ·rw [if_neg c7] at H
      exact absurd H (by simp)
     rw [if_pos c7] at H
     have LMc7 := am c7
     clear c7
     obtain ⟨y940, hy940⟩ : ∃ y_ : List Int, y_ = (x5_1 ++ bytesOf a1) := ⟨_, rfl⟩
     replace H : (if 0 ≤ x6_1 then (if y940.length + (rdOf ByteArray.empty l0 x6_1).size < 140737488355328 then (spec_Join.l0 k1 l0 a1 (y940 ++ bytesOf (rdOf ByteArray.empty l0 x6_1)) (wrap64 (x6_1 + 1))) else (none)) else (none)) = some r := by first | (rw [hy940]; with_reducible first | exact H | exact bs H) | (with_reducible first | exact bs H | exact H) | (rw [hy940]; exact H) | exact H
     have Ny940 := am hy940
     clear hy940
     replace H := gd H; obtain ⟨c8b0, H⟩ := H
     by_cases c9 : y940.length + (rdOf ByteArray.empty l0 x6_1).size < 140737488355328
     rotate_left
     ·rw [if_neg c9] at H
      exact absurd H (by simp)
     rw [if_pos c9] at H
     have LMc9 := am c9
     clear c9
     obtain ⟨y944, hy944⟩ : ∃ y_ : List Int, y_ = (y940 ++ bytesOf (rdOf ByteArray.empty l0 x6_1)) := ⟨_, rfl⟩
     replace H : (spec_Join.l0 k1 l0 a1 y944 (wrap64 (x6_1 + 1))) = some r := by first | (rw [hy944]; with_reducible first | exact H | exact bs H) | (with_reducible first | exact bs H | exact H) | (rw [hy944]; exact H) | exact H
     have Ny944 := am hy944
     clear hy944
     have H' := am H
     clear H
     go_wp2_with (first | (at_builtin; refine print_append_str (w0 := w) w.heap.size rfl (.tmp 16) _ 22 9 5 rfl Try.underlying22 Try.underlying9 info5 u5 x5_1 a1 rfl rfl ?aO ?aB ?aS ?aL ?_; (case aB => exact bw); (case aO => exact (Kd.own_of_R (ro HO_5.out))); (case aS => exact (below_size bw)); (case aL => have := LMc7.out; omega); intro v941 w10 ho0 hb hg; have ho := Kd.R_of_own (h1 := fun _ => rfl) (ok := fun _ => True) ho0 (fun _ _ => trivial); clear ho0; have hat := True.intro; rw [← Ny940.out] at ho; change Kd.R (Kd.int .u8) 5 w10 w.heap.size (fun _ => True) v941 y940 at ho; replace HB := am (hb); have HO942 := am (ho); clear HO_5 ho hb hg hat; have p943 : 0 ≤ (x6_1 : Int) := of_decide_eq_true (by first | (with_reducible assumption) | assumption); have q943 : x6_1 < (l0.length : Int) := of_decide_eq_true (by first | (with_reducible assumption) | assumption); obtain ⟨ad943, e943, hx943_0⟩ := Kd.at_string HR0.out x6_1 p943 q943; cases e943; replace hx943_0 := hw HB hx943_0; replace p943 := eq_true p943; replace q943 := eq_true q943) | (at_builtin; refine print_append_str (w0 := w) w.heap.size rfl (.tmp 19) _ 22 9 5 rfl Try.underlying22 Try.underlying9 info5 v941 y940 (rdOf ByteArray.empty l0 x6_1) rfl rfl ?aO ?aB ?aS ?aL ?_; (case aB => exact bw); (case aO => exact (Kd.own_of_R (ro HO942.out))); (case aS => exact (below_size bw)); (case aL => have := LMc9.out; omega); intro v945 w11 ho0 hb hg; have ho := Kd.R_of_own (h1 := fun _ => rfl) (ok := fun _ => True) ho0 (fun _ _ => trivial); clear ho0; have hat := True.intro; rw [← Ny944.out] at ho; change Kd.R (Kd.int .u8) 5 w11 w.heap.size (fun _ => True) v945 y944 at ho; replace HB := am (hb); have HO946 := am (ho); clear HO942 ho hb hg hat))
     go_roundg k1
     case measure => have := HK1.out; omega
     case rel => exact ⟨(y944), (wrap64 (x6_1 + 1)), rr, H', ⟨by have := HK1.out; omega⟩, ⟨ro HO946.out⟩, ⟨bw⟩⟩
    have c6b0 : decide (0 < x6_1) = false := decide_eq_false c6
    clear c6
    replace H := gd H; obtain ⟨c12b0, H⟩ := H
    by_cases c13 : x5_1.length + (rdOf ByteArray.empty l0 x6_1).size < 140737488355328
    rotate_left
    ·rw [if_neg c13] at H
     exact absurd H (by simp)
    rw [if_pos c13] at H
    have LMc13 := am c13
    clear c13
    obtain ⟨y948, hy948⟩ : ∃ y_ : List Int, y_ = (x5_1 ++ bytesOf (rdOf ByteArray.empty l0 x6_1)) := ⟨_, rfl⟩
    replace H : (spec_Join.l0 k1 l0 a1 y948 (wrap64 (x6_1 + 1))) = some r := by first | (rw [hy948]; with_reducible first | exact H | exact bs H) | (with_reducible first | exact bs H | exact H) | (rw [hy948]; exact H) | exact H
    have Ny948 := am hy948
    clear hy948
    have H' := am H
    clear H
    obtain ⟨⟨ad947, e947, hx947_0⟩, p947, q947⟩ := pq (Kd.at_string HR0.out x6_1)
    cases e947
    replace hx947_0 := hw HB hx947_0
    go_wp2_with (first | (at_builtin; refine print_append_str (w0 := w) w.heap.size rfl (.tmp 19) _ 22 9 5 rfl Try.underlying22 Try.underlying9 info5 u5 x5_1 (rdOf ByteArray.empty l0 x6_1) rfl rfl ?aO ?aB ?aS ?aL ?_; (case aB => exact bw); (case aO => exact (Kd.own_of_R (ro HO_5.out))); (case aS => exact (below_size bw)); (case aL => have := LMc13.out; omega); intro v949 w14 ho0 hb hg; have ho := Kd.R_of_own (h1 := fun _ => rfl) (ok := fun _ => True) ho0 (fun _ _ => trivial); clear ho0; have hat := True.intro; rw [← Ny948.out] at ho; change Kd.R (Kd.int .u8) 5 w14 w.heap.size (fun _ => True) v949 y948 at ho; replace HB := am (hb); have HO950 := am (ho); clear HO_5 ho hb hg hat))
    go_roundg k1
    case measure => have := HK1.out; omega
    case rel => exact ⟨(y948), (wrap64 (x6_1 + 1)), rr, H', ⟨by have := HK1.out; omega⟩, ⟨ro HO950.out⟩, ⟨bw⟩⟩
   obtain rfl := Option.some.inj H
   have hcv15 := own_string (P := Try.prog) Try.underlying22 Try.underlying5 Try.underlying9 (Kd.own_of_R HO_5.out)
   go_wp2
   go_ret
   exact ⟨re, bw⟩


/-! ### spec_ListText: function 88 -/
def spec_ListText.l0 : Nat → List Int → List ByteArray → Int → Option (ByteArray)
 | 0, _, _, _ => none
 | k + 1, x0, x3, x4 => if x4 < (x0.length : Int) then (if 0 ≤ x4 then ((spec_FormatInt.f k (rd x0 x4)).bind fun t955 => (if x3.length < 8796093022208 then (spec_ListText.l0 k x0 (x3 ++ [t955]) (wrap64 (x4 + 1))) else (none))) else (none)) else ((spec_Join.f k x3 (⟨#[44]⟩ : ByteArray)).bind fun t959 => (some t959))
def spec_ListText.f (k : Nat) (l0 : List Int) : Option (ByteArray) := if (l0.length : Int) = 0 then (some (⟨#[110, 111, 110, 101]⟩ : ByteArray)) else (spec_ListText.l0 k l0 (([] : List ByteArray)) 0)
set_option maxHeartbeats 8000000 in
set_option maxRecDepth 100000 in
theorem spec_ListText.calls (k : Nat) (A0 : Option Addr) (c0 : Nat) (l0 : List Int) (r : ByteArray) (w : World) (hr0 : Kd.C (Kd.int .i64) w A0 l0.length l0) (hc0 : l0.length ≤ c0) (h : spec_ListText.f k l0 = some r) :
  Calls Try.prog 88 #[.slice A0 l0.length c0] w fun e w' => e = .returned (.string r) ∧ Below w.heap.size w w' := by
 have HR0 := am hr0
 have HC0 := am hc0
 clear hr0 hc0
 have HB := am (Below.refl w.heap.size w)
 have H : (if (l0.length : Int) = 0 then (some (⟨#[110, 111, 110, 101]⟩ : ByteArray)) else (spec_ListText.l0 k l0 (([] : List ByteArray)) 0)) = some r := h
 clear h
 by_cases c2 : (l0.length : Int) = 0
 ·rw [if_pos c2] at H
  have c2b0 : ((l0.length : Int) == 0) = true := beq_iff_eq.mpr c2
  have c2b1 : ((l0.length : Int) != 0) = false := bne_eq_false_iff_eq.mpr c2
  clear c2
  obtain rfl := Option.some.inj H
  go_enter Try.func88, Try.ntmps88
  go_wp2
  go_ret
  exact ⟨re, bw⟩
 rw [if_neg c2] at H
 have c2b0 : ((l0.length : Int) == 0) = false := beq_eq_false_iff_ne.mpr c2
 have c2b1 : ((l0.length : Int) != 0) = true := bne_iff_ne.mpr c2
 have c2b2 : ¬ (l0 = []) := fun h_ => c2 (by rw [h_]; rfl)
 obtain ⟨y951, hy951⟩ : ∃ y_ : List ByteArray, y_ = (([] : List ByteArray)) := ⟨_, rfl⟩
 replace H : (spec_ListText.l0 k l0 y951 0) = some r := by first | (rw [hy951]; with_reducible first | exact H | exact bs H) | (with_reducible first | exact bs H | exact H) | (rw [hy951]; exact H) | exact H
 have Ny951 := am hy951
 clear hy951
 have H' := am H
 clear H
 go_enter Try.func88, Try.ntmps88
 go_wp2_with (first | ((with_reducible refine gate_dst (N := 8) rfl ?_); refine Kd.R_lit Kd.string _ 9 ?hg (N := 8) ?hd (xs := ([] : List ByteArray)) (inner := []) (ok := fun _ => True) (okp := fun _ => True) ?hr ?hp (fun _ hk => hk) trivial (Below.refl _ _) (Nat.le_refl _) (by simp) ?_; (case hd => rfl); (case hg => rfl); (case hr => first | (go_simp; done) | (go_simp; rfl)); (case hp => exact (Reps.none _ _)); intro v952 w3 ho4 hb hg_ hnew_; clear hg_ hnew_; (first | rw [← Ny951.out] at ho4 | (simp only [Int.reduceToNat] at ho4; rw [← Ny951.out] at ho4)); have HO953 := am (Kd.R_lower ho4 (below_size bw)); replace HB := am (below_step bw hb); clear hb ho4))
 go_loopg [3, 4] k (fun kq v3 v4 w' => ∃ (x3_1 : List ByteArray) (x4_1 : Int), v4 = .int .i64 x4_1 ∧ Aside0 (spec_ListText.l0 kq l0 x3_1 x4_1 = some r) ∧ Aside0 (kq ≤ k) ∧ Aside0 (Kd.R Kd.string 9 w' w.heap.size (fun _ => True) v3 x3_1) ∧ Aside0 (Below w.heap.size w w'))
 case atStart => exact ⟨(y951), (0), rr, H', ⟨Nat.le_refl _⟩, ⟨ro HO953.out⟩, ⟨bw⟩⟩
 case round =>
  clear H'
  try clear c2; try clear c2b0; try clear c2b1; try clear c2b2
  obtain ⟨x3_1, x4_1, rfl, HA, HK1, HO_3, HB⟩ := hrel
  cases gk with
  | zero => exact absurd HA.out (by simp [spec_ListText.l0])
  | succ k1 =>
   have H := HA.out
   clear HA
   simp only [spec_ListText.l0] at H
   replace H := gi H; obtain ⟨c5b0, H⟩ | ⟨c5b0, H⟩ := H
   ·replace H := gd H; obtain ⟨c6b0, H⟩ := H
    replace H := ga H; obtain ⟨t955, A7, H⟩ := H
    by_cases c8 : x3_1.length < 8796093022208
    rotate_left
    ·rw [if_neg c8] at H
     exact absurd H (by simp)
    rw [if_pos c8] at H
    have LMc8 := am c8
    clear c8
    obtain ⟨y956, hy956⟩ : ∃ y_ : List ByteArray, y_ = (x3_1 ++ [t955]) := ⟨_, rfl⟩
    replace H : (spec_ListText.l0 k1 l0 y956 (wrap64 (x4_1 + 1))) = some r := by first | (rw [hy956]; with_reducible first | exact H | exact bs H) | (with_reducible first | exact bs H | exact H) | (rw [hy956]; exact H) | exact H
    have Ny956 := am hy956
    clear hy956
    have H' := am H
    clear H
    obtain ⟨⟨ad954, e954, hx954_0⟩, p954, q954⟩ := pq (Kd.at_int HR0.out x4_1)
    cases e954
    replace hx954_0 := hw HB hx954_0
    go_wp2_with (first | ((with_reducible refine gate_callee (f := 195) rfl ?_); refine gl (some 20) Try.func195 #[.int .i64 (rd l0 x4_1)] ?_; (with_reducible refine (spec_FormatInt.calls k1 (rd l0 x4_1) t955 _ A7.out).mono ?_); rintro e w9 ⟨rfl, hb⟩; refine ⟨_, rfl, ?_⟩; replace HO_3 := rK HO_3 hb; replace HB := am (below_step bw hb); clear hb) | ((with_reducible refine gate_builtin (b := .append) (xs := #[.tmp 15, .tmp 21]) rfl ?_); at_builtin; refine Kd.R_append Kd.string (w0 := w) w.heap.size rfl (.tmp 15) (.tmp 21) 123 9 (.string ⟨#[]⟩) 16 rfl Try.underlying123 info9 rfl (by decide) (by omega) u3 x3_1 t955 [.string t955] (fun _ => True) (fun _ => False) rfl rfl ?aP (fun _ hk => hk.elim) ?aF ?aO ?aB ?aS ?aL ?_; (case aP => exact rfl); (case aB => exact bw); (case aF => exact (fun _ _ => trivial)); (case aO => exact (ro HO_3.out)); (case aS => exact (below_size bw)); (case aL => have := LMc8.out; omega); intro v957 w10 ho hb hg hat; rw [← Ny956.out] at ho; replace HB := am (hb); have HO958 := am (ho); clear HO_3 ho hb hg hat))
    go_roundg k1
    case measure => have := HK1.out; omega
    case rel => exact ⟨(y956), (wrap64 (x4_1 + 1)), rr, H', ⟨by have := HK1.out; omega⟩, ⟨ro HO958.out⟩, ⟨bw⟩⟩
   replace H := ga H; obtain ⟨t959, A11, H⟩ := H
   obtain rfl := Option.some.inj H
   obtain ⟨Ao12, co12, eo12⟩ := Kd.R_slice HO_3.out
   subst eo12
   go_wp2_with (first | ((with_reducible refine gate_callee (f := 196) rfl ?_); refine gl (some 24) Try.func196 #[.slice Ao12 x3_1.length co12, .string (⟨#[44]⟩ : ByteArray)] ?_; (with_reducible refine (spec_Join.calls k1 _ _ x3_1 (⟨#[44]⟩ : ByteArray) t959 _ ?side1 ?side2 A11.out).mono ?_); (case side1 => exact co (Kd.R_reads' HO_3.out).2.2); (case side2 => exact (Kd.R_reads' HO_3.out).2.1); rintro e w13 ⟨rfl, hb⟩; refine ⟨_, rfl, ?_⟩; replace HO_3 := rK HO_3 hb; replace HB := am (below_step bw hb); clear hb))
   go_ret
   exact ⟨re, bw⟩


/-! ### impl_reach: function 152 -/
def impl_reach.p (is : List Bool) (d : Int) : Option Bool := if d ≥ 200 then some true else if d ≥ 0 then (if d < (is.length : Int) then some (rdOf false is d) else none) else some false
def impl_reach.f (k : Nat) (l0_0 : List Int) : Option (Int → Option Bool) := (impl_IsSemigroup.f k l0_0).bind fun t => if t = true then (impl_table.f k l0_0 200).bind fun is => some (impl_reach.p is) else some (fun _ => some false)
set_option maxHeartbeats 8000000 in
theorem impl_reach.c1 (w : World) : FnR1 Try.prog w (.func (.func 218) #[] #[]) (fun _ => some false) :=
 ⟨218, #[], rfl, (fun args w => enters_ Try.func218 (by kernel_rfl) rfl args w), fun W _ d b h => by
  obtain rfl := Option.some.inj h
  show Calls Try.prog 218 #[.int .i64 d] W _
  go_enter Try.func218, Try.ntmps218
  go_wp2
  go_ret
  exact ⟨rfl, dw⟩⟩
set_option maxHeartbeats 8000000 in
theorem impl_reach.c2 (w : World) (g : Nat) (A : Option Addr) (c : Nat) (is : List Bool) (hbox : w.heap[g]? = some (.cells #[.slice A is.length c] 109 (0, 0))) (hC : Kd.C Kd.bool w A is.length is) :
  FnR1 Try.prog w (.func (.func 219) #[] #[.pointer (some ⟨g, 0, none⟩)]) (impl_reach.p is) :=
 ⟨219, _, rfl, (fun args w => enters_ Try.func219 (by kernel_rfl) rfl args w), fun W hb d b h => by
  show Calls Try.prog 219 #[.int .i64 d, .pointer (some ⟨g, 0, none⟩)] W _
  have hbox' := blk_below hbox hb
  have hC' := Kd.C_below hC hb
  have hcz : W.cell? ⟨g, 0, none⟩ = some (.slice A is.length c) := (blk_cell hbox' 0).trans rfl
  clear hbox hC hbox' hb
  unfold impl_reach.p at h
  replace h := gj h; obtain ⟨c1, h⟩ | ⟨c1, h⟩ := h
  ·obtain rfl := Option.some.inj h
   have c1b0 : decide (200 ≤ d) = true := decide_eq_true c1
   clear hC' hcz c1
   go_enter Try.func219, Try.ntmps219
   go_wp2
   go_ret
   exact ⟨re, dw⟩
  ·have c1b0 : decide (200 ≤ d) = false := decide_eq_false c1
   clear c1
   replace h := gj h; obtain ⟨c2, h⟩ | ⟨c2, h⟩ := h
   ·have c2b0 : decide (0 ≤ d) = true := decide_eq_true c2
    replace h := gd h; obtain ⟨c3b0, h⟩ := h
    obtain rfl := Option.some.inj h
    clear c2
    obtain ⟨⟨ad, e0, hx⟩, p1, q1⟩ := pq (Kd.at_bool hC' d)
    cases e0
    clear hC'
    go_enter Try.func219, Try.ntmps219
    go_wp2
    go_ret
    exact ⟨re, dw⟩
   ·have c2b0 : decide (0 ≤ d) = false := decide_eq_false c2
    obtain rfl := Option.some.inj h
    clear hC' hcz c2
    go_enter Try.func219, Try.ntmps219
    go_wp2
    go_ret
    exact ⟨re, dw⟩⟩
set_option maxHeartbeats 8000000 in
set_option maxRecDepth 100000 in
theorem impl_reach.calls (k : Nat) (A0_0 : Option Addr) (c0_0 : Nat) (l0_0 : List Int) (r : Int → Option Bool) (w : World) (hr0_0 : Kd.C (Kd.int .i64) w A0_0 l0_0.length l0_0) (hc0_0 : l0_0.length ≤ c0_0) (h : impl_reach.f k l0_0 = some r) :
  Calls Try.prog 152 #[.agg #[.slice A0_0 l0_0.length c0_0]] w fun e w' => ∃ v0_ : Value, e = .returned v0_ ∧ FnR1 Try.prog w' v0_ r ∧ Below w.heap.size w w' := by
 have hu27 := Try.underlying26
 have hu66 := Try.underlying109
 have HR0_0 := Aside0.mk hr0_0
 have HC0_0 := Aside0.mk hc0_0
 clear hr0_0 hc0_0
 have HB := Aside0.mk (Below.refl w.heap.size w)
 have H : ((impl_IsSemigroup.f k l0_0).bind fun t => if t = true then (impl_table.f k l0_0 200).bind fun is => some (impl_reach.p is) else some (fun _ => some false)) = some r := h
 clear h
 replace H := ga H; obtain ⟨t1, A1, H⟩ := H
 replace H := gb H; obtain ⟨rfl, H⟩ | ⟨rfl, H⟩ := H
 ·replace H := ga H; obtain ⟨t2, A2, H⟩ := H
  obtain rfl := Option.some.inj H
  clear H
  go_enter Try.func152, Try.ntmps152
  go_wp2_with (first | ((with_reducible refine gate_dst (N := 1) rfl ?_); refine bx 1 #[.slice A0_0 l0_0.length c0_0] 26 ?_; intro gb1 hg w1 hbox hb; have BK1 := Aside0.mk hbox; replace HB := Aside0.mk (below_step bw hb); clear hb hbox hg; have hcz1 := bc BK1 0 (.slice A0_0 l0_0.length c0_0); have hfz1 := blk_frozen BK1.out 0) | ((with_reducible refine gate_callee (f := 151) rfl ?_); refine gl (some 5) Try.func151 #[.agg #[.slice A0_0 l0_0.length c0_0]] ?_; (with_reducible refine (impl_IsSemigroup.calls k _ _ l0_0 true _ ?side1 ?side2 A1.out).mono ?_); (case side1 => exact co (Kd.C_below HR0_0.out HB.out)); (case side2 => exact HC0_0.out); rintro e w2 ⟨rfl, hb⟩; refine ⟨_, rfl, ?_⟩; clear hcz1 hfz1; replace BK1 := Aside0.mk (blk_below (g := gb1) (o := .cells #[.slice A0_0 l0_0.length c0_0] 26 (0, 0)) (bo BK1.out) hb); replace HB := Aside0.mk (below_step bw hb); clear hb; have hcz1 := bc BK1 0 (.slice A0_0 l0_0.length c0_0); have hfz1 := blk_frozen BK1.out 0) | ((with_reducible refine gate_callee (f := 157) rfl ?_); refine gl (some 8) Try.func157 #[.agg #[.slice A0_0 l0_0.length c0_0], .int .i64 200] ?_; (with_reducible refine (impl_table.calls k _ _ l0_0 200 t2 _ ?side1 ?side2 A2.out).mono ?_); (case side1 => exact co (Kd.C_below HR0_0.out HB.out)); (case side2 => exact HC0_0.out); rintro e w3 ⟨v2, rfl, ho0, hb⟩; refine ⟨_, rfl, ?_⟩; clear hcz1 hfz1 BK1; have HO2 := Aside0.mk (Kd.R_lower ho0 (below_size bw)); replace HB := Aside0.mk (below_step bw hb); clear hb ho0; obtain ⟨Ao2, co2, eo2⟩ := Kd.R_slice HO2.out; subst eo2) | ((with_reducible refine gate_dst (N := 3) rfl ?_); refine bx 3 #[.slice none 0 0] 109 ?_; intro gb3 hg w4 hbox hb; have GE3 := Aside0.mk (gs hg : w.heap.size ≤ gb3); replace HO2 := Aside0.mk (Kd.R_below (ro HO2.out) hb); have BK3 := Aside0.mk hbox; replace HB := Aside0.mk (below_step bw hb); clear hb hbox hg; have hcz3 := bc BK3 0 (.slice none 0 0); have hfz3 := blk_frozen BK3.out 0))
  go_ret
  exact ⟨_, rfl, impl_reach.c2 _ gb3 Ao2 co2 t2 (by (with_reducible repeat (first | refine blk_drewN ?_ _ | refine blk_drew ?_ | refine blk_alloc ?_ _)); exact blk_put (cs := #[.slice none 0 0]) (bo BK3.out) 0 _ rfl) (co (Kd.R_reads' (Kd.R_far (p := ⟨gb3, 0, none⟩) (Kd.R_types HO2.out BK3.out (by decide)) (fun _ hk => hk.2) (.slice Ao2 t2.length co2))).2.2), bw⟩
 ·obtain rfl := Option.some.inj H
  clear H
  go_enter Try.func152, Try.ntmps152
  go_wp2_with (first | ((with_reducible refine gate_dst (N := 1) rfl ?_); refine bx 1 #[.slice A0_0 l0_0.length c0_0] 26 ?_; intro gb1 hg w1 hbox hb; have BK1 := Aside0.mk hbox; replace HB := Aside0.mk (below_step bw hb); clear hb hbox hg; have hcz1 := bc BK1 0 (.slice A0_0 l0_0.length c0_0); have hfz1 := blk_frozen BK1.out 0) | ((with_reducible refine gate_callee (f := 151) rfl ?_); refine gl (some 5) Try.func151 #[.agg #[.slice A0_0 l0_0.length c0_0]] ?_; (with_reducible refine (impl_IsSemigroup.calls k _ _ l0_0 false _ ?side1 ?side2 A1.out).mono ?_); (case side1 => exact co (Kd.C_below HR0_0.out HB.out)); (case side2 => exact HC0_0.out); rintro e w2 ⟨rfl, hb⟩; refine ⟨_, rfl, ?_⟩; clear hcz1 hfz1 BK1; replace HB := Aside0.mk (below_step bw hb); clear hb))
  go_ret
  exact ⟨_, rfl, impl_reach.c1 _, bw⟩


/-! ### impl_extreme: function 208 -/
mutual
def impl_extreme.j0 : Nat → List Int → (Int → Int → Option Bool) → Bool → Option (List Int)
 | 0, _, _, _ => none
 | k + 1, x1, x2, x21 => if x21 = true then (some ([] : List Int)) else ((impl_SortList.f x1).bind fun t963 => (impl_extreme.l0 k x2 t963 (([] : List Int)) t963 (t963.length : Int) 0))
def impl_extreme.l0 : Nat → (Int → Int → Option Bool) → List Int → List Int → List Int → Int → Int → Option (List Int)
 | 0, _, _, _, _, _, _ => none
 | k + 1, x2, x7, x8, x25, x26, x27 => if x27 < x26 then (if 0 ≤ x27 then (if x27 < (x25.length : Int) then (impl_extreme.l1 k x2 x7 x8 (rd x25 x27) true x25 x26 x27 x7 (x7.length : Int) 0) else (none)) else (none)) else (some x8)
def impl_extreme.l1 : Nat → (Int → Int → Option Bool) → List Int → List Int → Int → Bool → List Int → Int → Int → List Int → Int → Int → Option (List Int)
 | 0, _, _, _, _, _, _, _, _, _, _, _ => none
 | k + 1, x2, x7, x8, x10, x11, x25, x26, x27, x31, x32, x33 => if x33 < x32 then (if 0 ≤ x33 then (if x33 < (x31.length : Int) then (if x11 = true then (if x10 = (rd x31 x33) then (impl_extreme.l1 k x2 x7 x8 x10 true x25 x26 x27 x31 x32 (wrap64 (x33 + 1))) else ((apF2.f x2 x10 (rd x31 x33)).bind fun t971 => (impl_extreme.l1 k x2 x7 x8 x10 (!t971) x25 x26 x27 x31 x32 (wrap64 (x33 + 1))))) else (impl_extreme.l1 k x2 x7 x8 x10 false x25 x26 x27 x31 x32 (wrap64 (x33 + 1)))) else (none)) else (none)) else (if x11 = true then (if x8.length < 17592186044416 then (impl_extreme.l0 k x2 x7 (x8 ++ [x10]) x25 x26 (wrap64 (x27 + 1))) else (none)) else (impl_extreme.l0 k x2 x7 x8 x25 x26 (wrap64 (x27 + 1))))
end
def impl_extreme.f (k : Nat) (l0_0 : List Int) (l1 : List Int) (a2 : (Int → Int → Option Bool)) : Option (List Int) := (impl_IsSemigroup.f k l0_0).bind fun t961 => (if t961 = true then ((impl_allWithin.f k l1 (-1000000) 1000000).bind fun t962 => (impl_extreme.j0 k l1 a2 (!t962))) else (impl_extreme.j0 k l1 a2 true))
set_option maxHeartbeats 8000000 in
set_option maxRecDepth 100000 in
theorem impl_extreme.calls (k : Nat) (A0_0 : Option Addr) (c0_0 : Nat) (l0_0 : List Int) (A1 : Option Addr) (c1 : Nat) (l1 : List Int) (a2 : (Int → Int → Option Bool)) (F_a2 : Value) (r : List Int) (w : World) (hr0_0 : Kd.C (Kd.int .i64) w A0_0 l0_0.length l0_0) (hc0_0 : l0_0.length ≤ c0_0) (hr1 : Kd.C (Kd.int .i64) w A1 l1.length l1) (hc1 : l1.length ≤ c1) (hF_a2 : FnR2 Try.prog w F_a2 a2) (h : impl_extreme.f k l0_0 l1 a2 = some r) :
  Calls Try.prog 208 #[.agg #[.slice A0_0 l0_0.length c0_0], .slice A1 l1.length c1, F_a2] w fun e w' => ∃ v0_ : Value, e = .returned (v0_) ∧ Kd.R (Kd.int .i64) 3 w' w.heap.size (fun _ => True) v0_ r ∧ Below w.heap.size w w' := by
 have hu26 := Try.underlying26
 have HR0_0 := am hr0_0
 have HC0_0 := am hc0_0
 clear hr0_0 hc0_0
 have HR1 := am hr1
 have HC1 := am hc1
 clear hr1 hc1
 have HB := am (Below.refl w.heap.size w)
 obtain ⟨gF_a2, lF_a2, rfl, eF_a2, hF_a2⟩ := hF_a2
 have H : ((impl_IsSemigroup.f k l0_0).bind fun t961 => (if t961 = true then ((impl_allWithin.f k l1 (-1000000) 1000000).bind fun t962 => (impl_extreme.j0 k l1 a2 (!t962))) else (impl_extreme.j0 k l1 a2 true))) = some r := h
 clear h
 have HC4 := am H
 clear H
 go_enter Try.func208, Try.ntmps208
 go_upto_region 1 with (first | ((with_reducible refine gate_dst (N := 3) rfl ?_); refine bx 3 #[.slice A0_0 l0_0.length c0_0] 26 ?_; intro gb960 hg w5 hbox hb; have BK960 := am (hbox); have GW960 := am (gs hg : w.heap.size ≤ gb960); have GE960 := GW960; replace HB := am (below_step bw hb); clear hb hbox hg))
 (try simp only [Act.put, List.setIfInBounds_toArray, List.set_cons_zero, List.set_cons_succ])
 go_cut [21] (fun v21 wc => ∃ (kq : Nat) (x21_3 : Bool), v21 = .bool x21_3 ∧ Aside0 (impl_extreme.j0 kq l1 a2 x21_3 = some r) ∧ Aside0 (kq ≤ k) ∧ Aside0 (wc.heap[gb960]? = some (.cells #[(.slice A0_0 l0_0.length c0_0)] 26 (0, 0))) ∧ Aside0 (Below w.heap.size w wc))
 case first =>
  have H := HC4.out
  clear HC4
  replace H := ga H; obtain ⟨t961, A6, H⟩ := H
  replace H := gb H; obtain ⟨rfl, H⟩ | ⟨rfl, H⟩ := H
  ·replace H := ga H; obtain ⟨t962, A8, H⟩ := H
   have H' := am H
   clear H
   have hcz9_0 := bc BK960 0 (.slice A0_0 l0_0.length c0_0)
   have hfz9_0 := blk_frozen BK960.out 0
   go_wp2_with (first | ((with_reducible refine gate_callee (f := 151) rfl ?_); refine gl (some 15) Try.func151 #[.agg #[.slice A0_0 l0_0.length c0_0]] ?_; (with_reducible refine (impl_IsSemigroup.calls k _ _ l0_0 true _ ?side1 ?side2 A6.out).mono ?_); (case side1 => exact co (Kd.C_below HR0_0.out HB.out)); (case side2 => exact HC0_0.out); rintro e w10 ⟨rfl, hb⟩; refine ⟨_, rfl, ?_⟩; replace BK960 := kb BK960 hb; replace HB := am (below_step bw hb); clear hb) | (go_at_call 135; (with_reducible refine (impl_allWithin.calls k _ _ l1 (-1000000) 1000000 t962 _ ?side1 ?side2 A8.out).mono ?_); (case side1 => exact co (Kd.C_below HR1.out HB.out)); (case side2 => exact HC1.out); rintro e w' ⟨rfl, ⟨nd, rfl⟩⟩))
   go_meet
   case rel => exact ⟨_, (!t962), rr, H', ⟨om⟩, ⟨bo BK960.out⟩, ⟨bw⟩⟩
  have H' := am H
  clear H
  have hcz11_0 := bc BK960 0 (.slice A0_0 l0_0.length c0_0)
  have hfz11_0 := blk_frozen BK960.out 0
  go_wp2_with (first | ((with_reducible refine gate_callee (f := 151) rfl ?_); refine gl (some 15) Try.func151 #[.agg #[.slice A0_0 l0_0.length c0_0]] ?_; (with_reducible refine (impl_IsSemigroup.calls k _ _ l0_0 false _ ?side1 ?side2 A6.out).mono ?_); (case side1 => exact co (Kd.C_below HR0_0.out HB.out)); (case side2 => exact HC0_0.out); rintro e w12 ⟨rfl, hb⟩; refine ⟨_, rfl, ?_⟩; replace BK960 := kb BK960 hb; replace HB := am (below_step bw hb); clear hb))
  go_meet
  case rel => exact ⟨_, (true), rr, H', ⟨om⟩, ⟨bo BK960.out⟩, ⟨bw⟩⟩
 case rest =>
  clear HC4
  try clear c1; try clear hcz11_0; try clear hcz9_0; try clear hfz11_0; try clear hfz9_0
  obtain ⟨kq, x21_3, rfl, HA, HJ3, BK960, HB⟩ := hcut
  cases kq with
  | zero => exact absurd HA.out (by simp [impl_extreme.j0])
  | succ kj3 =>
   have H := HA.out
   clear HA
   simp only [impl_extreme.j0] at H
   replace H := gb H; obtain ⟨rfl, H⟩ | ⟨rfl, H⟩ := H
   ·obtain rfl := Option.some.inj H
    go_wp2
    go_ret
    exact ⟨_, re, by first | exact Kd.R_nil _ _ _ _ _ | exact Kd.N_nil _ _ _ _ _ | exact Kd.V_nil _ _ _ _ _ | exact Kd.Q_nil _ _ _ _ _ | exact Kd.S_nil _ _ _ _ _, bw⟩
   replace H := ga H; obtain ⟨t963, A14, H⟩ := H
   obtain ⟨y966, hy966⟩ : ∃ y_ : List Int, y_ = (([] : List Int)) := ⟨_, rfl⟩
   replace H : (impl_extreme.l0 kj3 a2 t963 y966 t963 (t963.length : Int) 0) = some r := by first | (rw [hy966]; with_reducible first | exact H | exact bs H) | (with_reducible first | exact bs H | exact H) | (rw [hy966]; exact H) | exact H
   have Ny966 := am hy966
   clear hy966
   have H' := am H
   clear H
   go_wp2_with (first | ((with_reducible refine gate_callee (f := 89) rfl ?_); refine gl (some 23) Try.func89 #[.slice A1 l1.length c1] ?_; (with_reducible refine (impl_SortList.calls _ _ l1 t963 _ ?side1 ?side2 A14.out).mono ?_); (case side1 => exact co (Kd.C_below HR1.out HB.out)); (case side2 => exact HC1.out); rintro e w15 ⟨v964, rfl, ho0, hb⟩; refine ⟨_, rfl, ?_⟩; have HO965 := am (Kd.R_lower ho0 (below_size bw)); replace BK960 := kb BK960 hb; replace HB := am (below_step bw hb); clear hb ho0) | ((with_reducible refine gate_dst (N := 24) rfl ?_); refine Kd.R_lit (Kd.int .i64) _ 3 ?hg (N := 24) ?hd (xs := ([] : List Int)) (inner := []) (ok := fun _ => True) (okp := fun _ => True) ?hr ?hp (fun _ hk => hk) trivial (Below.refl _ _) (Nat.le_refl _) (by simp) ?_; (case hd => rfl); (case hg => rfl); (case hr => first | (go_simp; done) | (go_simp; rfl)); (case hp => exact (Reps.none _ _)); intro v967 w16 ho17 hb hg_ hnew_; clear hg_ hnew_; (first | rw [← Ny966.out] at ho17 | (simp only [Int.reduceToNat] at ho17; rw [← Ny966.out] at ho17)); have HO968 := am (Kd.R_lower (Kd.R_new' ho17 (Kd.R_lt (ro HO965.out))) (below_size bw)); replace HO965 := am (Kd.R_elder' (ro HO965.out) (Kd.R_base ho17) hb); replace BK960 := kb BK960 hb; replace HB := am (below_step bw hb); clear hb ho17; obtain ⟨Ao18, co18, eo18⟩ := Kd.R_slice HO965.out; subst eo18))
   go_loopg [8, 27] kj3 (fun kq v8 v27 w' => ∃ (x8_2 : List Int) (x27_2 : Int), v27 = .int .i64 x27_2 ∧ Aside0 (impl_extreme.l0 kq a2 t963 x8_2 t963 (t963.length : Int) x27_2 = some r) ∧ Aside0 (kq ≤ kj3) ∧ Aside0 (Kd.R (Kd.int .i64) 3 w' w.heap.size (fun k_ => some k_ ≠ (v8 : Value).ownBlock) (.slice Ao18 t963.length co18) t963) ∧ Aside0 (Kd.R (Kd.int .i64) 3 w' w.heap.size (fun k_ => nb k_ Ao18 t963 co18 ∧ nb k_ Ao18 t963 co18) v8 x8_2) ∧ Aside0 (Kd.R (Kd.int .i64) 3 w' w.heap.size (fun k_ => some k_ ≠ (v8 : Value).ownBlock) (.slice Ao18 t963.length co18) t963) ∧ Aside0 (w'.heap[gb960]? = some (.cells #[(.slice A0_0 l0_0.length c0_0)] 26 (0, 0))) ∧ Aside0 (Below w.heap.size w w'))
   case atStart => exact ⟨(y966), (0), rr, H', ⟨Nat.le_refl _⟩, ⟨by (with_reducible repeat (first | apply Kd.R_alloc | apply Kd.R_drewN | apply Kd.R_drew)); exact Kd.R_mono HO965.out (fun _ hk => hk.2)⟩, ⟨by (with_reducible repeat (first | apply Kd.R_alloc | apply Kd.R_drewN | apply Kd.R_drew)); exact Kd.R_mono HO968.out (fun _ hk => by first | exact ⟨hk.2, hk.2⟩ | simp_all)⟩, ⟨by (with_reducible repeat (first | apply Kd.R_alloc | apply Kd.R_drewN | apply Kd.R_drew)); exact Kd.R_mono HO965.out (fun _ hk => hk.2)⟩, ⟨bo BK960.out⟩, ⟨bw⟩⟩
   case round =>
    clear H'
    try clear c1; try clear hcz11_0; try clear hcz9_0; try clear hfz11_0; try clear hfz9_0
    obtain ⟨x8_2, x27_2, rfl, HA, HK2, HO_7, HO_8, HO_25, BK960, HB⟩ := hrel
    cases gk with
    | zero => exact absurd HA.out (by simp [impl_extreme.l0])
    | succ k2 =>
     have H := HA.out
     clear HA
     simp only [impl_extreme.l0] at H
     replace H := gi H; obtain ⟨c19b0, H⟩ | ⟨c19b0, H⟩ := H
     ·replace H := gd H; obtain ⟨c20b0, H⟩ := H
      replace H := gd H; obtain ⟨c21b0, H⟩ := H
      have H' := am H
      clear H
      obtain ⟨⟨ad969, e969, hx969_0⟩, p969, q969⟩ := pq (Kd.at_int (Kd.R_reads' HO_25.out).2.2 x27_2)
      cases e969
      go_wp2
      go_loopg [11, 33] k2 (fun kq v11 v33 w' => ∃ (x11_3 : Bool) (x33_3 : Int), v11 = .bool x11_3 ∧ v33 = .int .i64 x33_3 ∧ Aside0 (impl_extreme.l1 kq a2 t963 x8_2 (rd t963 x27_2) x11_3 t963 (t963.length : Int) x27_2 t963 (t963.length : Int) x33_3 = some r) ∧ Aside0 (kq ≤ k2) ∧ Aside0 (Kd.R (Kd.int .i64) 3 w' w.heap.size (fun k_ => some k_ ≠ (u8 : Value).ownBlock) (.slice (some ad969) t963.length co18) t963) ∧ Aside0 (Kd.R (Kd.int .i64) 3 w' w.heap.size (fun k_ => some k_ ≠ ((.slice (some ad969) t963.length co18) : Value).ownBlock ∧ some k_ ≠ ((.slice (some ad969) t963.length co18) : Value).ownBlock ∧ some k_ ≠ ((.slice (some ad969) t963.length co18) : Value).ownBlock) u8 x8_2) ∧ Aside0 (Kd.R (Kd.int .i64) 3 w' w.heap.size (fun k_ => some k_ ≠ (u8 : Value).ownBlock) (.slice (some ad969) t963.length co18) t963) ∧ Aside0 (Kd.R (Kd.int .i64) 3 w' w.heap.size (fun k_ => some k_ ≠ (u8 : Value).ownBlock) (.slice (some ad969) t963.length co18) t963) ∧ Aside0 (w'.heap[gb960]? = some (.cells #[(.slice A0_0 l0_0.length c0_0)] 26 (0, 0))) ∧ Aside0 (Below w.heap.size w w'))
      case atStart => exact ⟨(true), (0), rr, rr, H', ⟨Nat.le_refl _⟩, ⟨ro HO_7.out⟩, ⟨by (with_reducible repeat (first | apply Kd.R_alloc | apply Kd.R_drewN | apply Kd.R_drew)); exact Kd.R_mono HO_8.out (fun _ hk => ⟨hk.1, ⟨hk.2, hk.1⟩⟩)⟩, ⟨ro HO_25.out⟩, ⟨ro HO_7.out⟩, ⟨bo BK960.out⟩, ⟨bw⟩⟩
      case round =>
       clear H'
       try clear c1; try clear c19b0; try clear c20b0; try clear c21b0; try clear hcz11_0; try clear hcz9_0; try clear hfz11_0; try clear hfz9_0; try clear hx969_0; try clear p969; try clear q969
       obtain ⟨x11_3, x33_3, rfl, rfl, HA, HK3, HO_7, HO_8, HO_25, HO_31, BK960, HB⟩ := hrel
       cases gk with
       | zero => exact absurd HA.out (by simp [impl_extreme.l1])
       | succ k3 =>
        have H := HA.out
        clear HA
        simp only [impl_extreme.l1] at H
        replace H := gi H; obtain ⟨c22b0, H⟩ | ⟨c22b0, H⟩ := H
        ·replace H := gd H; obtain ⟨c23b0, H⟩ := H
         replace H := gd H; obtain ⟨c24b0, H⟩ := H
         replace H := gb H; obtain ⟨rfl, H⟩ | ⟨rfl, H⟩ := H
         ·by_cases c26 : (rd t963 x27_2) = (rd t963 x33_3)
          ·rw [if_pos c26] at H
           have c26b0 : ((rd t963 x27_2) == (rd t963 x33_3)) = true := beq_iff_eq.mpr c26
           have c26b1 : ((rd t963 x27_2) != (rd t963 x33_3)) = false := bne_eq_false_iff_eq.mpr c26
           clear c26
           have H' := am H
           clear H
           obtain ⟨⟨ad970, e970, hx970_0⟩, p970, q970⟩ := pq (Kd.at_int (Kd.R_reads' HO_31.out).2.2 x33_3)
           obtain rfl : ad969 = ad970 := (by injection e970)
           go_wp2
           go_roundg k3
           case measure => have := HJ3.out; have := HK2.out; have := HK3.out; omega
           case rel => exact ⟨(true), (wrap64 (x33_3 + 1)), rr, rr, H', ⟨by have := HJ3.out; have := HK2.out; have := HK3.out; omega⟩, ⟨ro HO_7.out⟩, ⟨ro HO_8.out⟩, ⟨ro HO_25.out⟩, ⟨ro HO_31.out⟩, ⟨bo BK960.out⟩, ⟨bw⟩⟩
          rw [if_neg c26] at H
          have c26b0 : ((rd t963 x27_2) == (rd t963 x33_3)) = false := beq_eq_false_iff_ne.mpr c26
          have c26b1 : ((rd t963 x27_2) != (rd t963 x33_3)) = true := bne_iff_ne.mpr c26
          replace H := ga H; obtain ⟨t971, A27, H⟩ := H
          have H' := am H
          clear H
          obtain ⟨⟨ad970, e970, hx970_0⟩, p970, q970⟩ := pq (Kd.at_int (Kd.R_reads' HO_31.out).2.2 x33_3)
          obtain rfl : ad969 = ad970 := (by injection e970)
          go_wp2_with (first | (go_at_fn gF_a2; (with_reducible refine (hF_a2 _ bw (rd t963 x27_2) (rd t963 x33_3) t971 A27.out).mono ?_); rintro e w' ⟨rfl, ⟨nd, rfl⟩⟩))
          go_roundg k3
          case measure => have := HJ3.out; have := HK2.out; have := HK3.out; omega
          case rel => exact ⟨(!t971), (wrap64 (x33_3 + 1)), rr, rr, H', ⟨by have := HJ3.out; have := HK2.out; have := HK3.out; omega⟩, ⟨ro HO_7.out⟩, ⟨ro HO_8.out⟩, ⟨ro HO_25.out⟩, ⟨ro HO_31.out⟩, ⟨bo BK960.out⟩, ⟨bw⟩⟩
         have H' := am H
         clear H
         obtain ⟨⟨ad970, e970, hx970_0⟩, p970, q970⟩ := pq (Kd.at_int (Kd.R_reads' HO_31.out).2.2 x33_3)
         obtain rfl : ad969 = ad970 := (by injection e970)
         go_wp2
         go_roundg k3
         case measure => have := HJ3.out; have := HK2.out; have := HK3.out; omega
         case rel => exact ⟨(false), (wrap64 (x33_3 + 1)), rr, rr, H', ⟨by have := HJ3.out; have := HK2.out; have := HK3.out; omega⟩, ⟨ro HO_7.out⟩, ⟨ro HO_8.out⟩, ⟨ro HO_25.out⟩, ⟨ro HO_31.out⟩, ⟨bo BK960.out⟩, ⟨bw⟩⟩
        replace H := gb H; obtain ⟨rfl, H⟩ | ⟨rfl, H⟩ := H
        ·by_cases c29 : x8_2.length < 17592186044416
         rotate_left
         ·rw [if_neg c29] at H
          exact absurd H (by simp)
         rw [if_pos c29] at H
         have LMc29 := am c29
         clear c29
         obtain ⟨y972, hy972⟩ : ∃ y_ : List Int, y_ = (x8_2 ++ [(rd t963 x27_2)]) := ⟨_, rfl⟩
         replace H : (impl_extreme.l0 k3 a2 t963 y972 t963 (t963.length : Int) (wrap64 (x27_2 + 1))) = some r := by first | (rw [hy972]; with_reducible first | exact H | exact bs H) | (with_reducible first | exact bs H | exact H) | (rw [hy972]; exact H) | exact H
         have Ny972 := am hy972
         clear hy972
         have H' := am H
         clear H
         go_wp2_with (first | ((with_reducible refine gate_builtin (b := .append) (xs := #[.tmp 52, .tmp 54]) rfl ?_); at_builtin; refine Kd.R_append (Kd.int .i64) (w0 := w) w.heap.size rfl (.tmp 52) (.tmp 54) 24 3 (.int .i64 0) 8 rfl Try.underlying24 info3 rfl (by decide) (by omega) u8 x8_2 (rd t963 x27_2) [.int .i64 (rd t963 x27_2)] (fun k_ => some k_ ≠ (.slice (some ad969) t963.length co18 : Value).ownBlock ∧ some k_ ≠ (.slice (some ad969) t963.length co18 : Value).ownBlock ∧ some k_ ≠ (.slice (some ad969) t963.length co18 : Value).ownBlock) (fun _ => False) rfl rfl ?aP (fun _ hk => hk.elim) ?aF ?aO ?aB ?aS ?aL ?_; (case aP => exact rfl); (case aB => exact bw); (case aF => exact (fun k_ hk => ⟨Kd.fresh' (Kd.R_lt (ro HO_7.out)) k_ hk, Kd.fresh' (Kd.R_lt (ro HO_25.out)) k_ hk, Kd.fresh' (Kd.R_lt (ro HO_31.out)) k_ hk⟩)); (case aO => exact (ro HO_8.out)); (case aS => exact (below_size bw)); (case aL => have := LMc29.out; omega); intro v973 w30 ho hb hg hat; rw [← Ny972.out] at ho; replace HO_7 := am (Kd.R_after (ok := (fun _ => True)) (by (with_reducible repeat (first | apply Kd.R_alloc | apply Kd.R_drewN | apply Kd.R_drew)); exact Kd.R_mono HO_7.out (fun _ hk => ⟨trivial, by first | exact hk | exact (by intro a n m c x h; cases a <;> exact h : ∀ (a : Option Addr) (n m c x : Nat), some x ≠ (Value.slice a n c).ownBlock → some x ≠ (Value.slice a m c).ownBlock) _ _ _ _ _ hk⟩)) hg hat); replace HO_25 := am (Kd.R_after (ok := (fun _ => True)) (by (with_reducible repeat (first | apply Kd.R_alloc | apply Kd.R_drewN | apply Kd.R_drew)); exact Kd.R_mono HO_25.out (fun _ hk => ⟨trivial, by first | exact hk | exact (by intro a n m c x h; cases a <;> exact h : ∀ (a : Option Addr) (n m c x : Nat), some x ≠ (Value.slice a n c).ownBlock → some x ≠ (Value.slice a m c).ownBlock) _ _ _ _ _ hk⟩)) hg hat); replace HO_31 := am (Kd.R_after (ok := (fun _ => True)) (by (with_reducible repeat (first | apply Kd.R_alloc | apply Kd.R_drewN | apply Kd.R_drew)); exact Kd.R_mono HO_31.out (fun _ hk => ⟨trivial, by first | exact hk | exact (by intro a n m c x h; cases a <;> exact h : ∀ (a : Option Addr) (n m c x : Nat), some x ≠ (Value.slice a n c).ownBlock → some x ≠ (Value.slice a m c).ownBlock) _ _ _ _ _ hk⟩)) hg hat); replace BK960 := am (blk_grown (g := gb960) (o := .cells #[.slice A0_0 l0_0.length c0_0] 26 (0, 0)) (bo BK960.out) hg (Kd.R_ne HO_8.out BK960.out (by decide))); replace HB := am (hb); have HO974 := am (ho); clear HO_8 ho hb hg hat))
         go_roundg k3
         case measure => have := HJ3.out; have := HK2.out; have := HK3.out; omega
         case rel => exact ⟨(y972), (wrap64 (x27_2 + 1)), rr, H', ⟨by have := HJ3.out; have := HK2.out; have := HK3.out; omega⟩, ⟨by (with_reducible repeat (first | apply Kd.R_alloc | apply Kd.R_drewN | apply Kd.R_drew)); exact Kd.R_mono HO_7.out (fun _ hk => hk.2)⟩, ⟨by (with_reducible repeat (first | apply Kd.R_alloc | apply Kd.R_drewN | apply Kd.R_drew)); exact Kd.R_mono HO974.out (fun _ hk => by first | exact ⟨hk.1, hk.2.1⟩ | simp_all)⟩, ⟨by (with_reducible repeat (first | apply Kd.R_alloc | apply Kd.R_drewN | apply Kd.R_drew)); exact Kd.R_mono HO_25.out (fun _ hk => hk.2)⟩, ⟨bo BK960.out⟩, ⟨bw⟩⟩
        have H' := am H
        clear H
        go_wp2
        go_roundg k3
        case measure => have := HJ3.out; have := HK2.out; have := HK3.out; omega
        case rel => exact ⟨(x8_2), (wrap64 (x27_2 + 1)), rr, H', ⟨by have := HJ3.out; have := HK2.out; have := HK3.out; omega⟩, ⟨ro HO_7.out⟩, ⟨by (with_reducible repeat (first | apply Kd.R_alloc | apply Kd.R_drewN | apply Kd.R_drew)); exact Kd.R_mono HO_8.out (fun _ hk => by first | exact ⟨hk.1, hk.2.1⟩ | simp_all)⟩, ⟨ro HO_25.out⟩, ⟨bo BK960.out⟩, ⟨bw⟩⟩
     obtain rfl := Option.some.inj H
     go_wp2
     go_ret
     exact ⟨_, re, by (with_reducible repeat (first | apply Kd.R_alloc | apply Kd.R_drewN | apply Kd.R_drew)); exact Kd.R_mono HO_8.out (fun _ hk => trivial), bw⟩

end Go.Proofs.Ytkfplkdchkmgbaa.C
