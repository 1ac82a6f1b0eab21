/- Contracts of functions of the program: slices_Sort_int_int, slices_Compact_int_int, impl_SortList. -/
import Derived.Test.YtkfplkdchkmgbaaC0
namespace Go.Proofs.Ytkfplkdchkmgbaa.C
open Go.RowKit Go.Proofs.YtkfplkdchkmgbaaW.PrintWords Go.Proofs.YtkfplkdchkmgbaaW.PrintLast Go.Proofs.YtkfplkdchkmgbaaW.PrintMore
attribute [local go_sem] max2_int min2_int max_two min_two max_three min_three max_four min_four
set_option linter.unusedVariables false
set_option linter.unusedSimpArgs false

/-! ### slices_Sort_int_int: function 197 -/
def slices_Sort_int_int.f (l0 : List Int) : Option (List Int) := if l0.length < 4611686018427387904 then some (l0.mergeSort fun x y => decide (x ≤ y)) else none
theorem slices_Sort_int_int.calls (P0_ : Nat → Prop) (u9000_ : Value) (l0 : List Int) (r : List Int) (w0 w : World) (hB : Below w0.heap.size w0 w) (ho0 : Kd.R (Kd.int .i64) 3 w w0.heap.size P0_ u9000_ l0) (h : slices_Sort_int_int.f l0 = some r) :
  Calls Try.prog 197 #[u9000_] w fun e w' => e = .returned (.tuple #[]) ∧ Kd.R (Kd.int .i64) 3 w' w0.heap.size (fun k_ => (P0_ k_ ∨ w.heap.size ≤ k_)) u9000_ r ∧ Below w0.heap.size w0 w' ∧ Kept w w' (fun k_ => P0_ k_) := by
 unfold slices_Sort_int_int.f at h
 by_cases c : l0.length < 4611686018427387904
 rotate_left
 ·rw [if_neg c] at h
  cases h
 rw [if_pos c] at h
 obtain rfl := Option.some.inj h
 rcases (Kd.own_of_R ho0).2 with ⟨rfl, hn⟩ | ⟨g, cap, cur, rfl, hb, hg, h1, h2, h3, h4⟩
 ·have e0 : l0 = [] := List.eq_nil_of_length_eq_zero hn
  subst e0
  refine (Try.slices_Sort_int_none none 0 w).mono ?_
  rintro e w' ⟨rfl, rfl⟩
  exact ⟨rfl, by rw [List.mergeSort_nil]; exact Kd.R_mono ho0 (fun k hk => .inl hk), hB, Kept.refl _ _⟩
 ·have hl : g < w.heap.size := (Array.getElem?_eq_some_iff.1 hg).1
  refine (Try.slices_Sort_int g 0 cap l0 w (Go.holds_of_blockI hg (by rw [← Nat.mul_one l0.length]; exact h4)) hl c).mono ?_
  rintro e w' ⟨rfl, n, os, rfl⟩
  have hlen : (l0.mergeSort fun x y => decide (x ≤ y)).length = l0.length := List.length_mergeSort ..
  have hgr := Go.grownBy_sortedI (w := w) (g := g) (n := n) (os := os) (l0.mergeSort fun x y => decide (x ≤ y)).toArray
  exact ⟨rfl, Kd.R_of_own (by rw [hlen]; exact Go.ownsRow_sortedI (n := n) (os := os) hlen hb hg h1 h2 h3) (fun k hk => .inl (ho0.1 k hk)),
   ⟨hgr.os.trans hB.os, hgr.tape.trans hB.tape, hgr.output.trans hB.output, Nat.le_trans hB.size hgr.size, fun k hk => (hgr.block k (Nat.lt_of_lt_of_le hk hB.size) (fun e => by injection e with e; omega)).trans (hB.block k hk)⟩,
   ⟨hgr.size, fun i hi hP => hgr.block i hi (fun e => hP (ho0.1 i (by rw [e]; rfl)))⟩⟩


/-! ### slices_Compact_int_int: function 198 -/
def slices_Compact_int_int.f (l0 : List Int) : Option (List Int) := if l0.length ≤ 9223372036854775807 then some (Go.Lib.compact l0) else none
theorem slices_Compact_int_int.calls (P0_ : Nat → Prop) (u9000_ : Value) (l0 : List Int) (r : List Int) (w0 w : World) (hB : Below w0.heap.size w0 w) (ho0 : Kd.R (Kd.int .i64) 3 w w0.heap.size P0_ u9000_ l0) (h : slices_Compact_int_int.f l0 = some r) :
  Calls Try.prog 198 #[u9000_] w fun e w' => ∃ v0_ : Value, e = .returned (v0_) ∧ Kd.R (Kd.int .i64) 3 w' w0.heap.size (fun k_ => (P0_ k_ ∨ w.heap.size ≤ k_)) v0_ r ∧ Below w0.heap.size w0 w' ∧ Kept w w' (fun k_ => P0_ k_) := by
 unfold slices_Compact_int_int.f at h
 by_cases c : l0.length ≤ 9223372036854775807
 rotate_left
 ·rw [if_neg c] at h
  cases h
 rw [if_pos c] at h
 obtain rfl := Option.some.inj h
 rcases (Kd.own_of_R ho0).2 with ⟨rfl, hn⟩ | ⟨g, cap, cur, rfl, hb, hg, h1, h2, h3, h4⟩
 ·have e0 : l0 = [] := List.eq_nil_of_length_eq_zero hn
  subst e0
  refine (Try.slices_Compact_int_empty none 0 w).mono ?_
  rintro e w' ⟨rfl, rfl⟩
  exact ⟨_, rfl, Kd.R_mono (show Kd.R (Kd.int .i64) 3 w' w0.heap.size P0_ (.slice none 0 0) (Go.Lib.compact []) from ho0) (fun k hk => .inl hk), hB, Kept.refl _ _⟩
 ·have hl : g < w.heap.size := (Array.getElem?_eq_some_iff.1 hg).1
  refine (Try.slices_Compact_int g 0 cap l0 w (Go.holds_of_blockI hg (by rw [← Nat.mul_one l0.length]; exact h4)) c h1).mono ?_
  rintro e w' ⟨rfl, q, rfl⟩
  have hk : (Go.Lib.compact l0).length ≤ l0.length := by
   unfold Go.Lib.compact Go.Lib.compactUpTo
   rw [List.length_map]
   exact Nat.le_trans (List.length_filter_le ..) (by rw [List.length_range]; exact Nat.le_refl _)
  have hgr := Go.grownBy_sortedI (w := w) (g := g) (n := q) (os := #[]) (Go.Lib.compact l0 ++ List.replicate (l0.length - (Go.Lib.compact l0).length) 0).toArray
  rw [Go.Sort.grow_empty] at hgr
  have hr := Go.Lib.ownsRow_putRow (q := q) (k := (Go.Lib.compact l0).length) (Kd.own_of_R ho0) (ys := Go.Lib.compact l0 ++ List.replicate (l0.length - (Go.Lib.compact l0).length) 0) (by rw [List.length_append, List.length_replicate]; omega) hk
  rw [List.take_left] at hr
  exact ⟨_, rfl, Kd.R_of_own hr (fun k hk => .inl (ho0.1 k hk)),
   ⟨hgr.os.trans hB.os, hgr.tape.trans hB.tape, hgr.output.trans hB.output, Nat.le_trans hB.size hgr.size, fun k hk => (hgr.block k (Nat.lt_of_lt_of_le hk hB.size) (fun e => by injection e with e; omega)).trans (hB.block k hk)⟩,
   ⟨hgr.size, fun i hi hP => hgr.block i hi (fun e => hP (ho0.1 i (by rw [e]; rfl)))⟩⟩


/-! ### impl_SortList: function 89 -/
def impl_SortList.f (l0 : List Int) : Option (List Int) := (some (([] : List Int) : List Int)).bind fun y789 => (if y789.length + l0.length < 17592186044416 then ((slices_Sort_int_int.f (y789 ++ l0)).bind fun t795 => ((slices_Compact_int_int.f t795).bind fun t796 => (some t796))) else (none))
set_option maxHeartbeats 8000000 in
set_option maxRecDepth 100000 in
theorem impl_SortList.calls (A0 : Option Addr) (c0 : Nat) (l0 : List Int) (r : List Int) (w : World) (hr0 : Kd.C (Kd.int .i64) w A0 l0.length l0) (hc0 : l0.length ≤ c0) (h : impl_SortList.f l0 = some r) :
  Calls Try.prog 89 #[.slice A0 l0.length c0] w fun e w' => ∃ v0_ : Value, e = .returned (v0_) ∧ Kd.R (Kd.int .i64) 3 w' w.heap.size (fun _ => True) v0_ r ∧ Below w.heap.size w w' := by
 have HR0 := am hr0
 have HC0 := am hc0
 clear hr0 hc0
 have HB := am (Below.refl w.heap.size w)
 have H : ((some (([] : List Int) : List Int)).bind fun y789 => (if y789.length + l0.length < 17592186044416 then ((slices_Sort_int_int.f (y789 ++ l0)).bind fun t795 => ((slices_Compact_int_int.f t795).bind fun t796 => (some t796))) else (none))) = some r := h
 clear h
 obtain ⟨y789, hy789⟩ : ∃ y_ : List Int, y_ = (([] : List Int)) := ⟨_, rfl⟩
 replace H : (if y789.length + l0.length < 17592186044416 then ((slices_Sort_int_int.f (y789 ++ l0)).bind fun t795 => ((slices_Compact_int_int.f t795).bind fun t796 => (some t796))) else (none)) = some r := by first | (rw [hy789]; with_reducible exact H) | (have H2_ := (Option.bind_some _ _).symm.trans H; rw [hy789]; with_reducible exact H2_) | (have H2_ := (Option.bind_some _ _).symm.trans H; with_reducible exact H2_) | with_reducible exact H | (rw [hy789]; exact H) | exact H
 have Ny789 := am hy789
 clear hy789
 by_cases c2 : y789.length + l0.length < 17592186044416
 rotate_left
 ·rw [if_neg c2] at H
  exact absurd H (by simp)
 rw [if_pos c2] at H
 have LMc2 := am c2
 clear c2
 obtain ⟨y792, hy792⟩ : ∃ y_ : List Int, y_ = (y789 ++ l0) := ⟨_, rfl⟩
 replace H : ((slices_Sort_int_int.f y792).bind fun t795 => ((slices_Compact_int_int.f t795).bind fun t796 => (some t796))) = some r := by first | (rw [hy792]; with_reducible exact H) | (have H2_ := (Option.bind_some _ _).symm.trans H; rw [hy792]; with_reducible exact H2_) | (have H2_ := (Option.bind_some _ _).symm.trans H; with_reducible exact H2_) | with_reducible exact H | (rw [hy792]; exact H) | exact H
 have Ny792 := am hy792
 clear hy792
 replace H := ga H; obtain ⟨t795, A3, H⟩ := H
 replace H := ga H; obtain ⟨t796, A4, H⟩ := H
 obtain rfl := Option.some.inj H
 go_enter Try.func89, Try.ntmps89
 go_wp2_with (first | ((with_reducible refine gate_dst (N := 4) rfl ?_); refine Kd.R_lit (Kd.int .i64) _ 3 ?hg (N := 4) ?hd (xs := ([] : List Int)) (inner := []) (ok := fun _ => True) (okp := fun _ => True) ?hr ?hp (fun _ hk => hk) trivial (Below.refl _ _) (Nat.le_refl _) (by simp) ?_; (case hd => rfl); (case hg => rfl); (case hr => first | (go_simp; done) | (go_simp; rfl)); (case hp => exact (Reps.none _ _)); intro v790 w5 ho6 hb hg_ hnew_; clear hg_ hnew_; (first | rw [← Ny789.out] at ho6 | (simp only [Int.reduceToNat] at ho6; rw [← Ny789.out] at ho6)); have HO791 := am (Kd.R_lower ho6 (below_size bw)); replace HB := am (below_step bw hb); clear hb ho6) | ((with_reducible refine gate_builtin (b := .append) (xs := #[.tmp 4, .tmp 5]) rfl ?_); at_builtin; refine Kd.R_append_rows (Kd.int .i64) (w0 := w) w.heap.size rfl (.tmp 4) (.tmp 5) 24 3 (.int .i64 0) 8 rfl Try.underlying24 info3 rfl (by decide) (by omega) v790 y789 l0 _ _ _ (fun _ => True) (fun _ => False) rfl rfl ?aO ?aR (fun _ _ h => h) (fun _ h => h.elim) ?aF ?aB ?aS ?aL ?_; (case aR => exact co (Kd.C_below HR0.out HB.out)); (case aB => exact bw); (case aF => exact (fun _ _ => trivial)); (case aO => exact (ro HO791.out)); (case aS => exact (below_size bw)); (case aL => have := LMc2.out; omega); intro v793 w7 ho hb hg hat; rw [← Ny792.out] at ho; replace HB := am (hb); have HO794 := am (ho); clear HO791 ho hb hg hat; obtain ⟨Ao8, co8, eo8⟩ := Kd.R_slice HO794.out; subst eo8) | ((with_reducible refine gate_callee (f := 197) rfl ?_); refine gl (some 8) Try.func197 #[.slice Ao8 y792.length co8] ?_; (with_reducible refine (slices_Sort_int_int.calls (fun k_ => some k_ = (.slice Ao8 y792.length co8 : Value).ownBlock) (.slice Ao8 y792.length co8) y792 t795 w _ ?side1 ?side2 A3.out).mono ?_); (case side1 => exact bw); (case side2 => exact Kd.R_tight rfl HO794.out); rintro e w9 ⟨rfl, hy0, hb, hkp⟩; refine ⟨_, rfl, ?_⟩; replace HO794 := am (Kd.R_reok rfl hy0 (fun k_ e_ => HO794.out.1 k_ e_)); replace HB := am (hb); clear hb hkp hy0) | ((with_reducible refine gate_callee (f := 198) rfl ?_); refine gl (some 10) Try.func198 #[.slice Ao8 y792.length co8] ?_; (with_reducible refine (slices_Compact_int_int.calls (fun k_ => some k_ = (.slice Ao8 y792.length co8 : Value).ownBlock) (.slice Ao8 y792.length co8) t795 t796 w _ ?side1 ?side2 A4.out).mono ?_); (case side1 => exact bw); (case side2 => exact Kd.R_tight rfl HO794.out); rintro e w10 ⟨v797, rfl, ho0, hb, hkp⟩; refine ⟨_, rfl, ?_⟩; have HO798 := am (Kd.R_mono (ok' := fun k_ => True) ho0 (fun k_ hk_ => trivial)); replace HB := am (hb); clear HO794 hb hkp ho0))
 go_ret
 exact ⟨_, re, ro HO798.out, bw⟩

end Go.Proofs.Ytkfplkdchkmgbaa.C
