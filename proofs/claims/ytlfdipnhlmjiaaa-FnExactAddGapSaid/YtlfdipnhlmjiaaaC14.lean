/- Contracts of functions of the program: impl_SpecialGaps, slices_Clone_int_int, impl_lacking, impl_AddGap. -/
import Derived.Test.YtlfdipnhlmjiaaaC0
import Derived.Test.YtlfdipnhlmjiaaaC11
import Derived.Test.YtlfdipnhlmjiaaaC13
namespace Go.Proofs.Ytlfdipnhlmjiaaa.C
open Go.RowKit Go.Proofs.YtlfdipnhlmjiaaaW.PrintWords Go.Proofs.YtlfdipnhlmjiaaaW.PrintLast Go.Proofs.YtlfdipnhlmjiaaaW.PrintMore
attribute [local go_sem] max2_int min2_int max_two min_two max_three min_three max_four min_four
set_option linter.unusedVariables false
set_option linter.unusedSimpArgs false

/-! ### impl_SpecialGaps: function 101 -/
def impl_SpecialGaps.l0 : Nat → List Int → List Int → Int → Int → List Int → Option (List Int)
 | 0, _, _, _, _, _ => none
 | k + 1, x3, x8, x9, x10, x727000 => if x10 < x9 then (if 0 ≤ x10 then (if x10 < (x8.length : Int) then ((impl_Contains.f k x727000 (wrap64 (2 * (rd x8 x10)))).bind fun t734 => (if t734 = true then (if x3.length < 17592186044416 then (impl_SpecialGaps.l0 k (x3 ++ [rd x8 x10]) x8 x9 (wrap64 (x10 + 1)) x727000) else (none)) else (impl_SpecialGaps.l0 k x3 x8 x9 (wrap64 (x10 + 1)) x727000))) else (none)) else (none)) else (some x3)
def impl_SpecialGaps.f (k : Nat) (l0_0 : List Int) : Option (List Int) := (impl_PseudoFrobenius.f k l0_0).bind fun t730 => (impl_SpecialGaps.l0 k (([] : List Int)) t730 (t730.length : Int) 0 l0_0)
set_option maxHeartbeats 8000000 in
set_option maxRecDepth 100000 in
theorem impl_SpecialGaps.calls (k : Nat) (A0_0 : Option Addr) (c0_0 : Nat) (l0_0 : List Int) (r : List Int) (w : World) (hr0_0 : Kd.C (Kd.int .i64) w A0_0 l0_0.length l0_0) (hc0_0 : l0_0.length ≤ c0_0) (h : impl_SpecialGaps.f k l0_0 = some r) :
  Calls Try.prog 101 #[.agg #[.slice A0_0 l0_0.length c0_0]] w fun e w' => ∃ v0_ : Value, e = .returned (v0_) ∧ Kd.R (Kd.int .i64) 3 w' w.heap.size (fun _ => True) v0_ r ∧ Below w.heap.size w w' := by
 have hu27 := Try.underlying27
 have HR0_0 := Aside0.mk hr0_0
 have HC0_0 := Aside0.mk hc0_0
 clear hr0_0 hc0_0
 have HB := Aside0.mk (Below.refl w.heap.size w)
 have H : ((impl_PseudoFrobenius.f k l0_0).bind fun t730 => (impl_SpecialGaps.l0 k (([] : List Int)) t730 (t730.length : Int) 0 l0_0)) = some r := h
 clear h
 obtain ⟨y727, hy727⟩ : ∃ y_ : List Int, y_ = (([] : List Int)) := ⟨_, rfl⟩
 replace H : ((impl_PseudoFrobenius.f k l0_0).bind fun t730 => (impl_SpecialGaps.l0 k y727 t730 (t730.length : Int) 0 l0_0)) = some r := by first | (rw [hy727]; with_reducible exact H) | (have H2_ := (Option.bind_some _ _).symm.trans H; rw [hy727]; with_reducible exact H2_) | (have H2_ := (Option.bind_some _ _).symm.trans H; with_reducible exact H2_) | with_reducible exact H | (rw [hy727]; exact H) | exact H
 have Ny727 := Aside0.mk hy727
 clear hy727
 replace H := ga H; obtain ⟨t730, A2, H⟩ := H
 have H' := Aside0.mk H
 clear H
 go_enter Try.func101, Try.ntmps101
 go_wp2_with (first | ((with_reducible refine gate_dst (N := 1) rfl ?_); refine bx 1 #[.slice A0_0 l0_0.length c0_0] 27 ?_; intro gb726 hg w3 hbox hb; have BK726 := Aside0.mk (hbox); have GW726 := Aside0.mk (gs hg : w.heap.size ≤ gb726); have GE726 := Aside0.mk (gs hg : w.heap.size ≤ gb726); replace HB := Aside0.mk (below_step bw hb); clear hb hbox hg) | ((with_reducible refine gate_dst (N := 6) rfl ?_); refine Kd.R_lit (Kd.int .i64) _ 3 ?hg (N := 6) ?hd (xs := ([] : List Int)) (inner := []) (ok := fun _ => True) (okp := fun _ => True) ?hr ?hp (fun _ hk => hk) trivial (Below.refl _ _) (Nat.le_refl _) (by simp) ?_; (case hd => rfl); (case hg => rfl); (case hr => first | (go_simp; done) | (go_simp; rfl)); (case hp => exact (Reps.none _ _)); intro v728 w4 ho5 hb hg_ hnew_; clear hg_ hnew_; (first | rw [← Ny727.out] at ho5 | (simp only [Int.reduceToNat] at ho5; rw [← Ny727.out] at ho5)); have HO729 := Aside0.mk (Kd.R_lower ho5 (below_size bw)); replace BK726 := Aside0.mk (blk_below (g := gb726) (o := .cells #[.slice A0_0 l0_0.length c0_0] 27 (0, 0)) (bo BK726.out) hb); replace HB := Aside0.mk (below_step bw hb); clear hb ho5; have hcz6_0 := bc BK726 0 (.slice A0_0 l0_0.length c0_0); have hfz6_0 := blk_frozen BK726.out 0) | ((with_reducible refine gate_callee (f := 136) rfl ?_); refine gl (some 8) Try.func136 #[.agg #[.slice A0_0 l0_0.length c0_0]] ?_; (with_reducible refine (impl_PseudoFrobenius.calls k _ _ l0_0 t730 _ ?side1 ?side2 A2.out).mono ?_); (case side1 => exact co (Kd.C_below HR0_0.out HB.out)); (case side2 => exact HC0_0.out); rintro e w7 ⟨v731, rfl, ho0, hb⟩; refine ⟨_, rfl, ?_⟩; have HO732 := Aside0.mk (Kd.R_lower (Kd.R_new' ho0 (Kd.R_lt (ro HO729.out))) (below_size bw)); replace HO729 := Aside0.mk (Kd.R_elder' (ro HO729.out) (Kd.R_base ho0) hb); replace BK726 := Aside0.mk (blk_below (g := gb726) (o := .cells #[.slice A0_0 l0_0.length c0_0] 27 (0, 0)) (bo BK726.out) hb); replace HB := Aside0.mk (below_step bw hb); clear hb ho0; obtain ⟨Ao8, co8, eo8⟩ := Kd.R_slice HO732.out; subst eo8))
 go_loopg [3, 10] k (fun kq v3 v10 w' => ∃ (x3_1 : List Int) (x10_1 : Int), v10 = .int .i64 x10_1 ∧ Aside0 (impl_SpecialGaps.l0 kq x3_1 t730 (t730.length : Int) x10_1 l0_0 = some r) ∧ Aside0 (kq ≤ k) ∧ Aside0 (Kd.R (Kd.int .i64) 3 w' w.heap.size (fun k_ => some k_ ≠ ((.slice Ao8 t730.length co8) : Value).ownBlock) v3 x3_1) ∧ Aside0 (Kd.R (Kd.int .i64) 3 w' w.heap.size (fun k_ => some k_ ≠ (v3 : Value).ownBlock) (.slice Ao8 t730.length co8) t730) ∧ Aside0 (w'.heap[gb726]? = some (.cells #[(.slice A0_0 l0_0.length c0_0)] 27 (0, 0))) ∧ Aside0 (Below w.heap.size w w'))
 case atStart => exact ⟨(y727), (0), rr, H', ⟨Nat.le_refl _⟩, ⟨by (with_reducible repeat (first | apply Kd.R_alloc | apply Kd.R_drewN | apply Kd.R_drew)); exact Kd.R_mono HO729.out (fun _ hk => hk.2)⟩, ⟨by (with_reducible repeat (first | apply Kd.R_alloc | apply Kd.R_drewN | apply Kd.R_drew)); exact Kd.R_mono HO732.out (fun _ hk => hk.2)⟩, ⟨bo BK726.out⟩, ⟨bw⟩⟩
 case round =>
  clear H'
  try clear hcz6_0; try clear hfz6_0
  obtain ⟨x3_1, x10_1, rfl, HA, HK1, HO_3, HO_8, BK726, HB⟩ := hrel
  cases gk with
  | zero => exact absurd HA.out (by simp [impl_SpecialGaps.l0])
  | succ k1 =>
   have H := HA.out
   clear HA
   simp only [impl_SpecialGaps.l0] at H
   replace H := gi H; obtain ⟨c9b0, H⟩ | ⟨c9b0, H⟩ := H
   ·replace H := gd H; obtain ⟨c10b0, H⟩ := H
    replace H := gd H; obtain ⟨c11b0, H⟩ := H
    replace H := ga H; obtain ⟨t734, A12, H⟩ := H
    replace H := gb H; obtain ⟨rfl, H⟩ | ⟨rfl, H⟩ := H
    ·by_cases c14 : x3_1.length < 17592186044416
     rotate_left
     ·rw [if_neg c14] at H
      exact absurd H (by simp)
     rw [if_pos c14] at H
     have LMc14 := Aside0.mk c14
     clear c14
     obtain ⟨y735, hy735⟩ : ∃ y_ : List Int, y_ = (x3_1 ++ [rd t730 x10_1]) := ⟨_, rfl⟩
     replace H : (impl_SpecialGaps.l0 k1 y735 t730 (t730.length : Int) (wrap64 (x10_1 + 1)) l0_0) = some r := by first | (rw [hy735]; with_reducible exact H) | (have H2_ := (Option.bind_some _ _).symm.trans H; rw [hy735]; with_reducible exact H2_) | (have H2_ := (Option.bind_some _ _).symm.trans H; with_reducible exact H2_) | with_reducible exact H | (rw [hy735]; exact H) | exact H
     have Ny735 := Aside0.mk hy735
     clear hy735
     have H' := Aside0.mk H
     clear H
     obtain ⟨⟨ad733, e733, hx733_0⟩, p733, q733⟩ := pq (Kd.at_int (Kd.R_reads' HO_8.out).2.2 x10_1)
     cases e733
     have hcz15_0 := bc BK726 0 (.slice A0_0 l0_0.length c0_0)
     have hfz15_0 := blk_frozen BK726.out 0
     go_wp2_with (first | ((with_reducible refine gate_callee (f := 137) rfl ?_); refine gl (some 17) Try.func137 #[.agg #[.slice A0_0 l0_0.length c0_0], .int .i64 (wrap64 (2 * (rd t730 x10_1)))] ?_; (with_reducible refine (impl_Contains.calls k1 _ _ l0_0 (wrap64 (2 * (rd t730 x10_1))) true _ ?side1 ?side2 A12.out).mono ?_); (case side1 => exact co (Kd.C_below HR0_0.out HB.out)); (case side2 => exact HC0_0.out); rintro e w16 ⟨rfl, hb⟩; refine ⟨_, rfl, ?_⟩; replace HO_3 := Aside0.mk (Kd.R_below (ro HO_3.out) hb); replace HO_8 := Aside0.mk (Kd.R_below (ro HO_8.out) hb); replace BK726 := Aside0.mk (blk_below (g := gb726) (o := .cells #[.slice A0_0 l0_0.length c0_0] 27 (0, 0)) (bo BK726.out) hb); replace HB := Aside0.mk (below_step bw hb); clear hb) | ((with_reducible refine gate_builtin (b := .append) (xs := #[.tmp 18, .tmp 20]) rfl ?_); at_builtin; refine Kd.R_append (Kd.int .i64) (w0 := w) w.heap.size rfl (.tmp 18) (.tmp 20) 22 3 (.int .i64 0) 8 rfl Try.underlying22 info3 rfl (by decide) (by omega) u3 x3_1 (rd t730 x10_1) [.int .i64 (rd t730 x10_1)] (fun k_ => some k_ ≠ (.slice (some ad733) t730.length co8 : Value).ownBlock) (fun _ => False) rfl rfl ?aP (fun _ hk => hk.elim) ?aF ?aO ?aB ?aS ?aL ?_; (case aP => exact rfl); (case aB => exact bw); (case aF => exact (fun k_ hk => Kd.fresh' (Kd.R_lt (ro HO_8.out)) k_ hk)); (case aO => exact (ro HO_3.out)); (case aS => exact (below_size bw)); (case aL => have := LMc14.out; omega); intro v736 w17 ho hb hg hat; rw [← Ny735.out] at ho; replace HO_8 := Aside0.mk (Kd.R_after (ok := (fun _ => True)) (by (with_reducible repeat (first | apply Kd.R_alloc | apply Kd.R_drewN | apply Kd.R_drew)); exact Kd.R_mono HO_8.out (fun _ hk => ⟨trivial, by first | exact hk | exact (by intro a n m c x h; cases a <;> exact h : ∀ (a : Option Addr) (n m c x : Nat), some x ≠ (Value.slice a n c).ownBlock → some x ≠ (Value.slice a m c).ownBlock) _ _ _ _ _ hk⟩)) hg hat); replace BK726 := Aside0.mk (blk_grown (g := gb726) (o := .cells #[.slice A0_0 l0_0.length c0_0] 27 (0, 0)) (bo BK726.out) hg (Kd.R_ne HO_3.out BK726.out (by decide))); replace HB := Aside0.mk (hb); have HO737 := Aside0.mk (ho); clear HO_3 ho hb hg hat))
     go_roundg k1
     case measure => have := HK1.out; omega
     case rel => exact ⟨(y735), (wrap64 (x10_1 + 1)), rr, H', ⟨by have := HK1.out; omega⟩, ⟨ro HO737.out⟩, ⟨by (with_reducible repeat (first | apply Kd.R_alloc | apply Kd.R_drewN | apply Kd.R_drew)); exact Kd.R_mono HO_8.out (fun _ hk => hk.2)⟩, ⟨bo BK726.out⟩, ⟨bw⟩⟩
    ·have H' := Aside0.mk H
     clear H
     obtain ⟨⟨ad733, e733, hx733_0⟩, p733, q733⟩ := pq (Kd.at_int (Kd.R_reads' HO_8.out).2.2 x10_1)
     cases e733
     have hcz18_0 := bc BK726 0 (.slice A0_0 l0_0.length c0_0)
     have hfz18_0 := blk_frozen BK726.out 0
     go_wp2_with (first | ((with_reducible refine gate_callee (f := 137) rfl ?_); refine gl (some 17) Try.func137 #[.agg #[.slice A0_0 l0_0.length c0_0], .int .i64 (wrap64 (2 * (rd t730 x10_1)))] ?_; (with_reducible refine (impl_Contains.calls k1 _ _ l0_0 (wrap64 (2 * (rd t730 x10_1))) false _ ?side1 ?side2 A12.out).mono ?_); (case side1 => exact co (Kd.C_below HR0_0.out HB.out)); (case side2 => exact HC0_0.out); rintro e w19 ⟨rfl, hb⟩; refine ⟨_, rfl, ?_⟩; replace HO_3 := Aside0.mk (Kd.R_below (ro HO_3.out) hb); replace HO_8 := Aside0.mk (Kd.R_below (ro HO_8.out) hb); replace BK726 := Aside0.mk (blk_below (g := gb726) (o := .cells #[.slice A0_0 l0_0.length c0_0] 27 (0, 0)) (bo BK726.out) hb); replace HB := Aside0.mk (below_step bw hb); clear hb))
     go_roundg k1
     case measure => have := HK1.out; omega
     case rel => exact ⟨(x3_1), (wrap64 (x10_1 + 1)), rr, H', ⟨by have := HK1.out; omega⟩, ⟨ro HO_3.out⟩, ⟨ro HO_8.out⟩, ⟨bo BK726.out⟩, ⟨bw⟩⟩
   ·obtain rfl := Option.some.inj H
    go_wp2
    go_ret
    exact ⟨_, re, by (with_reducible repeat (first | apply Kd.R_alloc | apply Kd.R_drewN | apply Kd.R_drew)); exact Kd.R_mono HO_3.out (fun _ hk => trivial), bw⟩


/-! ### slices_Clone_int_int: function 84 -/
def slices_Clone_int_int.f (l0 : List Int) : Option (List Int) := if l0.length < 17592186044416 then some l0 else none
theorem slices_Clone_int_int.calls (A0 : Option Addr) (c0 : Nat) (l0 : List Int) (r : List Int) (w : World) (hr0 : Kd.C (Kd.int .i64) w A0 l0.length l0) (hc0 : l0.length ≤ c0) (h : slices_Clone_int_int.f l0 = some r) :
  Calls Try.prog 84 #[.slice A0 l0.length c0] w fun e w' => ∃ v0_ : Value, e = .returned (v0_) ∧ Kd.R (Kd.int .i64) 3 w' w.heap.size (fun _ => True) v0_ r ∧ Below w.heap.size w w' := by
 unfold slices_Clone_int_int.f at h
 by_cases c : l0.length < 17592186044416
 rotate_left
 ·rw [if_neg c] at h
  cases h
 rw [if_pos c] at h
 obtain rfl := Option.some.inj h
 rcases Nat.eq_zero_or_pos l0.length with e0 | hp
 ·have e1 : l0 = [] := List.eq_nil_of_length_eq_zero e0
  subst e1
  cases A0 with
  | none =>
   refine (Try.slices_Clone_int_nil 0 c0 w).mono ?_
   rintro e w' ⟨rfl, rfl⟩
   exact ⟨_, rfl, Kd.R_nil .., Below.refl _ _⟩
  | some a =>
   refine (Try.slices_Clone_int_zero a c0 w).mono ?_
   rintro e w' ⟨v', rfl, ho, _, hb⟩
   exact ⟨_, rfl, Kd.R_of_own ho (fun _ _ => trivial), hb⟩
 ·obtain ⟨ad, rfl, hc⟩ := hr0.2.2 hp
  obtain ⟨b, off, sp⟩ := ad
  have hcell : ∀ j (hj : j < l0.length), w.cell? (Addr.add ⟨b, off, sp⟩ j) = some (.int .i64 l0[j]) := fun j hj => by
   obtain ⟨c, _, e2, h2⟩ := hc j l0[j] (List.getElem?_eq_getElem hj)
   have := h2 0 (.int .i64 l0[j]) (by rw [show c = [.int .i64 l0[j]] from e2]; rfl)
   rwa [show (Kd.int .i64).sz = 1 from rfl, Nat.mul_one, Nat.add_zero] at this
  have hsp : sp = none := by
   have h1 := hcell 0 hp
   rw [Addr.add, if_pos rfl] at h1
   cases sp with
   | none => rfl
   | some x =>
    unfold World.cell? at h1
    simp only [Option.isSome_some, if_true] at h1
    split at h1 <;> cases h1
  subst hsp
  refine (Try.slices_Clone_int b off l0.length c0 l0 w (Nat.le_refl _) (by omega) (fun j hj => ?_)).mono ?_
  ·have := hcell j hj
   rw [Addr.add] at this
   rw [List.getD_eq_getElem?_getD, List.getElem?_eq_getElem hj, Option.getD_some]
   split at this
   ·rename_i hz
    subst hz
    exact this
   ·exact this
  ·rintro e w' ⟨v', rfl, ho, _, hb⟩
   rw [List.take_length] at ho
   exact ⟨_, rfl, Kd.R_of_own ho (fun _ _ => trivial), hb⟩


/-! ### impl_lacking: function 102 -/
def impl_lacking.f (l0 : List Int) (a1 : Int) : Option (List Int) := (slices_Clone_int_int.f l0).bind fun t => some (t.filter fun x => !decide (x = a1))
theorem impl_lacking.gives (a x : Int) (B : Nat) (W : World) (hc : W.cell? ⟨B, 0, none⟩ = some (.int .i64 a)) : Go.Proofs.FnGives Try.prog 139 #[.pointer (some ⟨B, 0, none⟩)] #[.int .i64 x] (.bool (decide (x = a))) W := by
 show Calls Try.prog 139 #[.int .i64 x, .pointer (some ⟨B, 0, none⟩)] W _
 go_enter Try.func139, Try.ntmps139
 go_wp2
 all_goals (go_ret; exact ⟨by first | rfl | exact congrArg (fun b => Ending.returned (Value.bool b)) (by by_cases h : x = a <;> simp [h]) | simp_all, 0, rfl⟩)
theorem impl_lacking.del (B : Nat) (a : Int) (v : Value) (l : List Int) (w0 w : World) (hB : Below w0.heap.size w0 w) (hR : Kd.R (Kd.int .i64) 3 w w0.heap.size (fun _ => True) v l) (hbox : w.heap[B]? = some (.cells #[.int .i64 a] 3 (0, 0))) (hne : some B ≠ v.ownBlock) (hl : l.length < 17592186044416) :
  Calls Try.prog 138 #[v, .func (.func 139) #[] #[.pointer (some ⟨B, 0, none⟩)]] w fun e w' => ∃ v0_ : Value, e = .returned (v0_) ∧ Kd.R (Kd.int .i64) 3 w' w0.heap.size (fun _ => True) v0_ (l.filter fun x => !decide (x = a)) ∧ Below w0.heap.size w0 w' := by
 have hB1 : B < w.heap.size := (Array.getElem?_eq_some_iff.1 hbox).1
 have hcell : w.cell? ⟨B, 0, none⟩ = some (.int .i64 a) := (blk_cell hbox 0).trans rfl
 rcases (Kd.own_of_R hR).2 with ⟨rfl, hn⟩ | ⟨g, cap, cur, rfl, hb, hg, h1, h2, h3, h4⟩
 ·have e0 : l = [] := List.eq_nil_of_length_eq_zero hn
  subst e0
  have hi := fun fv w => AnyE.slices_IndexFunc_empty Try.lIdx none 0 fv w
  change ∀ fv w, Calls Try.prog 145 _ _ _ at hi
  go_enter Try.func138, Try.ntmps138
  go_wp2_with (go_at_call 145; refine (hi _ _).mono ?_; rintro e w' ⟨rfl, rfl⟩)
  go_ret
  exact ⟨_, rfl, hR, hB⟩
 ·have eg : ∀ args w, (callFunc 139 args).run Try.prog w = .ok (.enter 139 args) w := enters_of Try.func139 (by kernel_rfl) rfl
  have hgB : B ≠ g := fun e => hne (by rw [e]; rfl)
  have hH := Go.holds_of_blockI hg (by rw [← Nat.mul_one l.length]; exact h4)
  have hcon := AnyE.slices_DeleteFunc Try.lDel (Value.int .i64) (fun _ => rfl) (fun x => decide (x = a)) 139 #[.pointer (some ⟨B, 0, none⟩)] eg 0 Try.zeroValue3 g 0 cap l.toArray w
   (fun W x hb => impl_lacking.gives a x B W ((hb.cell (p := ⟨B, 0, none⟩) hB1).trans hcell))
   (fun n os dk x _ => impl_lacking.gives a x B _ (by
    unfold Go.Proofs.sortWorld
    rw [Go.Sort.cell?_grow _ _ _ (by show B < (Go.Sort.putRow _ _ _ _ _).heap.size; rw [Go.Sort.size_putRow]; exact hB1), Go.Sort.cell?_putRow_other _ _ g 0 _ _ (Or.inl hgB)]
    exact hcell)) hH (by simp; omega) (by simpa using h1)
  change Calls Try.prog 138 _ _ _ at hcon
  refine (show Calls Try.prog 138 #[.slice (some ⟨g, 0, none⟩) l.length cap, .func (.func 139) #[] #[.pointer (some ⟨B, 0, none⟩)]] w _ from hcon).mono ?_
  rintro e w' ⟨rfl, q, rfl⟩
  have hk : (l.filter fun x => !decide (x = a)).length ≤ l.length := List.length_filter_le ..
  have hgr := Go.grownBy_sortedI (w := w) (g := g) (n := q) (os := #[]) ((l.filter fun x => !decide (x = a)) ++ List.replicate (l.length - (l.filter fun x => !decide (x = a)).length) 0).toArray
  rw [Go.Sort.grow_empty] at hgr
  have hr := Go.Lib.ownsRow_putRow (q := q) (k := (l.filter fun x => !decide (x = a)).length) (Kd.own_of_R hR) (ys := (l.filter fun x => !decide (x = a)) ++ List.replicate (l.length - (l.filter fun x => !decide (x = a)).length) 0) (by rw [List.length_append, List.length_replicate]; omega) hk
  rw [List.take_left] at hr
  exact ⟨_, rfl, Kd.R_of_own hr (fun _ _ => trivial), ⟨hgr.os.trans hB.os, hgr.tape.trans hB.tape, hgr.output.trans hB.output, Nat.le_trans hB.size hgr.size, fun k hk => (hgr.block k (Nat.lt_of_lt_of_le hk hB.size) (fun e => by injection e with e; omega)).trans (hB.block k hk)⟩⟩
set_option maxHeartbeats 8000000 in
theorem impl_lacking.calls (A0 : Option Addr) (c0 : Nat) (l0 : List Int) (a1 : Int) (r : List Int) (w : World) (hr0 : Kd.C (Kd.int .i64) w A0 l0.length l0) (hc0 : l0.length ≤ c0) (h : impl_lacking.f l0 a1 = some r) :
  Calls Try.prog 102 #[.slice A0 l0.length c0, .int .i64 a1] w fun e w' => ∃ v0_ : Value, e = .returned (v0_) ∧ Kd.R (Kd.int .i64) 3 w' w.heap.size (fun _ => True) v0_ r ∧ Below w.heap.size w w' := by
 have HR0 := Aside0.mk hr0
 have HC0 := Aside0.mk hc0
 clear hr0 hc0
 have HB := Aside0.mk (Below.refl w.heap.size w)
 unfold impl_lacking.f at h
 replace h := ga h; obtain ⟨t, A3, h⟩ := h
 obtain rfl := Option.some.inj h
 clear h
 have e1 : t = l0 ∧ l0.length < 17592186044416 := by
  have h := A3.out
  unfold slices_Clone_int_int.f at h
  by_cases c : l0.length < 17592186044416
  ·rw [if_pos c] at h
   exact ⟨(Option.some.inj h).symm, c⟩
  ·rw [if_neg c] at h
   cases h
 have LM := Aside0.mk (show t.length < 17592186044416 by rw [e1.1]; exact e1.2)
 clear e1
 go_enter Try.func102, Try.ntmps102
 go_wp2_with (first | ((with_reducible refine gate_dst (N := 3) rfl ?_); refine bx 3 #[.int .i64 a1] 3 ?_; intro gb hg w1 hbox hb; have BK := Aside0.mk hbox; replace HB := Aside0.mk (below_step bw hb); clear hb hbox hg) | ((with_reducible refine gate_callee (f := 84) rfl ?_); refine gl (some 6) Try.func84 #[.slice A0 l0.length c0] ?_; (with_reducible refine (slices_Clone_int_int.calls _ _ l0 t _ (by exact co (Kd.C_below HR0.out HB.out)) HC0.out A3.out).mono ?_); rintro e w2 ⟨v1, rfl, ho0, hb⟩; refine ⟨_, rfl, ?_⟩; have NB := Aside0.mk (fun e_ => by have := Kd.R_base ho0 gb e_.symm; have := blk_lt (bo BK.out : _); omega : some gb ≠ v1.ownBlock); have HO := Aside0.mk (Kd.R_lower ho0 (below_size bw)); replace BK := Aside0.mk (blk_below (g := gb) (o := .cells #[.int .i64 a1] 3 (0, 0)) (bo BK.out) hb); replace HB := Aside0.mk (below_step bw hb); clear hb ho0) | ((with_reducible refine gate_callee (f := 138) rfl ?_); refine gl (some 8) Try.func138 #[v1, .func (.func 139) #[] #[.pointer (some ⟨gb, 0, none⟩)]] ?_; (with_reducible refine (impl_lacking.del gb a1 v1 t w _ (by exact bw) (by exact ro HO.out) (by exact bo BK.out) NB.out LM.out).mono ?_); rintro e w3 ⟨v2, rfl, ho0, hb⟩; refine ⟨_, rfl, ?_⟩; have HO2 := Aside0.mk ho0; replace HB := Aside0.mk hb; clear hb ho0))
 go_ret
 exact ⟨_, rfl, ro HO2.out, bw⟩


/-! ### impl_AddGap: function 49 -/
def impl_AddGap.f (k : Nat) (l0_0 : List Int) (a1 : Int) : Option (List Int × Bool) := (impl_SpecialGaps.f k l0_0).bind fun t740 => ((slices_Contains_int_int.f k t740 a1).bind fun t743 => (if t743 = true then ((impl_Gaps.f k l0_0).bind fun t744 => ((impl_lacking.f t744 a1).bind fun t747 => ((impl_FromGaps.f k t747).bind fun bt750 => (some (bt750.1, bt750.2))))) else (some (([] : List Int), false))))
set_option maxHeartbeats 8000000 in
set_option maxRecDepth 100000 in
theorem impl_AddGap.calls (k : Nat) (A0_0 : Option Addr) (c0_0 : Nat) (l0_0 : List Int) (a1 : Int) (r1 : List Int) (r2 : Bool) (w : World) (hr0_0 : Kd.C (Kd.int .i64) w A0_0 l0_0.length l0_0) (hc0_0 : l0_0.length ≤ c0_0) (h : impl_AddGap.f k l0_0 a1 = some (r1, r2)) :
  Calls Try.prog 49 #[.agg #[.slice A0_0 l0_0.length c0_0], .int .i64 a1] w fun e w' => ∃ v0_ : Value, e = .returned (.tuple #[.agg #[v0_], .bool r2]) ∧ Kd.R (Kd.int .i64) 3 w' w.heap.size (fun _ => True) v0_ r1 ∧ Below w.heap.size w w' := by
 have hu27 := Try.underlying27
 have HR0_0 := Aside0.mk hr0_0
 have HC0_0 := Aside0.mk hc0_0
 clear hr0_0 hc0_0
 have HB := Aside0.mk (Below.refl w.heap.size w)
 have H : ((impl_SpecialGaps.f k l0_0).bind fun t740 => ((slices_Contains_int_int.f k t740 a1).bind fun t743 => (if t743 = true then ((impl_Gaps.f k l0_0).bind fun t744 => ((impl_lacking.f t744 a1).bind fun t747 => ((impl_FromGaps.f k t747).bind fun bt750 => (some (bt750.1, bt750.2))))) else (some (([] : List Int), false))))) = some (r1, r2) := h
 clear h
 replace H := ga H; obtain ⟨t740, A3, H⟩ := H
 replace H := ga H; obtain ⟨t743, A4, H⟩ := H
 replace H := gb H; obtain ⟨rfl, H⟩ | ⟨rfl, H⟩ := H
 ·replace H := ga H; obtain ⟨t744, A6, H⟩ := H
  replace H := ga H; obtain ⟨t747, A7, H⟩ := H
  replace H := ga H; obtain ⟨⟨t750, t753⟩, A8, H⟩ := H
  replace H : (some (t750, t753)) = some (r1, r2) := H
  simp only [Option.some.injEq, Prod.mk.injEq] at H
  obtain ⟨rfl, rfl⟩ := H
  go_enter Try.func49, Try.ntmps49
  go_wp2_with (first | ((with_reducible refine gate_dst (N := 2) rfl ?_); refine bx 2 #[.slice A0_0 l0_0.length c0_0] 27 ?_; intro gb738 hg w9 hbox hb; have BK738 := Aside0.mk (hbox); have GW738 := Aside0.mk (gs hg : w.heap.size ≤ gb738); have GE738 := Aside0.mk (gs hg : w.heap.size ≤ gb738); replace HB := Aside0.mk (below_step bw hb); clear hb hbox hg) | ((with_reducible refine gate_dst (N := 4) rfl ?_); refine bx 4 #[.slice none 0 0] 27 ?_; intro gb739 hg w10 hbox hb; have BK739 := Aside0.mk (hbox); have GW739 := Aside0.mk (gs hg : w.heap.size ≤ gb739); have GE739 := Aside0.mk (gs hg : w.heap.size ≤ gb739); replace HB := Aside0.mk (below_step bw hb); have NB738_739 := Aside0.mk ((by rw [hg]; exact Nat.ne_of_lt (blk_lt (g := gb738) (o := .cells #[.slice A0_0 l0_0.length c0_0] 27 (0, 0)) (bo BK738.out)) : gb738 ≠ gb739)); have NB739_738 := Aside0.mk ((by rw [hg]; exact Nat.ne_of_gt (blk_lt (g := gb738) (o := .cells #[.slice A0_0 l0_0.length c0_0] 27 (0, 0)) (bo BK738.out)) : gb739 ≠ gb738)); replace BK738 := Aside0.mk (blk_below (g := gb738) (o := .cells #[.slice A0_0 l0_0.length c0_0] 27 (0, 0)) (bo BK738.out) hb); clear hb hbox hg; have hnb11 := NB738_739.out; have hnc11 := NB739_738.out; have hcz12_0 := bc BK738 0 (.slice A0_0 l0_0.length c0_0); have hfz12_0 := blk_frozen BK738.out 0) | ((with_reducible refine gate_callee (f := 101) rfl ?_); refine gl (some 7) Try.func101 #[.agg #[.slice A0_0 l0_0.length c0_0]] ?_; (with_reducible refine (impl_SpecialGaps.calls k _ _ l0_0 t740 _ ?side1 ?side2 A3.out).mono ?_); (case side1 => exact co (Kd.C_below HR0_0.out HB.out)); (case side2 => exact HC0_0.out); rintro e w13 ⟨v741, rfl, ho0, hb⟩; refine ⟨_, rfl, ?_⟩; have HO742 := Aside0.mk (Kd.R_lower ho0 (below_size bw)); replace BK738 := Aside0.mk (blk_below (g := gb738) (o := .cells #[.slice A0_0 l0_0.length c0_0] 27 (0, 0)) (bo BK738.out) hb); replace BK739 := Aside0.mk (blk_below (g := gb739) (o := .cells #[.slice none 0 0] 27 (0, 0)) (bo BK739.out) hb); replace HB := Aside0.mk (below_step bw hb); clear hb ho0; obtain ⟨Ao14, co14, eo14⟩ := Kd.R_slice HO742.out; subst eo14) | ((with_reducible refine gate_callee (f := 100) rfl ?_); refine gl (some 9) Try.func100 #[.slice Ao14 t740.length co14, .int .i64 a1] ?_; (with_reducible refine (slices_Contains_int_int.calls k _ _ t740 a1 true _ ?side1 ?side2 A4.out).mono ?_); (case side1 => exact co (Kd.R_reads' HO742.out).2.2); (case side2 => exact (Kd.R_reads' HO742.out).2.1); rintro e w' ⟨rfl, ⟨nd, rfl⟩⟩; refine ⟨_, rfl, ?_⟩; (try (rw [drewN_self w13]; generalize hq_ : World.drewN w13 _ = w13; have n0_ : Aside0 (Kd.R (Kd.int .i64) 3 w13 w.heap.size (fun _ => True) (.slice Ao14 t740.length co14) t740) := ⟨by rw [← hq_]; exact (ro HO742.out)⟩; have n1_ : Aside0 (w13.heap[gb738]? = some (.cells #[.slice A0_0 l0_0.length c0_0] 27 (0, 0))) := ⟨by rw [← hq_]; exact (bo BK738.out)⟩; have n2_ : Aside0 (w13.heap[gb739]? = some (.cells #[.slice none 0 0] 27 (0, 0))) := ⟨by rw [← hq_]; exact (bo BK739.out)⟩; have n3_ : Aside0 (Below w.heap.size w w13) := ⟨by rw [← hq_]; exact bw⟩; clear HO742 BK738 BK739 HB hq_; have HO742 := n0_; have BK738 := n1_; have BK739 := n2_; have HB := n3_; clear n0_ n1_ n2_ n3_)); have hcz15_0 := bc BK738 0 (.slice A0_0 l0_0.length c0_0); have hfz15_0 := blk_frozen BK738.out 0) | ((with_reducible refine gate_callee (f := 79) rfl ?_); refine gl (some 13) Try.func79 #[.agg #[.slice A0_0 l0_0.length c0_0]] ?_; (with_reducible refine (impl_Gaps.calls k _ _ l0_0 t744 _ ?side1 ?side2 A6.out).mono ?_); (case side1 => exact co (Kd.C_below HR0_0.out HB.out)); (case side2 => exact HC0_0.out); rintro e w16 ⟨v745, rfl, ho0, hb⟩; refine ⟨_, rfl, ?_⟩; have HO746 := Aside0.mk (Kd.R_lower (Kd.R_new' ho0 (Kd.R_lt (ro HO742.out))) (below_size bw)); replace HO742 := Aside0.mk (Kd.R_elder' (ro HO742.out) (Kd.R_base ho0) hb); replace BK738 := Aside0.mk (blk_below (g := gb738) (o := .cells #[.slice A0_0 l0_0.length c0_0] 27 (0, 0)) (bo BK738.out) hb); replace BK739 := Aside0.mk (blk_below (g := gb739) (o := .cells #[.slice none 0 0] 27 (0, 0)) (bo BK739.out) hb); replace HB := Aside0.mk (below_step bw hb); clear hb ho0; obtain ⟨Ao17, co17, eo17⟩ := Kd.R_slice HO746.out; subst eo17) | ((with_reducible refine gate_callee (f := 102) rfl ?_); refine gl (some 15) Try.func102 #[.slice Ao17 t744.length co17, .int .i64 a1] ?_; (with_reducible refine (impl_lacking.calls _ _ t744 a1 t747 _ ?side1 ?side2 A7.out).mono ?_); (case side1 => exact co (Kd.R_reads' HO746.out).2.2); (case side2 => exact (Kd.R_reads' HO746.out).2.1); rintro e w18 ⟨v748, rfl, ho0, hb⟩; refine ⟨_, rfl, ?_⟩; have HO749 := Aside0.mk (Kd.R_lower (Kd.R_new' (Kd.R_new' ho0 (Kd.R_lt (ro HO742.out))) (Kd.R_lt (ro HO746.out))) (below_size bw)); replace HO742 := Aside0.mk (Kd.R_elder' (ro HO742.out) (Kd.R_base ho0) hb); replace HO746 := Aside0.mk (Kd.R_elder' (ro HO746.out) (Kd.R_base ho0) hb); replace BK738 := Aside0.mk (blk_below (g := gb738) (o := .cells #[.slice A0_0 l0_0.length c0_0] 27 (0, 0)) (bo BK738.out) hb); replace BK739 := Aside0.mk (blk_below (g := gb739) (o := .cells #[.slice none 0 0] 27 (0, 0)) (bo BK739.out) hb); replace HB := Aside0.mk (below_step bw hb); clear hb ho0; obtain ⟨Ao19, co19, eo19⟩ := Kd.R_slice HO749.out; subst eo19) | ((with_reducible refine gate_callee (f := 76) rfl ?_); refine gl (some 16) Try.func76 #[.slice Ao19 t747.length co19] ?_; (with_reducible refine (impl_FromGaps.calls k _ _ t747 t750 t753 _ ?side1 ?side2 A8.out).mono ?_); (case side1 => exact co (Kd.R_reads' HO749.out).2.2); (case side2 => exact (Kd.R_reads' HO749.out).2.1); rintro e w20 ⟨v751, rfl, ho0, hb⟩; refine ⟨_, rfl, ?_⟩; have HO752 := Aside0.mk (Kd.R_lower (Kd.R_new' (Kd.R_new' (Kd.R_new' ho0 (Kd.R_lt (ro HO742.out))) (Kd.R_lt (ro HO746.out))) (Kd.R_lt (ro HO749.out))) (below_size bw)); replace HO742 := Aside0.mk (Kd.R_elder' (ro HO742.out) (Kd.R_base ho0) hb); replace HO746 := Aside0.mk (Kd.R_elder' (ro HO746.out) (Kd.R_base ho0) hb); replace HO749 := Aside0.mk (Kd.R_elder' (ro HO749.out) (Kd.R_base ho0) hb); replace BK738 := Aside0.mk (blk_below (g := gb738) (o := .cells #[.slice A0_0 l0_0.length c0_0] 27 (0, 0)) (bo BK738.out) hb); replace BK739 := Aside0.mk (blk_below (g := gb739) (o := .cells #[.slice none 0 0] 27 (0, 0)) (bo BK739.out) hb); replace HB := Aside0.mk (below_step bw hb); clear hb ho0; obtain ⟨Ao21, co21, eo21⟩ := Kd.R_slice HO752.out; subst eo21; have hcz22_0 := bc BK739 0 (.slice none 0 0); have hfz22_0 := blk_frozen BK739.out 0))
  refine bodyPost_ret (results_ct rfl _ _ gb739 27 #[.slice Ao21 t750.length co21] (0, 0) _ rfl (by (with_reducible repeat (first | refine blk_drewN ?_ _ | refine blk_drew ?_ | refine blk_alloc ?_ _)); refine blk_put (cs := #[.slice none 0 0]) ?_ 0 _ rfl; (with_reducible repeat (first | refine blk_drewN ?_ _ | refine blk_drew ?_ | refine blk_alloc ?_ _)); exact BK739.out) Try.underlying27 rfl (by kernel_rfl)) rfl ?_
  exact ⟨_, re, by (with_reducible repeat (first | apply Kd.R_alloc | apply Kd.R_drewN | apply Kd.R_drew)); exact Kd.R_mono (Kd.R_far (p := ⟨gb739, 0, none⟩) (Kd.R_types HO752.out BK739.out (by decide)) (fun _ hk => hk.2) (.slice Ao21 t750.length co21)) (fun _ hk => trivial), bw⟩
 ·simp only [Option.some.injEq, Prod.mk.injEq] at H
  obtain ⟨rfl, rfl⟩ := H
  go_enter Try.func49, Try.ntmps49
  go_wp2_with (first | ((with_reducible refine gate_dst (N := 2) rfl ?_); refine bx 2 #[.slice A0_0 l0_0.length c0_0] 27 ?_; intro gb738 hg w23 hbox hb; have BK738 := Aside0.mk (hbox); have GW738 := Aside0.mk (gs hg : w.heap.size ≤ gb738); have GE738 := Aside0.mk (gs hg : w.heap.size ≤ gb738); replace HB := Aside0.mk (below_step bw hb); clear hb hbox hg) | ((with_reducible refine gate_dst (N := 4) rfl ?_); refine bx 4 #[.slice none 0 0] 27 ?_; intro gb739 hg w24 hbox hb; have BK739 := Aside0.mk (hbox); have GW739 := Aside0.mk (gs hg : w.heap.size ≤ gb739); have GE739 := Aside0.mk (gs hg : w.heap.size ≤ gb739); replace HB := Aside0.mk (below_step bw hb); have NB738_739 := Aside0.mk ((by rw [hg]; exact Nat.ne_of_lt (blk_lt (g := gb738) (o := .cells #[.slice A0_0 l0_0.length c0_0] 27 (0, 0)) (bo BK738.out)) : gb738 ≠ gb739)); have NB739_738 := Aside0.mk ((by rw [hg]; exact Nat.ne_of_gt (blk_lt (g := gb738) (o := .cells #[.slice A0_0 l0_0.length c0_0] 27 (0, 0)) (bo BK738.out)) : gb739 ≠ gb738)); replace BK738 := Aside0.mk (blk_below (g := gb738) (o := .cells #[.slice A0_0 l0_0.length c0_0] 27 (0, 0)) (bo BK738.out) hb); clear hb hbox hg; have hnb25 := NB738_739.out; have hnc25 := NB739_738.out; have hcz26_0 := bc BK738 0 (.slice A0_0 l0_0.length c0_0); have hfz26_0 := blk_frozen BK738.out 0) | ((with_reducible refine gate_callee (f := 101) rfl ?_); refine gl (some 7) Try.func101 #[.agg #[.slice A0_0 l0_0.length c0_0]] ?_; (with_reducible refine (impl_SpecialGaps.calls k _ _ l0_0 t740 _ ?side1 ?side2 A3.out).mono ?_); (case side1 => exact co (Kd.C_below HR0_0.out HB.out)); (case side2 => exact HC0_0.out); rintro e w27 ⟨v741, rfl, ho0, hb⟩; refine ⟨_, rfl, ?_⟩; have HO742 := Aside0.mk (Kd.R_lower ho0 (below_size bw)); replace BK738 := Aside0.mk (blk_below (g := gb738) (o := .cells #[.slice A0_0 l0_0.length c0_0] 27 (0, 0)) (bo BK738.out) hb); replace BK739 := Aside0.mk (blk_below (g := gb739) (o := .cells #[.slice none 0 0] 27 (0, 0)) (bo BK739.out) hb); replace HB := Aside0.mk (below_step bw hb); clear hb ho0; obtain ⟨Ao28, co28, eo28⟩ := Kd.R_slice HO742.out; subst eo28) | ((with_reducible refine gate_callee (f := 100) rfl ?_); refine gl (some 9) Try.func100 #[.slice Ao28 t740.length co28, .int .i64 a1] ?_; (with_reducible refine (slices_Contains_int_int.calls k _ _ t740 a1 false _ ?side1 ?side2 A4.out).mono ?_); (case side1 => exact co (Kd.R_reads' HO742.out).2.2); (case side2 => exact (Kd.R_reads' HO742.out).2.1); rintro e w' ⟨rfl, ⟨nd, rfl⟩⟩; refine ⟨_, rfl, ?_⟩; (try (rw [drewN_self w27]; generalize hq_ : World.drewN w27 _ = w27; have n0_ : Aside0 (Kd.R (Kd.int .i64) 3 w27 w.heap.size (fun _ => True) (.slice Ao28 t740.length co28) t740) := ⟨by rw [← hq_]; exact (ro HO742.out)⟩; have n1_ : Aside0 (w27.heap[gb738]? = some (.cells #[.slice A0_0 l0_0.length c0_0] 27 (0, 0))) := ⟨by rw [← hq_]; exact (bo BK738.out)⟩; have n2_ : Aside0 (w27.heap[gb739]? = some (.cells #[.slice none 0 0] 27 (0, 0))) := ⟨by rw [← hq_]; exact (bo BK739.out)⟩; have n3_ : Aside0 (Below w.heap.size w w27) := ⟨by rw [← hq_]; exact bw⟩; clear HO742 BK738 BK739 HB hq_; have HO742 := n0_; have BK738 := n1_; have BK739 := n2_; have HB := n3_; clear n0_ n1_ n2_ n3_)); have hcz29_0 := bc BK739 0 (.slice none 0 0); have hfz29_0 := blk_frozen BK739.out 0))
  refine bodyPost_ret (results_ct rfl _ _ gb739 27 #[.slice none 0 0] (0, 0) _ rfl (by (with_reducible repeat (first | refine blk_drewN ?_ _ | refine blk_drew ?_ | refine blk_alloc ?_ _)); refine blk_put (cs := #[.slice none 0 0]) ?_ 0 _ rfl; (with_reducible repeat (first | refine blk_drewN ?_ _ | refine blk_drew ?_ | refine blk_alloc ?_ _)); exact BK739.out) Try.underlying27 rfl (by kernel_rfl)) rfl ?_
  exact ⟨_, re, by first | exact Kd.R_nil _ _ _ _ _ | exact Kd.N_nil _ _ _ _ _ | exact Kd.V_nil _ _ _ _ _ | exact Kd.Q_nil _ _ _ _ _ | exact Kd.S_nil _ _ _ _ _, bw⟩

end Go.Proofs.Ytlfdipnhlmjiaaa.C
